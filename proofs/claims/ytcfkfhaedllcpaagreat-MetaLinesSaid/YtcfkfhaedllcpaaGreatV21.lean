import Derived.Test.YtcfkfhaedllcpaaGreatV14
import Derived.Test.YtcfkfhaedllcpaaGreatV20
set_option linter.all false
set_option linter.defProp false
set_option maxHeartbeats 8000000
noncomputable section
namespace Go.Gl
open Go.Proofs
attribute [local irreducible] A6 Ar Ah AR AI Ae AQ AT AK Ad AN AO Ay A7 Sat AY A5 Ai W
abbrev BB:=List Bool×List Bool
def GN (x:Fact×Bool) (t:BB):Option BB:=
 if x.1.op≠2\/x.1.cls=1\/x.1.cls=2 then(if x.2 then some t else none)else
 if x.2 then some (t.1,t.2.set x.1.cls.toNat true)else some (t.1.set x.1.cls.toNat true,t.2)
def D3:List Fact->BB->Option BB
 | [],t=>some t
 | x::r,t=>(GN (Av x) t).bind (D3 r)
def Ik (w:AH) (ls:List Fact) (a:Int) (p:List Int) (can:Int->Bool) (s:Int) (t:BB):Option BB:=
 if !EC ls a (p++[s])&& !can s then none else some (if EC ls a (p++[s])then t.1 else t.1.set (Cp w s).toNat true,if can s then t.2 else t.2.set (Cp w s).toNat true)
def Di (w:AH) (ls:List Fact) (a:Int) (p:List Int) (can:Int->Bool):List Int->BB->Option BB
 | [],t=>some t
 | s::r,t=>(Ik w ls a p can s t).bind (Di w ls a p can r)
def H2 (ps:List (List Int)) (c:Nat) (bs:List Bool):List Bool:=if bs.getD c false then(par ps c).foldl (fun b q=>b.set q.toNat true) bs else bs
def B1 (ps:List (List Int)) (n:Nat):Nat->List Bool->List Bool
 | 0,bs=>bs
 | k+1,bs=>H2 ps (n - 1 - k) (B1 ps n k bs)
def HL: ∀(l:List Int) (bs:List Bool),(l.foldl (fun b q=>b.set q.toNat true) bs).length=bs.length
 | [],_=>rfl
 | q::r,bs=>by rw[List.foldl_cons,HL r,List.length_set]
def EX (ps:List (List Int)) (n:Nat): ∀(k:Nat) (bs:List Bool),(B1 ps n k bs).length=bs.length
 | 0,_=>rfl
 | k+1,bs=>by
   rw[B1,H2];split
   .rw[HL,EX ps n k bs]
   .exact EX ps n k bs
def U9 (w:AH) (t:BB):Option (List Bool):=
 if t.2.getD 0 false then none else
 if(List.range (3+w.parents.length)).any (fun c=>(B1 w.parents (3+w.parents.length) w.parents.length (t.1.set 0 false)).getD c false&&t.2.getD c false)then none else some (B1 w.parents (3+w.parents.length) w.parents.length (t.1.set 0 false))
def tO (w:AH):BB:=(List.replicate (3+w.parents.length) false,List.replicate (3+w.parents.length) false)
def Kk (w:AH) (ls:List Fact) (a:Int) (p:List Int) (can:Int->Bool):Option (List Bool):=
 ((D3 (ls.filter (G4 a p)) (tO w)).bind (Di w ls a p can (Bj w.owner.length ls a p))).bind (U9 w)
def xd (o:Option (List Bool)):V:=match o with
 | some m=> .t [.l (bL m) false,.b true]
 | none=> .t [.l [] true,.b false]
def Np: ∀(xs ys:List Fact) (t:BB),D3 (xs++ys) t=(D3 xs t).bind (D3 ys)
 | [],_,_=>rfl
 | x::r,ys,t=>by
   simp only[List.cons_append,D3];cases GN (Av x) t with
   | none=>rfl
   | some u=>exact Np r ys u
def IZ {os:List Fact} {k:Nat} {x:Fact} (hx:os[k]? =some x) (t:BB):D3 (os.take (k+1)) t=(D3 (os.take k) t).bind (GN (Av x)):=by
 rw[AL hx,Np];congr 1;funext u;simp only[D3];cases GN (Av x) u<;>rfl
def Yj {os:List Fact} (k:Nat) {t:BB} (h:D3 (os.take k) t=none):D3 os t=none:=by
 rw[<-List.take_append_drop k os,Np,h];rfl
def No {w:AH} {ls:List Fact} {a:Int} {p:List Int} {can:Int->Bool}: ∀(xs ys:List Int) (t:BB),Di w ls a p can (xs++ys) t=(Di w ls a p can xs t).bind (Di w ls a p can ys)
 | [],_,_=>rfl
 | x::r,ys,t=>by
   simp only[List.cons_append,Di];cases Ik w ls a p can x t with
   | none=>rfl
   | some u=>exact No r ys u
def IY {w:AH} {ls:List Fact} {a:Int} {p:List Int} {can:Int->Bool} {os:List Int} {k:Nat} {x:Int} (hx:os[k]? =some x) (t:BB):Di w ls a p can (os.take (k+1)) t=(Di w ls a p can (os.take k) t).bind (Ik w ls a p can x):=by
 rw[AL hx,No];congr 1;funext u;simp only[Di];cases Ik w ls a p can x u<;>rfl
def Yi {w:AH} {ls:List Fact} {a:Int} {p:List Int} {can:Int->Bool} {os:List Int} (k:Nat) {t:BB} (h:Di w ls a p can (os.take k) t=none):Di w ls a p can os t=none:=by
 rw[<-List.take_append_drop k os,No,h];rfl
def J5 {n:Nat} {ls:List Fact} {a:Int} {p:List Int} {s:Int} (h:s∈Bj n ls a p):0<=s/\s<n:=by
 have:=(LX.1 h).1;simp only[Cq,Mt,List.mem_range]at this;obtain⟨m,hm,rfl⟩:=this;exact⟨Int.natCast_nonneg m,by simpa using hm⟩
def Ve (w:AH) (ls:List Fact):Prop:= ∀l∈ls,(Av l).1.op=2->0<=(Av l).1.cls/\(Av l).1.cls<3+w.parents.length
def SW (w : AH) (ls:List Fact) (a:Int) (p:List Int) (c:Bool) (can:Int->Bool) (hokL: ∀l∈ls,GO l) (hln:ls.length<=1000000) (hp:p.length<50) (hw:Ur w) (hcl:Ve w ls) (hcan: ∀s∈Bj w.owner.length ls a p,Pure zP 293 [.a (Gs w ls a (p++[s]) c)] (.b (can s))) :
    Pure zP 324 [.a (Gs w ls a p c)] (xd (Kk w ls a p can)):=by
 refine Pure.fit (by kernel_rfl) fun hf=>?_
 have⟨h1,h2,h3,h4⟩:=GX hf.1;have hM:=Mx;have hwl:=hw.len;have hwo:=hw.olen;refine uD kZ ?_;have hs:=Sn;have hfl:=Q8 (G4 a p) ls;have hok: ∀l∈ls.filter (G4 a p),GO l:=fun l hl=>hokL l (LX.1 hl).1
 have hcl2:Ve w (ls.filter (G4 a p)):=fun l hl=>hcl l (LX.1 hl).1
 have hfl2:(Bj w.owner.length ls a p).length<=w.owner.length:=by
  have:=Q8 (fun s=>ls.any (Y8 a p s)) (Cq w.owner.length);rw[IT]at this;exact this
 refine zv ?_;(repeat clear U K);repeat intro K U
 rw[show IntKind.i64.wrap (3+((Ek w.parents).length:Nat))=((3+w.parents.length:Nat):Int) by rw[BL,wrap64 (by omega) (by omega)];omega];refine z6 hs (by omega) fun v1 Z hs hv=>?_
 obtain⟨id1,rfl⟩:=hv;refine zv ?_;(repeat clear U K);repeat intro K U
 rw[show IntKind.i64.wrap (3+((Ek w.parents).length:Nat))=((3+w.parents.length:Nat):Int) by rw[BL,wrap64 (by omega) (by omega)];omega];refine z6 hs (by omega) fun v2 Z hs hv=>?_
 obtain⟨id2,rfl⟩:=hv
 conv=>whnf
 repeat'((first|clear U K|apply st|(apply zk;intro K U)|refine zX ?_|refine Pure.use (fQ _ _ _ _ _ hokL hln) ?_|fail)<;>conv=>whnf)
 generalize hos:ls.filter (G4 a p)=os at *;have hV:Kk w ls a p can=((D3 os (tO w)).bind (Di w ls a p can (Bj w.owner.length ls a p))).bind (U9 w):=by rw[Kk,hos]
 refine By os.length (fun k (_:BB)=>[(34,eI (A9 k))]) (fun k t=>[.own (.sl id1 (3+w.parents.length) (3+w.parents.length)) 1 (bL t.1),.own (.sl id2 (3+w.parents.length) (3+w.parents.length)) 1 (bL t.2)]) (fun k t=>D3 (os.take k) (tO w)=some t/\t.1.length=3+w.parents.length/\t.2.length=3+w.parents.length) (tO w) rfl ⟨rfl,by simp[tO],by simp[tO]⟩ (by simpa[tO,bL]using hs) ?_;clear hs;rintro k ⟨B5,no⟩ Z hk ⟨hno,hl1,hl2⟩ hs;simp only at hl1 hl2;dsimp only at hs
 conv=>whnf
 repeat'((first|clear U K|apply st|(apply zk;intro K U)|refine zX ?_|refine zr fun Z hs=>?_|(refine fc (fun x hx hlt hc=>?_) (fun hk hc=>?_)<;>(try rw[hc])<;>clear hc)|refine Pure.use (Hi _ (hok _ (Bz (by assumption)))) ?_|refine Pure.use (Vt _ _ _ _ _ hokL (by omega)) ?_|refine za (fun hc=>?_) fun hc=>?_|refine zp fun nn hnn Z hs=>?_|fail)<;>conv=>whnf)
 all_goals try
  (have hcx:=hcl2 _ (Bz hx) (by assumption)
   conv=>whnf
   repeat'((first|clear U K|apply st|(apply zk;intro K U)|refine zX ?_|refine zr fun Z hs=>?_|fail)<;>conv=>whnf)
  )
 all_goals first
  | (refine AF ?_
     have:D3 os (tO w)=none:=Yj (k+1) (by rw[IZ hx,hno];simp[GN, *]);rw[hV,this]
     rfl)
  | exact⟨hlt,(B5,no),rfl,⟨by rw[IZ hx,hno];simp[GN, *],hl1,hl2⟩,hs.take 2⟩
  | exact⟨hlt,(B5.set (Av x).1.cls.toNat true,no),rfl,⟨by rw[IZ hx,hno];simp[GN, *],by simpa using hl1,hl2⟩,hs.take 2⟩
  | exact⟨hlt,(B5,no.set (Av x).1.cls.toNat true),rfl,⟨by rw[IZ hx,hno];simp[GN, *],hl1,by simpa using hl2⟩,hs.take 2⟩
  | skip
 rw[Ap (by assumption)]at hno;have hV2:Kk w ls a p can=(Di w ls a p can (Bj w.owner.length ls a p) (B5,no)).bind (U9 w):=by rw[hV,hno];rfl
 clear hno;generalize hsl:Bj w.owner.length ls a p=sl at *;have hsi: ∀s∈sl,0<=s/\s<w.owner.length:=fun s h=>J5 (by rw[hsl];exact h)
 refine By sl.length (fun k (_:BB)=>[(73,eI (A9 k))]) (fun k t=>[.own (.sl id1 (3+w.parents.length) (3+w.parents.length)) 1 (bL t.1),.own (.sl id2 (3+w.parents.length) (3+w.parents.length)) 1 (bL t.2)]) (fun k t=>Di w ls a p can (sl.take k) (B5,no)=some t/\t.1.length=3+w.parents.length/\t.2.length=3+w.parents.length) (B5,no) rfl ⟨rfl,hl1,hl2⟩ hs ?_;clear hs hl1 hl2;rintro k ⟨m1,n1⟩ Z hk ⟨hno,hl1,hl2⟩ hs;simp only at hl1 hl2;dsimp only at hs;rcases A3 sl hk with⟨x,hx,hlt⟩|hke
 .have hxm:=Bz hx
  obtain⟨hx0,hx1⟩:=hsi x hxm
  have hox:w.owner[x.toNat]? =some (Cp w x):=by
   rw[Cp,DL,Cw (by omega)];rfl
  have ho:=hw.own _ (Bz hox);have hcx:=hcan x hxm;have hbx:=an w ls a (p++[x]) c hokL;cases hB:EC ls a (p++[x])<;>cases hC:can x<;>rw[hB]at hbx<;>rw[hC]at hcx
  .conv=>whnf
   repeat'((first|clear U K|apply st|(apply zk;intro K U)|refine zX ?_|refine rk ?_ ?_|exact fun s e=>by cases e;rfl|refine zr fun Z hs=>?_|refine Pure.use (Jq _ _ _ _ _ _ (by omega)) ?_|refine Pure.use (by assumption) ?_|refine zp fun nn hnn Z hs=>?_|fail)<;>conv=>whnf)
   refine AF ?_;have:Di w ls a p can sl (B5,no)=none:=Yi (k+1) (by rw[IY hx,hno];simp[Ik, *]);rw[hV2,this];rfl
  .conv=>whnf
   repeat'((first|clear U K|apply st|(apply zk;intro K U)|refine zX ?_|refine rk ?_ ?_|exact fun s e=>by cases e;rfl|refine zr fun Z hs=>?_|refine Pure.use (Jq _ _ _ _ _ _ (by omega)) ?_|refine Pure.use (by assumption) ?_|refine zp fun nn hnn Z hs=>?_|fail)<;>conv=>whnf)
   exact⟨hlt,(m1.set (Cp w x).toNat true,n1),rfl,⟨by rw[IY hx,hno];simp[Ik, *],by simpa using hl1,hl2⟩,hs.take 2⟩
  .conv=>whnf
   repeat'((first|clear U K|apply st|(apply zk;intro K U)|refine zX ?_|refine rk ?_ ?_|exact fun s e=>by cases e;rfl|refine zr fun Z hs=>?_|refine Pure.use (Jq _ _ _ _ _ _ (by omega)) ?_|refine Pure.use (by assumption) ?_|refine zp fun nn hnn Z hs=>?_|fail)<;>conv=>whnf)
   exact⟨hlt,(m1,n1.set (Cp w x).toNat true),rfl,⟨by rw[IY hx,hno];simp[Ik, *],hl1,by simpa using hl2⟩,hs.take 2⟩
  .conv=>whnf
   repeat'((first|clear U K|apply st|(apply zk;intro K U)|refine zX ?_|refine rk ?_ ?_|exact fun s e=>by cases e;rfl|refine zr fun Z hs=>?_|refine Pure.use (Jq _ _ _ _ _ _ (by omega)) ?_|refine Pure.use (by assumption) ?_|refine zp fun nn hnn Z hs=>?_|fail)<;>conv=>whnf)
   exact⟨hlt,(m1,n1),rfl,⟨by rw[IY hx,hno];simp[Ik, *],hl1,hl2⟩,hs.take 2⟩
 .rw [Ap hke]at hno
  have hV3:Kk w ls a p can=U9 w (m1,n1):=by rw[hV2,hno];rfl
  have hrow: ∀l∈w.parents,l.length<=AX:=(Ts (g:=false) (by have:=hf.1;simp only[Gs,GV,C9]at this;exact this.1)).2
  have hen:Kk w ls a p can=if n1.getD 0 false then none else
   if(List.range (3+w.parents.length)).any (fun c=>(B1 w.parents (3+w.parents.length) w.parents.length (m1.set 0 false)).getD c false&&n1.getD c false)then none else some (B1 w.parents (3+w.parents.length) w.parents.length (m1.set 0 false)):=hV3.trans rfl
  clear hcan hcl hV hV2 hV3 hno hos hsl hcl2 hok;obtain⟨n0,hn0⟩: ∃b,n1[0]? =some b:=⟨_,Cw (by omega)⟩
  have hn0':n1[Int.toNat 0]? =some n0:=hn0;have hng:n1.getD 0 false=n0:=by rw[DL,hn0];rfl
  rw[hng]at hen;cases n0
  .generalize hms:m1.set 0 false=ms at *
   have hl3:ms.length=3+w.parents.length:=by rw[<-hms,List.length_set];exact hl1
   conv=>whnf
   repeat'((first|clear U K|apply st|(apply zk;intro K U)|refine zX ?_|refine zr fun Z hs=>?_|fail)<;>conv=>whnf)
   replace hs:Sat Z [.own (.sl id1 (3+w.parents.length) (3+w.parents.length)) 1 (bL ms),.own (.sl id2 (3+w.parents.length) (3+w.parents.length)) 1 (bL n1)]:=by rw[<-hms];exact hs
   rw[show IntKind.i64.wrap (((bL (m1.set (Int.toNat 0) false)).length:Nat) - 1)=((2+w.parents.length:Nat):Int) by rw[BL,List.length_set,hl1,wrap64 (by omega) (by omega)];omega];refine By w.parents.length (fun k (_:Unit)=>[(15,eI (Oc ((2+w.parents.length:Nat):Int) k))]) (fun k _=>[.own (.sl id1 (3+w.parents.length) (3+w.parents.length)) 1 (bL (B1 w.parents (3+w.parents.length) k ms)),.own (.sl id2 (3+w.parents.length) (3+w.parents.length)) 1 (bL n1)]) (fun k _=>True) () rfl trivial hs ?_;clear hs;rintro k - Z hk - hs;have hd:Oc ((2+w.parents.length:Nat):Int) k=((2+w.parents.length:Nat):Int) - k:=UU (by omega) (by omega);have hcl:=EX w.parents (3+w.parents.length) k ms;rcases Nat.lt_or_ge k w.parents.length with hlt|hge
   .have hpw:w.parents[(IntKind.i64.wrap (Oc ((2+w.parents.length:Nat):Int) k - 3)).toNat]? =some (par w.parents (3+w.parents.length - 1 - k)):=by
     rw[hd,wrap64 (by omega) (by omega),show(((2+w.parents.length:Nat):Int) - k - 3).toNat=(3+w.parents.length - 1 - k) - 3 by omega];exact fy (by omega) (by omega)
    have hwi:0<=IntKind.i64.wrap (Oc ((2+w.parents.length:Nat):Int) k - 3):=by rw[hd,wrap64 (by omega) (by omega)];omega
    have hpl:=hrow _ (Bz hpw);have hpr:=fun q=>hw.ord (3+w.parents.length - 1 - k) q
    generalize hpe:par w.parents (3+w.parents.length - 1 - k)=pr at *;generalize hce:B1 w.parents (3+w.parents.length) k ms=ce at *;have hcs:B1 w.parents (3+w.parents.length) (k+1) ms=if ce.getD (3+w.parents.length - 1 - k) false then pr.foldl (fun b q=>b.set q.toNat true) ce else ce:=by rw[B1,H2,hce,hpe]
    conv=>whnf
    repeat'((first|clear U K|apply st|(apply zk;intro K U)|refine zX ?_|refine ze fun x hx=>?_|(refine zb (fun hc=>?_) (fun hc=>?_)<;>try exact⟨⟩)|fail)<;>conv=>whnf)
    .rw[show(Oc ((2+w.parents.length:Nat):Int) k).toNat=3+w.parents.length - 1 - k by rw[hd];omega]at hx
     rw[DL,hx,hc]at hcs;simp only[Option.getD_some,if_true]at hcs;refine By pr.length (fun j (_:Unit)=>[(135,eI (A9 j))]) (fun j _=>[.own (.sl id1 (3+w.parents.length) (3+w.parents.length)) 1 (bL ((pr.take j).foldl (fun b q=>b.set q.toNat true) ce)),.own (.sl id2 (3+w.parents.length) (3+w.parents.length)) 1 (bL n1)]) (fun _ _=>True) () rfl trivial hs ?_;clear hs hx;rintro j - Z hj - hs;have hfl:=HL (pr.take j) ce;rcases A3 pr hj with⟨q,hq,hjlt⟩|hje
     .have hqr:=hpr q (Bz hq)
      conv=>whnf
      repeat'((first|clear U K|apply st|(apply zk;intro K U)|refine zX ?_|refine zr fun Z hs=>?_|fail)<;>conv=>whnf)
      exact⟨hjlt,(),rfl,trivial,by rw[AL hq,List.foldl_append];exact hs⟩
     .refine zv ?_;(repeat clear U K);repeat intro K U
      rw[Ap hje]at hs;exact⟨hlt,(),rfl,trivial,by rw[hcs];exact hs⟩
    .rw[show(Oc ((2+w.parents.length:Nat):Int) k).toNat=3+w.parents.length - 1 - k by rw[hd];omega]at hx
     rw[DL,hx,hc]at hcs;simp only[Option.getD_some,KQ,if_false]at hcs;exact⟨hlt,(),rfl,trivial,by rw[hcs];exact hs⟩
   .have hke2:k=w.parents.length:=by omega
    rw[hke2]at hs hcl;generalize hme:B1 w.parents (3+w.parents.length) w.parents.length ms=me at *
    conv=>whnf
    repeat'((first|clear U K|apply st|(apply zk;intro K U)|refine zX ?_|(refine zb (fun hc=>?_) (fun hc=>?_)<;>try exact⟨⟩)|fail)<;>conv=>whnf)
    refine By me.length (fun j (_:Unit)=>[(145,eI (A9 j))]) (fun _ _=>[.own (.sl id1 (3+w.parents.length) (3+w.parents.length)) 1 (bL me),.own (.sl id2 (3+w.parents.length) (3+w.parents.length)) 1 (bL n1)]) (fun j _=>Kk w ls a p can=if((List.range (3+w.parents.length)).drop j).any (fun c=>me.getD c false&&n1.getD c false)then none else some me) () rfl hen hs ?_;clear hs hen;rintro j - Z hj hn hs;rcases A3 me hj with⟨x,hx,hjlt⟩|hje
    .obtain⟨y,hy⟩: ∃y,n1[j]? =some y:=⟨_,Cw (by omega)⟩
     have hrg:(List.range (3+w.parents.length))[j]? =some j:=by rw[List.getElem?_range (by omega)]
     rw[drop_cons hrg,Q7,DL,DL,hx,hy]at hn;cases x<;>cases y<;>simp only[Option.getD_some,Bool.and_true,Bool.and_false,Bool.false_or,Bool.true_or,if_true]at hn
     .refine zv ?_;(repeat clear U K);repeat intro K U
      exact⟨hjlt,(),rfl,hn,hs⟩
     .refine zv ?_;(repeat clear U K);repeat intro K U
      exact⟨hjlt,(),rfl,hn,hs⟩
     .refine zv ?_;(repeat clear U K);repeat intro K U
      exact⟨hjlt,(),rfl,hn,hs⟩
     .refine zv ?_;(repeat clear U K);repeat intro K U
      exact AF (by rw[hn];rfl)
    .rw[List.drop_of_length_le (by rw[List.length_range];omega)]at hn
     simp only[List.any_nil,KQ,if_false]at hn;refine zv ?_;(repeat clear U K);repeat intro K U
     rw[hn];exact Ab (.t (.cons (hs.HP 0 rfl) (.cons (.refl _) .nil)))
  .conv=>whnf
   repeat'((first|clear U K|apply st|(apply zk;intro K U)|refine zX ?_|refine zr fun Z hs=>?_|fail)<;>conv=>whnf)
   exact AF (by rw[hen];rfl)
def Lh (w:AH) (ls:List Fact) (a:Int):Nat->List Int->Bool
 | 0,p=>((I9 ls a p).isSome&&FJ w.owner.length ls a p)||(HZ w.owner.length ls a p||(Kk w ls a p fun _=>false).isSome)
 | d+1,p=>((I9 ls a p).isSome&&FJ w.owner.length ls a p)||(HZ w.owner.length ls a p||(Kk w ls a p fun s=>Lh w ls a d (p++[s])).isSome)
def Te (ls:List Fact) (n:Nat):Prop:= ∀l∈ls,(Av l).1.path.length<=n
def NW {n m:Nat} {ls:List Fact} {a:Int} {p:List Int} (h:Te ls m) (hp:m<=p.length):Bj n ls a p= []:=by
 rw[Bj,List.filter_eq_nil_iff];intro s _ hs;rw[KM]at hs;obtain⟨l,hl,hg⟩:=hs;have:=h l hl;simp only[Y8,Br,BD,CD,Ro,List.length_singleton]at hg;omega
def aB {n:Nat} {ls:List Fact} {a:Int} {p:List Int}:bc n ls a p= .t [eI ((I9 ls a p).getD 0),.b ((I9 ls a p).isSome&&FJ n ls a p)]:=by
 unfold bc;cases I9 ls a p<;>rfl
def Zw (o:Option (List Bool)):xd o= .t [.l (bL (o.getD [])) o.isNone,.b o.isSome]:=by
 cases o<;>rfl
def wa (w:AH) (ls:List Fact) (a:Int) (hokL: ∀l∈ls,GO l) (hln:ls.length<=1000000) (hw:Ur w) (hcl:Ve w ls) (hsm:Kr ls) (hsh:Te ls 2): ∀(d:Nat) (p:List Int),p.length+d=2->Pure zP 293 [.a (Gs w ls a p false)] (.b (Lh w ls a d p)):=by
 intro d
 induction d with
 | zero=>
   intro p hp;have hI:=Qk w ls a p false hokL hln (by omega) hsm;rw[aB]at hI;have hN:=Z0 w ls a p false hokL hln (by omega);have hO:=SW w ls a p false (fun _=>false) hokL hln (by omega) hw hcl (by rw[NW hsh (by omega)];intro s hs;cases hs);rw[Zw]at hO;refine gj kZ ?_;have hs:=Sn;rw[Lh];cases hA:(I9 ls a p).isSome&&FJ w.owner.length ls a p<;>cases hB:HZ w.owner.length ls a p<;>rw[hA]at hI<;>rw[hB]at hN
   all_goals
    conv=>whnf
    repeat'((first|clear U K|apply st|(apply zk;intro K U)|refine zX ?_|refine hI.use ?_|refine hN.use ?_|refine hO.use ?_|fail)<;>conv=>whnf)
   all_goals exact AF (by simp)
 | succ d ih=>
   intro p hp;have hI:=Qk w ls a p false hokL hln (by omega) hsm;rw[aB]at hI;have hN:=Z0 w ls a p false hokL hln (by omega);have hO:=SW w ls a p false (fun s=>Lh w ls a d (p++[s])) hokL hln (by omega) hw hcl (fun s hs=>ih (p++[s]) (by simp;omega));rw[Zw]at hO;refine gj kZ ?_;have hs:=Sn;rw[Lh];cases hA:(I9 ls a p).isSome&&FJ w.owner.length ls a p<;>cases hB:HZ w.owner.length ls a p<;>rw[hA]at hI<;>rw[hB]at hN
   all_goals
    conv=>whnf
    repeat'((first|clear U K|apply st|(apply zk;intro K U)|refine zX ?_|refine hI.use ?_|refine hN.use ?_|refine hO.use ?_|fail)<;>conv=>whnf)
   all_goals exact AF (by simp)
def G7 (w:AH) (ls:List Fact):Bool:=(Cq 3).all fun a=>Lh w ls a 2 []
def Wo (w:AH) (ls:List Fact) (hokL: ∀l∈ls,GO l) (hln:ls.length<=1000000) (hw:Ur w) (hcl:Ve w ls) (hsm:Kr ls) (hsh:Te ls 2):Pure zP 257 [.a (A1 w),.l (facts ls) false] (.b (G7 w ls)):=by
 have hM:=Mx;refine uo kZ ?_;have hs:=Sn;refine zv ?_;(repeat clear U K);repeat intro K U
 refine By 3 (fun k (_:Unit)=>[(5,eI (A9 k))]) (fun _ _=>[]) (fun k _=>G7 w ls=((Cq 3).drop k).all fun a=>Lh w ls a 2 []) () rfl rfl hs ?_;clear hs;rintro k - Z hk hn hs;have hck:A9 k=k:=AM (by omega);rcases Nat.lt_or_ge k 3 with hlt|hge
 .have hrk:(Cq 3)[k]? =some (A9 k):=by
   rw[hck];rcases k with _|_|_|k
   .rfl
   .rfl
   .rfl
   .omega
  rw[drop_cons hrk,KK]at hn
  conv=>whnf
  repeat'((first|clear U K|apply st|(apply zk;intro K U)|refine zX ?_|refine zr fun Z hs=>?_|refine Pure.bZ (wa w ls (A9 k) hokL hln hw hcl hsm hsh 2 [] rfl) (.cons (.a (.cons (.refl _) (.cons (.refl _) (.cons (.refl _) (.cons (.refl _) (.cons II (.cons (.refl _) .nil))))))) .nil) rfl ?_|(refine zb (fun hc=>?_) (fun hc=>?_)<;>try exact⟨⟩)|refine zp fun nn hnn Z hs=>?_|fail)<;>conv=>whnf)
  .exact AF (by rw[hn,hck,hc];rfl)
  .exact⟨hlt,(),rfl,by rw[hn,hck,hc];rfl,hs.take 0⟩
 .rw[List.drop_of_length_le (by rw[IT];omega)]at hn
  conv=>whnf
  repeat'((first|clear U K|apply st|(apply zk;intro K U)|refine zX ?_|(refine zb (fun hc=>?_) (fun hc=>?_)<;>try exact⟨⟩)|fail)<;>conv=>whnf)
  exact AF (by rw[hn];rfl)
def UO {b:Nat} {Z:AE} {l:List At} (h:Sat Z l) (i j:Nat) {v u:V} {sz:Nat} {es ys:List (List V)} {K:V->AE->Prop} (hi:l[i]? =some (.own v sz es)) (hj:l[j]? =some (.own u sz ys)) (hl:es.length+ys.length<=AX/\(es.length+ys.length)*b<=140737488355328) (hys: ∀e∈ys,e.length=sz) (ho: ∀e∈ys,∀v∈e,CE v=true)
    (hk: ∀v' Z',Sat Z' (l.set i (.own v' sz (es++ys)))->K v' Z'):AI b Z sz v u K:=by
 have hA:AI b Z sz v (.l ys true) K:=hAppend h i hi hl hys ho hk;rcases h.get hj with⟨rfl,hel⟩|⟨n,cap,rfl,hn⟩
 .exact hA
 .unfold AI at hA ⊢
  simp only[rowsOf]at hA ⊢;rw[hn];refine⟨rfl,I3 _,?_⟩;rw[List.take_length];exact hA.2
def CM (a:List Fact):List Fact->List Fact
 | []=>a
 | x::r=>CM (if a.any (Fj x)then a else a++[x]) r
def Qi (a:List Fact): ∀(b:List Fact) (x:Fact),CM a (b++[x])=if(CM a b).any (Fj x)then CM a b else CM a b++[x]:=by
 intro b
 induction b generalizing a with
 | nil=>intro x;rfl
 | cons y r ih=>intro x;simp only[List.cons_append,CM];exact ih _ x
def Nk (a:List Fact): ∀(b:List Fact),(CM a b).length<=a.length+b.length:=by
 intro b
 induction b generalizing a with
 | nil=>simp[CM]
 | cons y r ih=>
   simp only[CM,JD];refine Nat.le_trans (ih _) ?_;split
   .omega
   .simp;omega
def Sh (a:List Fact): ∀(b:List Fact) (x:Fact),x∈CM a b->x∈a\/x∈b:=by
 intro b
 induction b generalizing a with
 | nil=>intro x hx;exact .inl hx
 | cons y r ih=>
   intro x hx;simp only[CM]at hx;rcases ih _ x hx with h|h
   .split at h
    .exact .inl h
    .rcases FC.1 h with h|h
     .exact .inl h
     .rw[LV.1 h];exact .inr (.head _)
   .exact .inr (.tail _ h)
def cg (a b:List Fact) (f g:Bool) (hl:a.length+b.length<1000000):Pure zP 292 [.l (facts a) f,.l (facts b) g] (.l (facts (CM a b)) false):=by
 have hM:=Mx;refine uV kZ ?_;have hs:=Sn
 conv=>whnf
 repeat'((first|clear U K|apply st|(apply zk;intro K U)|fail)<;>conv=>whnf)
 replace hs:=FA hs 6;refine GP hs 0 (xs:=[]) (ys:=a) rfl (by simp;omega) K0 fun v Z hs=>?_
 refine zv ?_;(repeat clear U K);repeat intro K U
 refine By b.length (fun k v=>[(5,v),(15,eI (A9 k))]) (fun k v=>[.own v 6 (facts (CM a (b.take k)))]) (fun _ _=>True) v rfl trivial hs ?_;clear hs;rintro k v Z hk - hs;have hml:=Nk a (b.take k);rw[LY]at hml;rcases A3 b hk with⟨x,hx,hlt⟩|hke
 .have hsn:=Qi a (b.take k) x
  rw[<-AL hx]at hsn;generalize CM a (b.take k)=m at *
  conv=>whnf
  repeat'((first|clear U K|apply st|(apply zk;intro K U)|refine zX ?_|refine zr fun Z hs=>?_|refine zp fun nn hnn Z hs=>?_|fail)<;>conv=>whnf)
  refine By m.length (fun j t=>[(8,.b t),(21,eI (A9 j))]) (fun j t=>[.own v 6 (facts m),.obj nn (.cs (xF x))]) (fun j t=>t=(m.take j).any (Fj x)) false rfl (by simp) hs ?_;clear hs;rintro j t Z hj ht hs;rcases A3 m hj with⟨y,hy,hjlt⟩|hje
  .cases t
   .conv=>whnf
    repeat'((first|clear U K|apply st|(apply zk;intro K U)|refine zX ?_|refine zr fun Z hs=>?_|refine Pure.use (mL _ _) ?_|refine zp fun nn hnn Z hs=>?_|fail)<;>conv=>whnf)
    exact⟨hjlt,_,rfl,by rw[AL hy,List.any_append,<-ht];simp,hs.take 2⟩
   .conv=>whnf
    repeat'((first|clear U K|apply st|(apply zk;intro K U)|refine zX ?_|refine zr fun Z hs=>?_|refine zp fun nn hnn Z hs=>?_|fail)<;>conv=>whnf)
    exact⟨hjlt,true,rfl,by rw[AL hy,List.any_append,<-ht];simp,hs.take 2⟩
  .rw[Ap hje]at ht
   subst ht
   conv=>whnf
   repeat'((first|clear U K|apply st|(apply zk;intro K U)|refine zX ?_|refine apF fun v Z hs hsl=>?_|refine za (fun hc=>?_) fun hc=>?_|fail)<;>conv=>whnf)
   .rw[hc]at hsn
    exact⟨hlt,_,rfl,trivial,by rw[hsn];exact hs.take 1⟩
   .rw[hc]at hsn
    exact⟨hlt,_,rfl,trivial,by rw[hsn];exact hs.take 1⟩
 .refine zv ?_;(repeat clear U K);repeat intro K U
  exact EF hs 0 rfl (by rw[Ap hke])
abbrev lM (ls:List (List Fact)):List (List V):=ls.map fun l=>[.l (facts l) false]
def Df (A B:List (List Fact)):List (List Fact):=A.flatMap fun x=>B.map fun y=>CM x y
def FR (f:Fact) (l:List (Bool->List (List Fact))) (c:Bool):List (List Fact):=
 if f.op=1 then(if c then []else [[]])else
 if f.op=5 then(l.getD 0 (fun _=>[])) (!c)else
 if f.op=6\/f.op=7 then(if c != (f.op==7)then l.getD 0 (fun _=>[]) c++l.getD 1 (fun _=>[]) c else Df (l.getD 0 (fun _=>[]) c) (l.getD 1 (fun _=>[]) c))else
 if c then [[Fi f]]else [[f]]
def BG (f:Fact):Bool->List (List Fact):=f.H7 FR
def GG (f:Fact) (c:Bool):BG f c=FR f (f.kids.map BG) c:=congrFun (Fact.Dy FR f) c
def eO (f:Fact) (l:List Nat):Nat:=if f.op=5 then l.getD 0 0 else if f.op=6\/f.op=7 then l.getD 0 0+l.getD 1 0 else 1
def lv (f:Fact):Nat:=f.H7 eO
def N7 (f:Fact):lv f=eO f (f.kids.map lv):=Fact.Dy eO f
def arity (f:Fact):Bool:=f.H7 fun f l=>f.kids.length==CR f.op&&l.all id
def MY (f:Fact):arity f=(f.kids.length==CR f.op&&f.kids.all arity):=by
 rw[arity,Fact.Dy,List.all_map];rfl
def Cu {w:AH} (f:Fact):Bk w f=true->arity f=true:=by
 induction f using Fact.ind with
 | h f ih=>
   intro h;rw[Cs]at h;simp only[DB,BD,Er]at h;rw[MY,BD,Er];exact⟨h.1.2.1,fun k hk=>ih k hk (h.2 k hk)⟩
def IL {f:Fact} (h:arity f=true) (h5:f.op=5): ∃a,f.kids= [a]/\arity a=true:=by
 rw[MY,BD,Er,h5]at h;have hl:f.kids.length=1:=by simpa[CR]using h.1
 obtain⟨a,ha⟩:=List.length_eq_one_iff.1 hl;exact⟨a,ha,h.2 a (by rw[ha];exact .head _)⟩
def IK {f:Fact} (h:arity f=true) (h6:f.op=6\/f.op=7): ∃a b,f.kids= [a,b]/\arity a=true/\arity b=true:=by
 rw[MY,BD,Er]at h
 have hl:f.kids.length=2:=by
  have h5:f.op≠5:=by omega
  simpa[CR,h5,h6]using h.1
 match hk:f.kids,hl with
 | [a,b],_=>exact⟨a,b,rfl,h.2 a (by rw[hk];exact .head _),h.2 b (by rw[hk];exact .tail _ (.head _))⟩
def gM (f:Fact):arity f=true->1<=lv f:=by
 induction f using Fact.ind with
 | h f ih=>
   intro h;rw[N7,eO];split
   .rename_i h5
    obtain⟨a,ha,hb⟩:=IL h h5;rw[ha];exact ih a (by rw[ha];exact .head _) hb
   .split
    .rename_i h6
     obtain⟨a,b,ha,hb,_⟩:=IK h h6;rw[ha];have:=ih a (by rw[ha];exact .head _) hb;simp only[E8,List.getD_cons_zero];omega
    .omega
def mY {a b:Nat} (ha:1<=a) (hb:1<=b):2 ^ a+2 ^ b<=2 ^ (a+b):=by
 rw[Nat.pow_add];have h1:2<=2 ^ a:=by simpa using Nat.pow_le_pow_right (show 0<2 by omega) ha
 have h2:2<=2 ^ b:=by simpa using Nat.pow_le_pow_right (show 0<2 by omega) hb
 generalize 2 ^ a=x at *;generalize 2 ^ b=y at *;have:=Nat.mul_le_mul_left (x - 1) (show 1<=y - 1 by omega);obtain⟨x,rfl⟩: ∃u,x=u+1:=⟨x - 1,by omega⟩
 obtain⟨y,rfl⟩: ∃u,y=u+1:=⟨y - 1,by omega⟩
 simp only[Nat.add_sub_cancel,Nat.mul_one]at this;rw[Nat.add_mul,Nat.mul_add];omega
def SQ (A B:List (List Fact)):(Df A B).length=A.length*B.length:=by
 induction A with
 | nil=>simp[Df]
 | cons x r ih=>
   simp only[Df,List.flatMap_cons,Ro,BL,JD]at *;rw[ih,Nat.add_mul];omega
def EY (f : Fact):arity f=true-> ∀c,(BG f c).length<=2 ^ lv f/\ ∀l∈BG f c,l.length<=lv f:=by
 induction f using Fact.ind with
 | h f ih=>
   intro h c;rw[GG,N7,FR,eO];by_cases h1:f.op=1
   .have e5: ¬f.op=5:=by omega
    have e6: ¬(f.op=6\/f.op=7):=by omega
    rw[if_pos h1,if_neg e5,if_neg e6];cases c
    .rw[if_neg (by decide)]
     exact⟨by simp,fun l hl=>by simp at hl;subst hl;simp⟩
    .rw[if_pos rfl]
     exact⟨by simp,fun l hl=>by cases hl⟩
   rw[if_neg h1];by_cases h5:f.op=5
   .obtain⟨a,ha,hb⟩:=IL h h5
    rw[if_pos h5,if_pos h5,ha];exact ih a (by rw[ha];exact .head _) hb (!c)
   rw[if_neg h5,if_neg h5];by_cases h6:f.op=6\/f.op=7
   .obtain⟨a,b,ha,hb1,hb2⟩:=IK h h6
    rw[if_pos h6,if_pos h6,ha];simp only[E8,List.map_nil,List.getD_cons_zero,List.getD_cons_succ];obtain⟨i1,i2⟩:=ih a (by rw[ha];exact .head _) hb1 c;obtain⟨j1,j2⟩:=ih b (by rw[ha];exact .tail _ (.head _)) hb2 c;have p1:=gM a hb1;have p2:=gM b hb2;split
    .refine⟨?_,fun l hl=>?_⟩
     .rw[Ro]
      have:=mY p1 p2;omega
     .rcases FC.1 hl with hl|hl
      .have:=i2 l hl;omega
      .have:=j2 l hl;omega
    .refine⟨?_,fun l hl=>?_⟩
     .rw[SQ,Nat.pow_add]
      exact Nat.mul_le_mul i1 j1
     .simp only[Df,List.mem_flatMap,Mt]at hl
      obtain⟨x,hx,y,hy,rfl⟩:=hl;have:=Nk x y;have:=i2 x hx;have:=j2 y hy;omega
   .rw[if_neg h6,if_neg h6]
    cases c
    .exact⟨by simp,fun l hl=>by simp at hl;subst hl;simp⟩
    .exact⟨by simp,fun l hl=>by simp at hl;subst hl;simp⟩
def sD (f:Fact):arity f=true->2*lv f<=Mv f+1:=by
 induction f using Fact.ind with
 | h f ih=>
   intro h;rw[N7,eO,K1];by_cases h5:f.op=5
   .obtain⟨a,ha,hb⟩:=IL h h5
    rw[if_pos h5,ha];have:=ih a (by rw[ha];exact .head _) hb;simp only[E8,List.map_nil,List.getD_cons_zero,List.sum_cons,List.sum_nil];omega
   rw[if_neg h5];by_cases h6:f.op=6\/f.op=7
   .obtain⟨a,b,ha,hb1,hb2⟩:=IK h h6
    rw[if_pos h6,ha];have:=ih a (by rw[ha];exact .head _) hb1;have:=ih b (by rw[ha];exact .tail _ (.head _)) hb2;simp only[E8,List.map_nil,List.getD_cons_zero,List.getD_cons_succ,List.sum_cons,List.sum_nil];omega
   .rw[if_neg h6]
    omega
def O3 {Z:AE} {es es':List (List V)} (hs:Sat Z []) (h:EB Z Z es es') (he: ∀e∈es',e.length=1):Ar Z (.l es true) fun r Z'=> ∃post,(∃v,r= .ret v/\post= [.own v 1 es'])/\Sat Z' post:=
 G0 (fun _ _ h=>h) (.l (fun _=>rfl) h) ⟨_,⟨_,rfl,rfl⟩,lY hs he⟩
def wj (f : Fact):arity f=true->lv f<=28-> ∀c,Be zP 256 [.a (xF f),.b c] [] fun r post=> ∃v,r= .ret v/\post= [.own v 1 (lM (BG f c))]:=by
 induction f using Fact.ind with
 | h f ih =>
   intro h hlv c Z hs;refine A6.fit (by kernel_rfl) fun hf=>?_
   have⟨h2,h3,h4⟩:=KZ hf.1;have hM:=Mx;refine uq kZ ?_;rw[GG];rw[N7]at hlv;by_cases h5:f.op=5
   .obtain⟨a,ha,hb⟩:=IL h h5
    have ha0:f.kids[Int.toNat 0]? =some a:=by rw[ha];rfl
    have hrec:=ih a (by rw[ha];exact .head _) hb (by simpa[eO,h5,ha]using hlv) (!c)
    conv=>whnf
    repeat'((first|clear U K|apply st|(apply zk;intro K U)|refine zX ?_|(refine zb (fun hc=>?_) (fun hc=>?_)<;>try exact⟨⟩)|fail)<;>conv=>whnf)
    all_goals try(exfalso;omega)
    refine hrec.use (rest:=[]) hs ?_;clear hs;rintro r post Z ⟨v,rfl,rfl⟩ hs;refine zv ?_;(repeat clear U K);repeat intro K U
    refine Am hs (List.Sublist.refl _) (.refl _) fun Z' hs'=>⟨_,⟨_,rfl,?_⟩,hs'⟩
    simp only[FR,h5,ha];rfl
   by_cases h6:f.op=6\/f.op=7
   .obtain ⟨a,b,ha,hb1,hb2⟩:=IK h h6
    have ha0:f.kids[Int.toNat 0]? =some a:=by rw[ha];rfl
    have ha1:f.kids[Int.toNat 1]? =some b:=by rw[ha];rfl
    have hlv2:lv a+lv b<=28:=by simpa[eO,h5,h6,ha]using hlv
    have hrec:=ih a (by rw[ha];exact .head _) hb1 (by omega) c;have hrec2:=ih b (by rw[ha];exact .tail _ (.head _)) hb2 (by omega) c
    have hcg:FR f (f.kids.map BG) c=if c != (f.op==7)then BG a c++BG b c else Df (BG a c) (BG b c):=by
     have h1: ¬f.op=1:=by omega
     simp only[FR,if_neg h1,if_neg h5,if_pos h6,ha];rfl
    rw[hcg];obtain⟨i1,i2⟩:=EY a hb1 c;obtain⟨j1,j2⟩:=EY b hb2 c
    have hpw:2 ^ lv a*2 ^ lv b<=268435456:=by
     rw[<-Nat.pow_add];exact Nat.pow_le_pow_right (by omega) (show lv a+lv b<=28 from hlv2)
    have hAB:=Nat.le_trans (Nat.mul_le_mul i1 j1) hpw;have q1:1<=2 ^ lv a:=Nat.one_le_two_pow;have q2:1<=2 ^ lv b:=Nat.one_le_two_pow;have q3:2 ^ lv a<=268435456:=Nat.le_trans (Nat.le_mul_of_pos_right _ q2) hpw;have q4:2 ^ lv b<=268435456:=Nat.le_trans (Nat.le_mul_of_pos_left _ q1) hpw;generalize BG a c=LA at *;generalize BG b c=LB at *;have hgB:=C8 Lz LB;clear hcg;generalize hres:(if c != (f.op==7)then LA++LB else Df LA LB)=RES;clear ih
    conv=>whnf
    repeat'((first|clear U K|apply st|(apply zk;intro K U)|refine zX ?_|(refine zb (fun hc=>?_) (fun hc=>?_)<;>try exact⟨⟩)|fail)<;>conv=>whnf)
    all_goals try(exfalso;omega)
    all_goals
     refine hrec.use (rest:=[]) hs ?_;clear hs;rintro r post Z ⟨v1,rfl,rfl⟩ hs
     conv=>whnf
     repeat'((first|apply st|refine zX ?_|refine rk ?_ ?_|exact fun s e=>by cases e;rfl|fail)<;>conv=>whnf)
     refine hrec2.use (pre:=[]) (rest:=[_]) hs ?_;clear hs;rintro r post Z ⟨v2,rfl,rfl⟩ hs
     conv=>whnf
     repeat'((first|clear U K|apply st|(apply zk;intro K U)|refine zX ?_|refine za (fun hc=>?_) fun hc=>?_|fail)<;>conv=>whnf)
    all_goals have hct:=hc
    all_goals clear hc
    all_goals first
     | (refine UO hs 1 0 rfl rfl (by simp only[BL];omega) hgB.1 hgB.2 fun v Z hs=>?_
        refine zv ?_;(repeat clear U K);repeat intro K U
        rw[hct,if_pos rfl]at hres;refine Am (hs.less (LW _ _)) (List.Sublist.refl _) (.refl _) fun Z' hs'=>⟨_,⟨_,rfl,?_⟩,hs'⟩
        rw[<-hres];simp only[lM,Uw]
        rfl)
     | (refine By LA.length (fun k v=>[(7,v),(52,eI (A9 k))]) (fun k v=>[.own v2 1 (lM LB),.own v1 1 (lM LA),.own v 1 (lM (Df (LA.take k) LB))]) (fun _ _=>True) (.l [] true) rfl trivial (FA hs 1) ?_
        clear hs;rintro k v Z hk - hs;rcases A3 LA hk with⟨x,hx,hlt⟩|hke
        .have hxl:=i2 x (Bz hx)
         have hpk:Df (LA.take (k+1)) LB=Df (LA.take k) LB++LB.map fun y=>CM x y:=by
          rw[AL hx];simp[Df]
         have hpl:(Df (LA.take k) LB).length+LB.length<=LA.length*LB.length:=by
          rw[SQ,LY,Nat.min_eq_left hk];have:=Uo LB.length (show k+1<=LA.length from hlt);rw[Nat.add_mul]at this;omega
         generalize Df (LA.take k) LB=pk0 at *;refine zv ?_;(repeat clear U K);repeat intro K U
         refine By LB.length (fun j v=>[(7,v),(58,eI (A9 j))]) (fun j v=>[.own v2 1 (lM LB),.own v1 1 (lM LA),.own v 1 (lM (pk0++(LB.take j).map fun y=>CM x y))]) (fun _ _=>True) v rfl trivial (by simpa using hs) ?_;clear hs;rintro j v Z hj - hs;rcases A3 LB hj with⟨y,hy,hjlt⟩|hje
         .have hyl:=j2 y (Bz hy)
          conv=>whnf
          repeat'((first|clear U K|apply st|(apply zk;intro K U)|refine zX ?_|refine aq fun v Z hs hsl=>?_|refine Pure.use (cg _ _ _ _ (by omega)) ?_|fail)<;>conv=>whnf)
          refine⟨hjlt,_,rfl,trivial,?_⟩;rw[AL hy,Uw,<-XO];exact hs
         .refine zv ?_;(repeat clear U K);repeat intro K U
          rw[Ap hje]at hs;exact⟨hlt,_,rfl,trivial,by rw[hpk];exact hs⟩
        .refine zv ?_;(repeat clear U K);repeat intro K U
         rw[Ap hke]at hs;rw[hct,if_neg (by decide)]at hres;rw[<-hres]
         refine Am (hs.less ((LW _ _).trans (LW _ _))) (List.Sublist.refl _) (.refl _) fun Z' hs'=>⟨_,⟨_,rfl,rfl⟩,hs'⟩)
   .have e1:FR f (f.kids.map BG) c=if f.op=1 then(if c then []else [[]])else if c then [[Fi f]]else [[f]]:=by
     simp only[FR,if_neg h5,if_neg h6]
    rw[e1];clear e1
    conv=>whnf
    repeat'((first|clear U K|apply st|(apply zk;intro K U)|refine zX ?_|refine Pure.use (gJ _) ?_|(refine zb (fun hc=>?_) (fun hc=>?_)<;>try exact⟨⟩)|fail)<;>conv=>whnf)
    all_goals try(exfalso;omega)
    .subst hc
     rw[if_pos (by assumption),if_pos rfl];exact O3 hs .nil (fun e h=>by cases h)
    .subst hc
     rw[if_pos (by assumption),if_neg (by decide)];refine O3 hs (.cons (.cons II .nil) .nil) ?_;intro e he;simp at he;subst he;rfl
    .subst hc
     rw[if_neg (by assumption),if_pos rfl];refine O3 hs (.cons (.cons (.l (fun h=>by cases h) ?_) .nil) .nil) ?_
     .simp only[facts,List.map,BX]
      exact Eg _
     .intro e he
      simp at he;subst he;rfl
    .subst hc
     rw[if_neg (by assumption),if_neg (by decide)];refine O3 hs (.cons (.cons (.l (fun h=>by cases h) ?_) .nil) .nil) ?_
     .simp only[facts,List.map,BX]
      exact Eg _
     .intro e he
      simp at he;subst he;rfl
end Go.Gl
