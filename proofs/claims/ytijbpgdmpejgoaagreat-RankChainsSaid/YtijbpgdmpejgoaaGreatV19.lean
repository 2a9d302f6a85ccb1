import Derived.Test.YtijbpgdmpejgoaaGreatV11
import Derived.Test.YtijbpgdmpejgoaaGreatV14
import Derived.Test.YtijbpgdmpejgoaaGreatV15
import Derived.Test.YtijbpgdmpejgoaaGreatV17
import Derived.Test.YtijbpgdmpejgoaaGreatV18
set_option linter.all false
noncomputable section
namespace Go.Gl
open Go.Proofs
structure Ub (w:AK) (os:List Ob):Prop where
 len:os.length≤40
 own: ∀o∈os,(3:Int)≤o.1∧o.1<3+(w.parents.length:Int)
 num: ∀o∈os,o.2.length=(Dd w o.1).length
 val: ∀o∈os,∀v∈o.2,Cn os.length v=true
theorem Wd {w:AK} {os:List Ob} (h:IJ w os=true):Ub w os:=by
 simp only[IJ,BZ,CX,Em,Uc,ZK,D1]at h;exact⟨h.1,fun o ho=>(h.2 o ho).1,fun o ho=>(h.2 o ho).2.1,fun o ho=>(h.2 o ho).2.2⟩
theorem U6 {w:AK} {c s:Int}:s∈Dd w c↔(0≤s∧s<(w.owner.length:Int))∧hasB w c s=true:=by
 rw[Dd,JZ,FR]
abbrev Xc (os:List Ob) (v:Int×Int):Ob:=os.getD v.2.toNat (0,[])
def Nn (w:AK) (os:List Ob) (s:Int) (v:Int×Int):Int×Int:=(Xc os v).2.getD ((Dd w (Xc os v).1).idxOf s) (0,0)
def dL (w:AK) (os:List Ob):List Int→Int×Int→Option (Int×Int)
 | [],v=>some v
 | s::r,v=>if v.1==3&&hasB w (Xc os v).1 s then dL w os r (Nn w os s v)else none
theorem N6 {n:Int} {v:Int×Int} (h:Cn n v=true) (h3:v.1=3):0≤v.2∧v.2<n:=by
 rw[Cn,if_neg (by omega),if_neg (by omega),if_pos h3]at h;simpa using h
theorem NL {os:List Ob} {v:Int×Int} (hv:Cn os.length v=true) (h3:v.1=3): ∃o,os[v.2.toNat]? =some o∧Xc os v=o∧o∈os:=by
 have:=N6 hv h3;have hl:v.2.toNat<os.length:=by omega
 exact⟨os[v.2.toNat],Cu hl,by rw[Xc,DL,Cu hl];rfl,List.getElem_mem hl⟩
theorem S9 {w:AK} {os:List Ob} {s:Int} {v:Int×Int} {o:Ob} (hos:Ub w os) (ho:Xc os v=o) (hm:o∈os) (hs:0≤s∧s<(w.owner.length:Int)) (hh:hasB w o.1 s=true) :
 ∃i,i<(Dd w o.1).length∧(Dd w o.1).idxOf s=i∧(Dd w o.1)[i]? =some s∧(∀j x,j<i→(Dd w o.1)[j]? =some x→x≠s)∧o.2[i]? =some (Nn w os s v)∧Cn os.length (Nn w os s v)=true:=by
 have hmem:s∈Dd w o.1:=U6.2 ⟨hs,hh⟩;have hlt:=List.idxOf_lt_length_of_mem hmem;have hn:=hos.num o hm
 have hx:o.2[(Dd w o.1).idxOf s]? =some (Nn w os s v):=by
  rw[Nn,ho,DL];rw[Cu (by omega)];rfl
 refine⟨_,hlt,rfl,?_,fun j x hj hjx e=>?_,hx,hos.val o hm _ (B2 hx)⟩
 ·rw[Cu hlt,List.getElem_idxOf hlt]
 ·have hjl:=(Hi.1 hjx).1
  have:=List.not_of_lt_findIdx (p:=(· ==s)) (xs:=Dd w o.1) (by simpa[List.idxOf]using hj);rw[Cu hjl]at hjx;have h2:=Option.some.inj hjx;rw[h2,e]at this;simp at this
theorem aQ {w:AK} {os:List Ob} (hos:Ub w os): ∀ {l:List Int} {v u:Int×Int},(∀s∈l,0≤s∧s<(w.owner.length:Int))→Cn os.length v=true→dL w os l v=some u→Cn os.length u=true
 | [],v,u,_,hv,h=>by cases h;exact hv
 | s ::r,v,u,hl,hv,h=>by
   rw[dL]at h;split at h
   ·rename_i hc
    simp only[BZ,D1]at hc;obtain⟨o,h1,h2,h3⟩:=NL hv hc.1;obtain⟨i,q1,q2,q3,q4,q5,q6⟩:=S9 hos h2 h3 (hl s (.head _)) (h2 ▸ hc.2);exact aQ hos (fun s hs=>hl s (.tail _ hs)) q6 h
   ·cases h
def gY (w:AK) (os:List Ob) (args:List (Int×Int)) (f:Fact):Bool:=match dL w os f.path (args.getD f.arg.toNat (0,0))with
 | none=>false
 | some v=>if f.op=2 then M0 w.parents (RH os v) f.cls else v.1==1&&(if f.op=3 then decide (v.2<f.n)else v.2==f.n)
def WE (w:AK) (os:List Ob) (args:List (Int×Int)) (f:Fact) (l:List Bool):Bool:=
 if f.op=1 then true else if f.op=5 then !l.getD 0 false else if f.op=6 then l.getD 0 false&&l.getD 1 false else if f.op=7 then l.getD 0 false||l.getD 1 false else gY w os args f
def EC (w:AK) (os:List Ob) (args:List (Int×Int)) (f:Fact):Bool:=f.HC (WE w os args)
theorem cE (w:AK) (os:List Ob) (args:List (Int×Int)) (f:Fact):EC w os args f=WE w os args f (f.kids.map (EC w os args)):=Fact.Dj (WE w os args) f
end Go.Gl
namespace Go.Gl
open Go.Proofs
attribute [local irreducible] BL A4 Aj AW AM Ai AV AX AN Ah AS AU A8 BJ Sat Ac BF Ak W
abbrev xd (o:Option (Int×Int)):V:= .t [.a (pI (o.getD (0,0))),.b o.isSome]
theorem pD {α:Type} {l:List α} (h:l.length=2): ∃a b,l= [a,b]:=by
 match l,h with
 | [a,b],_=>exact⟨a,b,rfl⟩
theorem VM {w:AK} {f:Fact} (h:Bi w f=true) :
 f.op=1∨(f.op=5∧ ∃a,f.kids= [a]∧Bi w a=true)∨(f.op=6∧ ∃a b,f.kids= [a,b]∧Bi w a=true∧Bi w b=true)∨(f.op=7∧ ∃a b,f.kids= [a,b]∧Bi w a=true∧Bi w b=true)∨
  ((f.op=2∨f.op=3∨f.op=4)∧Br f=true∧(∀s∈f.path,0≤s∧s<(w.owner.length:Int))∧(f.op=2→0≤f.cls∧f.cls<3+(w.parents.length:Int))∧0≤f.arg):=by
 rw[Cg]at h;simp only[DC,BZ,Em,D1,CX]at h;obtain⟨⟨ho,hk,ha0,ha3,hp,-⟩,hks⟩:=h;simp only[E3,BZ,Em,HF,CX]at hp;by_cases h2:f.op=2
 ·rw[SV,if_pos h2]at ho
  simp only[Nh,BZ,CX]at ho;exact .inr (.inr (.inr (.inr ⟨.inl h2,by simp[Br,h2],hp.1,fun _=>ho.2,ha0⟩)))
 by_cases h34:f.op=3∨f.op=4
 ·exact .inr (.inr (.inr (.inr ⟨.inr h34,by rcases h34 with h|h<;>simp[Br,h],hp.1,fun h=>absurd h h2,ha0⟩)))
 rw[SV,if_neg h2,if_neg h34]at ho;simp only[Fx,D1]at ho;rcases ho with((h1|h5)|h6)|h7
 ·exact .inl h1
 ·rw[CF,if_pos h5]at hk
  obtain⟨a,ha⟩:=List.length_eq_one_iff.1 hk;exact .inr (.inl ⟨h5,a,ha,hks a (by rw[ha];exact .head _)⟩)
 ·rw[CF,if_neg (by omega),if_pos (.inl h6)]at hk
  obtain⟨a,b,ha⟩:=pD hk;exact .inr (.inr (.inl ⟨h6,a,b,ha,hks a (by rw[ha];exact .head _),hks b (by rw[ha];exact .tail _ (.head _))⟩))
 ·rw[CF,if_neg (by omega),if_pos (.inr h7)]at hk
  obtain⟨a,b,ha⟩:=pD hk;exact .inr (.inr (.inr (.inl ⟨h7,a,b,ha,hks a (by rw[ha];exact .head _),hks b (by rw[ha];exact .tail _ (.head _))⟩)))
theorem I9: ∀(l:List Int) (a:Int) {x:Int},x∈l→x≤l.foldl HA a
 | y ::r,a,x,h=>by
   rcases GB.1 h with rfl|h
   ·refine Int.le_trans ?_ (FX r _)
    unfold HA;split<;>omega
   ·exact I9 r _ h
theorem HX {f a:Fact} (h:a∈f.kids):DM a≤DM f:=by
 rw[D7 f];exact I9 _ _ (List.mem_map_of_mem h)
theorem U5 {f:Fact} (h:Br f=true):f.arg+1≤DM f:=by
 rw[D7 f,if_pos h];exact FX _ _
structure Ask (p:Prog) (os:List Ob) (gen:Int) (args:List (Int×Int)):Prop where
 look:(BO p).isSome=true
 pB:Ub (AP p) os
 ph:Nf p gen=true
 len:(args.length:Int)=p.DA.getD gen.toNat 0
 xh: ∀v∈args,Cn os.length v=true
theorem aR {p:Prog} {os:List Ob} {gen:Int} {args:List (Int×Int)} (h:Ed p os gen args=true):Ask p os gen args:=by
 simp only[Ed,BZ,CX,Em]at h;exact⟨h.1,Wd h.2.1,h.2.2.1,h.2.2.2.1,h.2.2.2.2⟩
theorem Wm {p:Prog} (h:(BO p).isSome=true) {x:M4} (hx:x∈p.methods):(1≤x.kind∧x.kind≤4)∧Ce (AP p) x.fact=true∧Bi (AP p) x.fact=true∧DM x.fact≤p.DA.getD x.gen.toNat 0:=by
 have:=(Es h).2 x hx;simp only[NY,BZ,CX]at this;have hf:=this.2.2.2.2.1;simp only[Ce,BZ,CX]at hf;exact⟨⟨this.1,this.2.1⟩,this.2.2.2.2.1,hf.2.2,this.2.2.2.2.2⟩
def il (p:Prog) (os:List Ob) (gen:Int) (args:List (Int×Int)) (k:Nat):List Int:=(Bu k).filter fun m=>(BG p m).gen==gen&&EC (AP p) os args (BG p m).fact
theorem cw (p:Prog) (os:List Ob) (gen:Int) (args:List (Int×Int)) (k:Nat):(il p os gen args k).length≤k:=by
 have:=LV (fun m=>(BG p m).gen==gen&&EC (AP p) os args (BG p m).fact) (Bu k)
 rwa [Eh]at this
def Sg (p:Prog) (os:List Ob) (gen:Int) (args:List (Int×Int)):List Int:=il p os gen args p.methods.length
structure Pl where
 ar:List Int
 xe:Bool
 be:List Int
 pr:List Int
 prt:Bool
 af:List Int
abbrev oq (x:Pl) (g h:Bool):List V:=[.l (iL x.ar) g,.b x.xe,.l (iL x.be) g,.l (iL x.pr) g,.b x.prt,.l (iL x.af) h]
def CA (p:Prog) (l:List Int) (k:Int):List Int:=l.filter fun m=>(BG p m).kind==k
def iJ:Pl:=⟨[],false,[],[],false,[]⟩
def gQ (A:Int→Int→Bool) (p:Prog) (l:List Int):Pl:=
 ⟨(Ba A (CA p l 4).length (CA p l 4)).1,(Ba A (CA p l 4).length (CA p l 4)).2,DB A (CA p l 2).length (Cd (CA p l 2)),(Ba A (CA p l 1).length (CA p l 1)).1,(Ba A (CA p l 1).length (CA p l 1)).2,(DB A (CA p l 3).length (Cd (CA p l 3))).reverse⟩
def EB (A:Int→Int→Bool) (p:Prog) (l:List Int):Pl×Bool:=if(CA p l 1).isEmpty then(iJ,false)else(gQ A p l,true)
theorem dj (p:Prog) (l:List Int) (f:Bool) (kd:Int) (hm: ∀x∈l,A0 p x=true) (hl:l.length≤16) (h16:p.methods.length≤16):Pure Tryz.prog 37 [.a (BK p),.l (iL l) f,eI kd] (.l (iL (CA p l kd)) false):=by
 have hM:=Mx;refine qh nb ?_;have hs:=Sn
 conv=>whnf
 repeat'((first|apply st|(apply sq;intro K U)|(apply si;intro A B Y Z)|(apply Y;clear Z B Y A)|(apply U;clear U K)|fail)<;>conv=>whnf)
 refine B4 l.length (fun k v=>[(7,v),(8,eI (A6 k))]) (fun k v=>[.own v 1 (iL (CA p (l.take k) kd))]) (fun _ _=>True) (.l [] true) rfl trivial (Ey hs 1) ?_;clear hs;rintro k v σ hk - hs
 have hfl:(CA p (l.take k) kd).length≤16:=by
  have:=LV (fun m=>(BG p m).kind==kd) (l.take k);rw[LW]at this;simp only[CA];omega
 rcases BH l hk with⟨x,hx,hlt⟩|hke
 ·have hst:CA p (l.take (k+1)) kd=if(BG p x).kind==kd then CA p (l.take k) kd++[x]else CA p (l.take k) kd:=by
   rw[AR hx,CA,List.filter_append];cases hp:(BG p x).kind==kd<;>simp[CA,hp]
  have hmx:=hm x (B2 hx);have hxm:=Bs hmx;simp only[A0,BZ,CX]at hmx;generalize CA p (l.take k) kd=zs at *;have hll:zs.length<Ad∧(zs.length+1)*8≤140737488355328:=by omega
  by_cases hkd:(BG p x).kind=kd
  ·rw[if_pos (D1.2 hkd)]at hst
   conv=>whnf
   repeat'((first|apply st|(apply sq;intro K U)|(apply si;intro A B Y Z)|(apply Y;clear Z B Y A)|(apply U;clear U K)|apply dr|refine⟨rfl,?_⟩|refine ix ?_|refine F6 ?_|refine aq fun v σ hs hsl=>?_|(refine CS (fun hc=>?_)<;>(try rw[hc])<;>clear hc)|(constructor<;>intro hc<;>(try rw[hc])<;>(replace hc:=bp hc)<;>try(exfalso;omega))|clear U K)<;>conv=>whnf)
   exact⟨hlt,_,rfl,trivial,by rw[hst];exact hs⟩
  ·rw[if_neg (by simpa using hkd)]at hst
   conv=>whnf
   repeat'((first|apply st|(apply sq;intro K U)|(apply si;intro A B Y Z)|(apply Y;clear Z B Y A)|(apply U;clear U K)|apply dr|refine⟨rfl,?_⟩|refine ix ?_|refine F6 ?_|(refine CS (fun hc=>?_)<;>(try rw[hc])<;>clear hc)|(constructor<;>intro hc<;>(try rw[hc])<;>(replace hc:=bp hc)<;>try(exfalso;omega))|clear U K)<;>conv=>whnf)
   exact⟨hlt,_,rfl,trivial,by rw[hst];exact hs⟩
 ·rw[Ar hke]at hs
  conv=>whnf
  repeat'((first|apply st|(apply sq;intro K U)|(apply si;intro A B Y Z)|(apply Y;clear Z B Y A)|(apply U;clear U K)|refine⟨rfl,?_⟩|(refine Dh (fun hc=>?_)<;>(try rw[hc])<;>clear hc)|clear U K)<;>conv=>whnf)
  exact BV (hs.NC 0 rfl)
end Go.Gl
namespace Go.Gl
open Go.Proofs
structure MV (p:Prog) (l:List Int):Prop where
 HK: ∀x∈l,A0 p x=true
 gen: ∀x∈l,∀y∈l,(BG p x).gen=(BG p y).gen
 nodup:l.Nodup
 many:l.length≤16
theorem Gi {p:Prog} {l:List Int} {k x:Int} (h:x∈CA p l k):x∈l∧(BG p x).kind=k:=by
 have:=JZ.1 h;exact⟨this.1,by simpa using this.2⟩
theorem Wg {p:Prog} {l:List Int} {k:Int}:(CA p l k).length≤l.length:=LV _ _
theorem MV.of {p:Prog} {l:List Int} (h:MV p l) (k:Int):Jx p (CA p l k)∧(CA p l k).Nodup:=by
 refine⟨⟨fun x hx=>h.HK x (Gi hx).1,fun x hx y hy=>?_,Nat.le_trans Wg h.many⟩,h.nodup.sublist (List.filter_sublist ..)⟩;rw[Bw,h.gen x (Gi hx).1 y (Gi hy).1,(Gi hx).2,(Gi hy).2];simp
theorem Tz {p:Prog} {l:List Int} {A B:Int→Int→Bool} (h:MV p l) (hq: ∀x∈l,∀y∈l,Bw p x y=true→A x y=B x y):EB A p l=EB B p l:=by
 have hk: ∀k,∀x∈CA p l k,∀y∈CA p l k,A x y=B x y:=fun k x hx y hy=>hq x (Gi hx).1 y (Gi hy).1 ((h.of k).1.alike x hx y hy)
 have hc: ∀k,Ba A (CA p l k).length (CA p l k)=Ba B (CA p l k).length (CA p l k):=fun k=>IE _ _ (hk k)
 have hb: ∀k,DB A (CA p l k).length (Cd (CA p l k))=DB B (CA p l k).length (Cd (CA p l k)):=fun k=>KG _ _ fun x hx y hy=>hk k x (D8.1 hx) y (D8.1 hy)
 unfold EB gQ;rw[hc 4,hc 1,hb 2,hb 3]
theorem JX.sub {T:List (List Bool)} {l l':List Int} (h:JX T l) (hs: ∀x∈l',x∈l) (hl:l'.length≤l.length):JX T l':=⟨h.len,h.sq,fun x hx=>h.ins x (hs x hx),Nat.le_trans hl h.many⟩
attribute [local irreducible] BL A4 Aj AW AM Ai AV AX AN Ah AS AU A8 BJ Sat Ac BF Ak W
set_option maxHeartbeats 4000000 in
theorem bT (p:Prog) (T:List (List Bool)) (l:List Int) (f:Bool) (hG:MV p l) (h16:p.methods.length≤16) (hT:JX T l) :
 Pure Tryz.prog 86 [.a (BK p),oj T,.l (iL l) f] (.t [.a (oq (EB (Dn T) p l).1 (!(EB (Dn T) p l).2) (!(EB (Dn T) p l).2)),.b (EB (Dn T) p l).2]):=by
 have hM:=Mx;have c1:=dj p l f 1 hG.HK hG.many h16;have c2:=dj p l f 2 hG.HK hG.many h16;have c3:=dj p l f 3 hG.HK hG.many h16;have c4:=dj p l f 4 hG.HK hG.many h16;have htk: ∀k,JX T (CA p l k):=fun k=>hT.sub (fun x hx=>(Gi hx).1) Wg
 have hts: ∀k,JX T (Cd (CA p l k)):=fun k=>(htk k).sub (fun x hx=>D8.1 hx) (by rw[JL];exact JU _)
 have d1:=OS T (CA p l 1) false (htk 1);have d4:=OS T (CA p l 4) false (htk 4);have e2:=MN T (CA p l 2) false (hts 2) (htk 2).many;have e3:=MN T (CA p l 3) false (hts 3) (htk 3).many;rw[JL]at e2 e3
 have hbl:(DB (Dn T) (CA p l 3).length (Cd (CA p l 3))).length≤16:=by
  have: ∀k l,(DB (Dn T) k l).length=k:=fun k=>by
   induction k with
   | zero=>intro l;rfl
   | succ k ih=>intro l;simp only[DB,LX,ih]
  rw[this];exact(htk 3).many
 have hpl:EB (Dn T) p l=if(CA p l 1).isEmpty then(iJ,false)else(⟨(Ba (Dn T) (CA p l 4).length (CA p l 4)).1,(Ba (Dn T) (CA p l 4).length (CA p l 4)).2,DB (Dn T) (CA p l 2).length (Cd (CA p l 2)),(Ba (Dn T) (CA p l 1).length (CA p l 1)).1,(Ba (Dn T) (CA p l 1).length (CA p l 1)).2,(DB (Dn T) (CA p l 3).length (Cd (CA p l 3))).reverse⟩,true):=rfl
 rw[hpl];have hl1:=(htk 1).many;clear htk hts hpl;generalize DB (Dn T) (CA p l 3).length (Cd (CA p l 3))=xs at *;generalize DB (Dn T) (CA p l 2).length (Cd (CA p l 2))=bs at *;generalize Ba (Dn T) (CA p l 4).length (CA p l 4)=q4 at *;generalize Ba (Dn T) (CA p l 1).length (CA p l 1)=q1 at *;generalize CA p l 1=l1 at *;obtain⟨r4,t4⟩:=q4;obtain⟨r1,t1⟩:=q1;dsimp only at d1 d4;refine qF nb ?_;have hs:=Sn;by_cases hz:l1.length=0
 ·have he:l1.isEmpty=true:=by simpa using hz
  rw[he]
  conv=>whnf
  repeat'((first|apply st|(apply sq;intro K U)|(apply si;intro A B Y Z)|(apply Y;clear Z B Y A)|(apply U;clear U K)|refine⟨rfl,?_⟩|refine⟨nb,?_⟩|refine ld ?_|refine Dm fun σ hs=>?_|refine Pure.use c1 ?_|(constructor<;>intro hc<;>(try rw[hc])<;>(replace hc:=bp hc)<;>(try simp(disch:=omega) only[BE,wrap64,AL]at hc)<;>try(exfalso;omega))|(intro nn hnn;generalize hg:BC _ nn _=σ;refine Cm hg fun hs=>?_;clear hg)|clear U K)<;>conv=>whnf)
  all_goals exact AI rfl
 ·have he:l1.isEmpty=false:=by cases l1 with
   | nil=>simp at hz
   | cons=>rfl
  rw[he]
  conv=>whnf
  repeat'((first|apply st|(apply sq;intro K U)|(apply si;intro A B Y Z)|(apply Y;clear Z B Y A)|(apply U;clear U K)|refine⟨rfl,?_⟩|refine⟨nb,?_⟩|refine FB fun σ hs=>?_|refine Pure.use c1 ?_|refine Pure.use c2 ?_|refine Pure.use c3 ?_|refine Pure.use c4 ?_|refine Pure.use d1 ?_|refine Pure.use d4 ?_|refine Pure.use e2 ?_|refine Pure.use e3 ?_|(constructor<;>intro hc<;>(try rw[hc])<;>(replace hc:=bp hc)<;>(try simp(disch:=omega) only[BE,wrap64,AL]at hc)<;>try(exfalso;omega))|(intro nn hnn;generalize hg:BC _ nn _=σ;refine Cm hg fun hs=>?_;clear hg)|fail)<;>conv=>whnf)
  rename_i n6 _ _ _ _ _ _ _ _ _ _ _ _ _
  have hwl:IntKind.i64.wrap ((iL xs).length - 1)=(xs.length:Int) - 1:=by
   have e:((iL xs).length:Int)=xs.length:=by simp
   rw[e,wrap64 (by omega) (by omega)]
  refine EF (fun x:Int×V=>(x.1+1).toNat) (fun x=>[(10,eI x.1)]) (fun x=>[.box nn [.l (iL r4) false,.b t4,.l (iL bs) false,.l (iL r1) false,.b t1,x.2],.box n6 [.l [] true,.b false,.l [] true,.l [] true,.b false,.l [] true],.own x.2 1 (iL ((xs.drop (x.1+1).toNat).reverse))]) (fun x=> -1≤x.1∧x.1<xs.length) (IntKind.i64.wrap ((iL xs).length - 1),.l [] true) rfl (by
   dsimp only;rw[hwl];exact⟨by omega,by omega⟩) (by dsimp only;rw[hwl,List.drop_of_length_le (by omega)];exact Ey hs 1) ?_
  clear hs hwl;rintro⟨i,v⟩ σ ⟨hi1,hi2⟩ hs;dsimp only at hi1 hi2 hs;dsimp only;by_cases hneg:i<0
  ·obtain rfl:i= -1:=by omega
   rw[show((-1:Int)+1).toNat=0 from rfl,List.drop_zero]at hs
   conv=>whnf
   repeat'((first|apply st|(apply sq;intro K U)|(apply si;intro A B Y Z)|(apply Y;clear Z B Y A)|(apply U;clear U K)|refine⟨rfl,?_⟩|refine⟨nb,?_⟩|refine ld ?_|(constructor<;>intro hc<;>(try rw[hc])<;>(replace hc:=bp hc)<;>try(exfalso;omega))|clear U K)<;>conv=>whnf)
   have o1:=Gu hs 2 rfl;refine Ho hs 1 rfl rfl rfl (by simp[o1]) (by decide) fun σ hs=>?_
   clear o1
   conv=>whnf
   repeat'((first|apply st|(apply Y;clear Z B Y A)|(apply U;clear U K)|refine⟨nb,?_⟩|refine ld ?_|fail)<;>conv=>whnf)
   exact BV (.t (.cons (.a (.cons (.refl _) (.cons (.refl _) (.cons (.refl _) (.cons (.refl _) (.cons (.refl _) (.cons (hs.NC 2 rfl) .nil))))))) (.cons (.refl _) .nil)))
  ·have hpos:0≤i:=by omega
   obtain⟨x,hx⟩: ∃x,xs[i.toNat]? =some x:=⟨_,Cu (by omega)⟩
   have hd:(xs.drop i.toNat).reverse=(xs.drop (i+1).toNat).reverse++[x]:=by
    rw[drop_cons hx,List.reverse_cons,show(i+1).toNat=i.toNat+1 by omega]
   have hdl:((xs.drop (i+1).toNat).reverse).length≤16:=by
    rw[List.length_reverse,iF];omega
   generalize (xs.drop (i+1).toNat).reverse=zs at *;have hll:zs.length<Ad∧(zs.length+1)*8≤140737488355328:=by omega
   have hwi:IntKind.i64.wrap (i - 1)=i - 1:=wrap64 (by omega) (by omega)
   conv=>whnf
   repeat'((first|apply st|(apply sq;intro K U)|(apply si;intro A B Y Z)|(apply Y;clear Z B Y A)|(apply U;clear U K)|apply dr|refine⟨rfl,?_⟩|refine F6 ?_|refine ld ?_|refine FB fun σ hs=>?_|refine aq fun v σ hs hsl=>?_|(constructor<;>intro hc<;>(try rw[hc])<;>(replace hc:=bp hc)<;>try(exfalso;omega))|clear U K)<;>conv=>whnf)
   refine⟨(i - 1,v),by dsimp only;omega,by rw[hwi];rfl,⟨by dsimp only;omega,by dsimp only;omega⟩,?_⟩;dsimp only;rw[show(i - 1+1).toNat=i.toNat by omega,hd];exact hs
theorem bS (p:Prog) (l:List Int) (f:Bool) (hok:DF p) (hG:MV p l) :
 Pure Tryz.prog 59 [.a (BK p),.l (iL l) f] (.t [.a (oq (EB (Ag p) p l).1 (!(EB (Ag p) p l).2) (!(EB (Ag p) p l).2)),.b (EB (Ag p) p l).2]):=by
 refine Pure.of ?_;refine qW nb ?_;have hs:=Sn
 conv=>whnf
 repeat'((first|apply st|(apply sq;intro K U)|(apply si;intro A B Y Z)|(apply Y;clear Z B Y A)|(apply U;clear U K)|apply dr|refine⟨nb,?_⟩|(intro nn hnn;generalize hg:BC _ nn _=σ;refine Cm hg fun hs=>?_;clear hg)|fail)<;>conv=>whnf)
 refine(OY p l f hok hG.many hG.HK).use (rest:=_) (hs.front (j:=0) rfl) ?_;clear hs;rintro r post σ ⟨rfl,T,rfl,hT,hq⟩ hs;have c1:=bT p T l f hG hok.many hT;rw[Tz hG hq]at c1
 conv=>whnf
 repeat'((first|apply st|(apply Y;clear Z B Y A)|(apply U;clear U K)|apply dr|refine rk ?_ ?_|exact fun s e=>by cases e;rfl|refine⟨nb,?_⟩|refine ld ?_|refine Dm fun σ hs=>?_|refine Pure.use c1 ?_|fail)<;>conv=>whnf)
 all_goals exact AO (by rfl)
end Go.Gl
namespace Go.Gl
open Go.Proofs
attribute [local irreducible] BL A4 Aj AW AM Ai AV AX AN Ah AS AU A8 BJ Sat Ac BF Ak W
theorem bY {p:Prog} {l:List Int} {k:Nat} {x:Int} (hx:l[k]? =some x) (kd:Int):CA p (l.take (k+1)) kd=if(BG p x).kind==kd then CA p (l.take k) kd++[x]else CA p (l.take k) kd:=by
 rw[AR hx,CA,List.filter_append];cases hp:(BG p x).kind==kd<;>simp[CA,hp]
theorem Kz {p:Prog} {l:List Int} {k:Nat} {kd:Int} (h:l.length≤16):(CA p (l.take k) kd).length≤16:=by
 have:=LV (fun m=>(BG p m).kind==kd) (l.take k);rw[LW]at this;simp only[CA];omega
set_option maxHeartbeats 4000000 in
theorem Zq (p:Prog) (L:Nat) (l:List Int) (f:Bool) (h:(BO p).isSome=true) (hG:MV p l) (M:List (Int×Int)) :
 Bh Tryz.prog 57 [Fs p L,.l (iL l) f] [.map L (FK p M)] fun r post=>r= .ret (.t [.a (oq (EB (Ag p) p l).1 true (!(EB (Ag p) p l).2)),.b (EB (Ag p) p l).2])∧ ∃M',post= [.map L (FK p M')]:=by
 intro σ hs;have hM:=Mx;have hok:=look_ok h;have hgw:=MX h;have hfm:=JG h;have h16:=hG.many;have hm16:=hok.many;generalize hX:EB (Ag p) p l=X;refine qY nb ?_
 conv=>whnf
 repeat'((first|apply st|(apply sq;intro K U)|(apply si;intro A B Y Z)|(apply Y;clear Z B Y A)|(apply U;clear U K)|(intro nn hnn;generalize hg:BC _ nn _=σ;refine Cm hg fun hs=>?_;clear hg)|fail)<;>conv=>whnf)
 rename_i n4 _ _ _;clear hnn;refine B4 l.length (fun k (_:V×V×V×V)=>[(13,eI (A6 k))]) (fun k x=>[.own x.1 1 (iL (CA p (l.take k) 1)),.own x.2.1 1 (iL (CA p (l.take k) 2)),.own x.2.2.1 1 (iL (CA p (l.take k) 3)),.own x.2.2.2 1 (iL (CA p (l.take k) 4)),.box nn [.l [] true,x.1,x.2.1,x.2.2.1,x.2.2.2],.box n4 [.l [] true,.b false,.l [] true,.l [] true,.b false,.l [] true],.map L (FK p M)]) (fun _ _=>True) (.l [] true,.l [] true,.l [] true,.l [] true) rfl trivial (Cv (Cv (Cv (Cv hs 1) 1) 1) 1) ?_;clear hs;rintro k ⟨v1,v2,v3,v4⟩ σ hk - hs;dsimp only at hs;dsimp only;rcases BH l hk with⟨x,hx,hlt⟩|hke
 ·have hmx:=hG.HK x (B2 hx)
  have hxm:=Bs hmx;obtain⟨hkr,-⟩:=Wm h (B2 hxm);have hst:=bY (p:=p) hx;simp only[A0,BZ,CX]at hmx;have l1:(CA p (l.take k) 1).length≤16:=Kz h16;have l2:(CA p (l.take k) 2).length≤16:=Kz h16;have l3:(CA p (l.take k) 3).length≤16:=Kz h16;have l4:(CA p (l.take k) 4).length≤16:=Kz h16;have s1:=hst 1;have s2:=hst 2;have s3:=hst 3;have s4:=hst 4;clear hst;generalize BG p x=y at *;generalize CA p (l.take k) 1=z1 at *;generalize CA p (l.take k) 2=z2 at *;generalize CA p (l.take k) 3=z3 at *;generalize CA p (l.take k) 4=z4 at *;obtain⟨kd,gn,fc,nd⟩:=y;dsimp only at hkr s1 s2 s3 s4;rcases(show kd=1∨kd=2∨kd=3∨kd=4 by omega)with rfl|rfl|rfl|rfl
  ·rw[if_pos (beq_self_eq_true _)]at s1
   rw[if_neg (by decide)]at s2 s3 s4;have hll:z1.length<Ad∧(z1.length+1)*8≤140737488355328:=by omega
   clear l1 l2 l3 l4
   conv=>whnf
   repeat'((first|apply st|(apply sq;intro K U)|(apply si;intro A B Y Z)|(apply Y;clear Z B Y A)|(apply U;clear U K)|refine⟨rfl,?_⟩|refine ix ?_|refine F6 ?_|refine ld ?_|refine FB fun σ hs=>?_|refine aq fun v σ hs hsl=>?_|(refine CS (fun hc=>?_)<;>(try rw[hc])<;>clear hc)|refine UR (j:=1) ?_ (by decide) (by decide)|clear U K)<;>conv=>whnf)
   exact⟨hlt,(v,v2,v3,v4),rfl,trivial,by rw[s1,s2,s3,s4];exact hs⟩
  ·rw[if_pos (beq_self_eq_true _)]at s2
   rw[if_neg (by decide)]at s1 s3 s4;have hll:z2.length<Ad∧(z2.length+1)*8≤140737488355328:=by omega
   clear l1 l2 l3 l4
   conv=>whnf
   repeat'((first|apply st|(apply sq;intro K U)|(apply si;intro A B Y Z)|(apply Y;clear Z B Y A)|(apply U;clear U K)|refine⟨rfl,?_⟩|refine ix ?_|refine F6 ?_|refine ld ?_|refine FB fun σ hs=>?_|refine aq fun v σ hs hsl=>?_|(refine CS (fun hc=>?_)<;>(try rw[hc])<;>clear hc)|refine UR (j:=2) ?_ (by decide) (by decide)|clear U K)<;>conv=>whnf)
   exact⟨hlt,(v1,v,v3,v4),rfl,trivial,by rw[s1,s2,s3,s4];exact hs⟩
  ·rw[if_pos (beq_self_eq_true _)]at s3
   rw[if_neg (by decide)]at s1 s2 s4;have hll:z3.length<Ad∧(z3.length+1)*8≤140737488355328:=by omega
   clear l1 l2 l3 l4
   conv=>whnf
   repeat'((first|apply st|(apply sq;intro K U)|(apply si;intro A B Y Z)|(apply Y;clear Z B Y A)|(apply U;clear U K)|refine⟨rfl,?_⟩|refine ix ?_|refine F6 ?_|refine ld ?_|refine FB fun σ hs=>?_|refine aq fun v σ hs hsl=>?_|(refine CS (fun hc=>?_)<;>(try rw[hc])<;>clear hc)|refine UR (j:=3) ?_ (by decide) (by decide)|clear U K)<;>conv=>whnf)
   exact⟨hlt,(v1,v2,v,v4),rfl,trivial,by rw[s1,s2,s3,s4];exact hs⟩
  ·rw[if_pos (beq_self_eq_true _)]at s4
   rw[if_neg (by decide)]at s1 s2 s3;have hll:z4.length<Ad∧(z4.length+1)*8≤140737488355328:=by omega
   clear l1 l2 l3 l4
   conv=>whnf
   repeat'((first|apply st|(apply sq;intro K U)|(apply si;intro A B Y Z)|(apply Y;clear Z B Y A)|(apply U;clear U K)|refine⟨rfl,?_⟩|refine ix ?_|refine F6 ?_|refine ld ?_|refine FB fun σ hs=>?_|refine aq fun v σ hs hsl=>?_|(refine CS (fun hc=>?_)<;>(try rw[hc])<;>clear hc)|refine UR (j:=4) ?_ (by decide) (by decide)|clear U K)<;>conv=>whnf)
   exact⟨hlt,(v1,v2,v3,v),rfl,trivial,by rw[s1,s2,s3,s4];exact hs⟩
 ·rw [Ar hke]at hs
  obtain⟨o1,d1⟩:=hG.of 1;obtain⟨o2,d2⟩:=hG.of 2;obtain⟨o3,d3⟩:=hG.of 3;obtain⟨o4,d4⟩:=hG.of 4;have hpl:EB (Ag p) p l=if(CA p l 1).isEmpty then(iJ,false)else(⟨(Ba (Ag p) (CA p l 4).length (CA p l 4)).1,(Ba (Ag p) (CA p l 4).length (CA p l 4)).2,DB (Ag p) (CA p l 2).length (Cd (CA p l 2)),(Ba (Ag p) (CA p l 1).length (CA p l 1)).1,(Ba (Ag p) (CA p l 1).length (CA p l 1)).2,(DB (Ag p) (CA p l 3).length (Cd (CA p l 3))).reverse⟩,true):=rfl
  rw[hpl]at hX;clear hpl;have e4:=fun M=>R0 p L (CA p l 4) false hok hgw hfm o4 d4 M
  have e2:=fun M=>Qu p L (CA p l 2) false hok hgw hfm o2 d2 M
  have e1:=fun M=>R0 p L (CA p l 1) false hok hgw hfm o1 d1 M
  have e3:=fun M=>Vw p L (CA p l 3) false hok hgw hfm o3 d3 M
  rw[L5 d2]at e2;rw[L5 d3]at e3;have hl1:=o1.many
  have hbl:(DB (Ag p) (CA p l 3).length (Cd (CA p l 3))).length≤16:=by
   have: ∀k l,(DB (Ag p) k l).length=k:=fun k=>by
    induction k with
    | zero=>intro l;rfl
    | succ k ih=>intro l;simp only[DB,LX,ih]
   rw[this];exact o3.many
  clear o1 o2 o3 o4 d1 d2 d3 d4 hG;generalize DB (Ag p) (CA p l 3).length (Cd (CA p l 3))=xs at *;generalize DB (Ag p) (CA p l 2).length (Cd (CA p l 2))=bs at *;generalize Ba (Ag p) (CA p l 4).length (CA p l 4)=q4 at *;generalize Ba (Ag p) (CA p l 1).length (CA p l 1)=q1 at *;generalize CA p l 1=l1 at *;generalize CA p l 2=l2 at *;generalize CA p l 3=l3 at *;generalize CA p l 4=l4 at *;obtain⟨r4,t4⟩:=q4;obtain⟨r1,t1⟩:=q1;dsimp only at e1 e4;by_cases hz:l1.length=0
  ·have he:l1.isEmpty=true:=by simpa using hz
   rw[he,if_pos rfl]at hX;subst hX
   conv=>whnf
   repeat'((first|apply st|(apply sq;intro K U)|(apply si;intro A B Y Z)|(apply Y;clear Z B Y A)|(apply U;clear U K)|refine⟨rfl,?_⟩|refine⟨nb,?_⟩|refine UR ?_|refine lo ?_|refine ld ?_|(refine Dh (fun hc=>?_)<;>(try rw[hc])<;>clear hc)|(constructor<;>intro hc<;>(try rw[hc])<;>(replace hc:=bp hc)<;>(try simp(disch:=omega) only[BE,wrap64,AL]at hc)<;>try(exfalso;omega))|(intro nn hnn;generalize hg:BC _ nn _=σ;refine Cm hg fun hs=>?_;clear hg)|clear U K)<;>conv=>whnf)
   refine Ho hs 6 rfl rfl rfl (by simp) (by decide) fun σ hs=>?_
   conv=>whnf
   repeat'((first|apply st|(apply Y;clear Z B Y A)|(apply U;clear U K)|clear U K)<;>conv=>whnf)
   refine Sr hs 6 rfl ?_
   conv=>whnf
   repeat'((first|refine⟨nb,?_⟩|fail)<;>conv=>whnf)
   exact Ao (hs.front (j:=7) rfl) (.cons₂ _ (MR _)) (.refl _) fun σ' hs'=>⟨_,⟨rfl,M,rfl⟩,hs'⟩
  ·have he:l1.isEmpty=false:=by cases l1 with
    | nil=>simp at hz
    | cons=>rfl
   rw[he,if_neg (by decide)]at hX;subst hX
   conv=>whnf
   repeat'((first|apply st|(apply sq;intro K U)|(apply si;intro A B Y Z)|(apply Y;clear Z B Y A)|(apply U;clear U K)|refine⟨rfl,?_⟩|refine UR ?_|refine lo ?_|refine ld ?_|(refine Dh (fun hc=>?_)<;>(try rw[hc])<;>clear hc)|(constructor<;>intro hc<;>(try rw[hc])<;>(replace hc:=bp hc)<;>(try simp(disch:=omega) only[BE,wrap64,AL]at hc)<;>try(exfalso;omega))|(intro nn hnn;generalize hg:BC _ nn _=σ;refine Cm hg fun hs=>?_;clear hg)|clear U K)<;>conv=>whnf)
   obtain⟨σ2,g1,g2,g3⟩:=Ir hs 4 rfl;refine BL.P0 ((e4 M).use (rest:=_) (g3.front (j:=6) rfl) ?_) g1 (.cons (.refl _) (.cons g2 .nil));clear hs g1 g2 g3;rintro r post σ ⟨rfl,M,rfl⟩ hs
   conv=>whnf
   repeat'((first|(apply sq;intro K U)|(apply si;intro A B Y Z)|(apply Y;clear Z B Y A)|(apply U;clear U K)|refine UR ?_|refine ld ?_|refine FB fun σ hs=>?_|fail)<;>conv=>whnf)
   obtain⟨σ2,g1,g2,g3⟩:=Ir hs 3 rfl;refine BL.P0 ((e2 M).use (rest:=_) g3 ?_) g1 (.cons (.refl _) (.cons g2 .nil));clear hs g1 g2 g3;rintro r post σ ⟨rfl,M,rfl⟩ hs
   conv=>whnf
   repeat'((first|(apply sq;intro K U)|(apply si;intro A B Y Z)|(apply Y;clear Z B Y A)|(apply U;clear U K)|refine UR ?_|refine ld ?_|refine FB fun σ hs=>?_|fail)<;>conv=>whnf)
   obtain⟨σ2,g1,g2,g3⟩:=Ir hs 2 rfl;refine BL.P0 ((e1 M).use (rest:=_) g3 ?_) g1 (.cons (.refl _) (.cons g2 .nil));clear hs g1 g2 g3;rintro r post σ ⟨rfl,M,rfl⟩ hs
   conv=>whnf
   repeat'((first|(apply sq;intro K U)|(apply si;intro A B Y Z)|(apply Y;clear Z B Y A)|(apply U;clear U K)|refine UR ?_|refine ld ?_|refine FB fun σ hs=>?_|fail)<;>conv=>whnf)
   obtain⟨σ2,g1,g2,g3⟩:=Ir hs 2 rfl;refine BL.P0 ((e3 M).use (rest:=_) g3 ?_) g1 (.cons (.refl _) (.cons g2 .nil));clear hs g1 g2 g3;rintro r post σ ⟨v,M,rfl,rfl,hv⟩ hs
   conv=>whnf
   repeat'((first|(apply sq;intro K U)|(apply si;intro A B Y Z)|(apply Y;clear Z B Y A)|(apply U;clear U K)|refine ld ?_|refine FB fun σ hs=>?_|fail)<;>conv=>whnf)
   refine(Xz xs v (by omega) hv).use (rest:=_) hs ?_;clear hs;rintro r post σ ⟨rfl,rfl⟩ hs
   conv=>whnf
   repeat'((first|(apply sq;intro K U)|(apply si;intro A B Y Z)|(apply Y;clear Z B Y A)|(apply U;clear U K)|refine⟨nb,?_⟩|refine ld ?_|fail)<;>conv=>whnf)
   have o1:=Gu hs 0 rfl;refine Ho hs 4 rfl rfl rfl (by simp[o1]) (by decide) fun σ hs=>?_
   clear o1
   conv=>whnf
   repeat'((first|apply st|(apply Y;clear Z B Y A)|(apply U;clear U K)|refine⟨nb,?_⟩|refine ld ?_|fail)<;>conv=>whnf)
   obtain⟨σ2,g1,g2,g3⟩:=Ir hs 0 rfl;exact F2 g1 (.t (.cons (.a (.cons (.refl _) (.cons (.refl _) (.cons (.refl _) (.cons (.refl _) (.cons (.refl _) (.cons g2 .nil))))))) (.cons (.refl _) .nil))) ⟨_,⟨rfl,M,rfl⟩,g3.less (.cons₂ _ (MR _))⟩
def Ny (g:FuncId) (fi ca:List V) (q:Ob→Bool):Prop:= ∀v,Pure Tryz.prog g (fi++[.a (Ii v)]++ca) (.b (q v))
theorem Ny.use {g:FuncId} {fi ca:List V} {q:Ob→Bool} (h:Ny g fi ca q) {v:Ob} {σ:AH} {k kp:V→AH→Prop} (hk:k (.b (q v)) σ):A8 Tryz.prog (.f (.func g) fi ca) [.a (Ii v)] σ (qk k kp):=Bp ((h v).use hk)
theorem Vo {g:FuncId} {fi ca:List V} {q:Ob→Bool} (hpf:Ny g fi ca q) (v:Ob):Pure Tryz.prog 238 [.a (Ii v),.rp [.f (.func g) fi ca]] (.b (!q v)):=by
 refine lH nb ?_;have hs:=Sn
 conv=>whnf
 repeat'((first|apply st|(apply sq;intro K U)|(apply si;intro A B Y Z)|(apply Y;clear Z B Y A)|(apply U;clear U K)|refine⟨nb,?_⟩|refine Ny.use hpf ?_|fail)<;>conv=>whnf)
 all_goals exact AI rfl
theorem cB {g:FuncId} {fi ca:List V} {q:Ob→Bool} (hpf:Ny g fi ca q) (l:List Ob) (b:Bool):Pure Tryz.prog 267 [.l (l.map Ii) b,.f (.func 238) [] [.rp [.f (.func g) fi ca]]] (eI (Ni q l 0)):=by
 refine Pure.fit (by kernel_rfl) fun hf=>?_
 have hl:l.length≤Ad:=by
  have:=hf.1;simp only[Fq,BE]at this;exact this.1
 have hM:=Mx;refine kZ nb ?_;have hs:=Sn
 conv=>whnf
 repeat'((first|apply st|(apply sq;intro K U)|(apply si;intro A B Y Z)|(apply Y;clear Z B Y A)|(apply U;clear U K)|fail)<;>conv=>whnf)
 refine B4 l.length (fun k (_:Unit)=>[(8,eI (A6 k))]) (fun _ _=>[]) (fun k _=>Ni q l 0=Ni q (l.drop k) k) () rfl rfl hs ?_;clear hs;rintro k - σ hk hn hs;have hck:A6 k=k:=AL (by omega);rcases BH l hk with⟨x,hx,hlt⟩|hke
 ·have c1:=Vo hpf x
  rw[drop_cons hx,Ni]at hn;cases hv:q x<;>rw[hv]at c1 hn
  ·conv=>whnf
   repeat'((first|apply st|(apply sq;intro K U)|(apply si;intro A B Y Z)|(apply Y;clear Z B Y A)|(apply U;clear U K)|refine⟨rfl,?_⟩|refine⟨nb,?_⟩|refine ix ?_|refine E0 ?_|(refine CS (fun hc=>?_)<;>(try rw[hc])<;>clear hc)|refine Bp (Pure.use c1 ?_)|clear U K)<;>conv=>whnf)
   exact AI (by rw[hn,if_neg (by decide),hck])
  ·conv=>whnf
   repeat'((first|apply st|(apply sq;intro K U)|(apply si;intro A B Y Z)|(apply Y;clear Z B Y A)|(apply U;clear U K)|refine⟨rfl,?_⟩|refine⟨nb,?_⟩|refine ix ?_|refine D2 ?_|(refine CS (fun hc=>?_)<;>(try rw[hc])<;>clear hc)|refine Bp (Pure.use c1 ?_)|clear U K)<;>conv=>whnf)
   exact⟨hlt,(),rfl,by rw[hn,if_pos rfl],hs⟩
 ·conv=>whnf
  repeat'((first|apply st|(apply sq;intro K U)|(apply si;intro A B Y Z)|(apply Y;clear Z B Y A)|(apply U;clear U K)|refine⟨rfl,?_⟩|(refine Dh (fun hc=>?_)<;>(try rw[hc])<;>clear hc)|clear U K)<;>conv=>whnf)
  exact AI (by rw[hn,Al hke];rfl)
theorem UJ {g:FuncId} {fi ca:List V} {q:Ob→Bool} (hpf:Ny g fi ca q) (l:List Ob) (b:Bool):Pure Tryz.prog 237 [.l (l.map Ii) b,.f (.func 238) [] [.rp [.f (.func g) fi ca]]] (.b (!l.all q)):=by
 have c1:=cB hpf l b;refine lI nb ?_;have hs:=Sn
 conv=>whnf
 repeat'((first|apply st|(apply sq;intro K U)|(apply si;intro A B Y Z)|(apply Y;clear Z B Y A)|(apply U;clear U K)|refine⟨rfl,?_⟩|refine Pure.use c1 ?_|fail)<;>conv=>whnf)
 all_goals exact AI (by rw[←OU q l 0])
theorem oW {g:FuncId} {fi ca:List V} {q:Ob→Bool} (hpf:Ny g fi ca q) (l:List Ob) (b:Bool):Pure Tryz.prog 186 [.l (l.map Ii) b,.f (.func g) fi ca] (.b (l.all q)):=by
 have c1:=UJ hpf l b;refine mE nb ?_;have hs:=Sn
 conv=>whnf
 repeat'((first|apply st|(apply sq;intro K U)|(apply si;intro A B Y Z)|(apply Y;clear Z B Y A)|(apply U;clear U K)|refine Pure.use c1 ?_|fail)<;>conv=>whnf)
 all_goals exact AI (by rw[Bool.not_not])
theorem Vq (os:List Ob) (f:Bool) (v:Int×Int):Pure Tryz.prog 189 [.a (pI v),.rp [.l (os.map Ii) f]] (.b (Cn os.length v)):=by
 have e3:((os.map Ii).length:Int)=os.length:=by simp
 have c1:Pure Tryz.prog 149 [.a (pI v),eI ((os.map Ii).length:Int)] (.b (Cn os.length v)):=by rw[e3];exact Sz v os.length
 refine mC nb ?_;have hs:=Sn
 conv=>whnf
 repeat'((first|apply st|(apply sq;intro K U)|(apply si;intro A B Y Z)|(apply Y;clear Z B Y A)|(apply U;clear U K)|refine⟨nb,?_⟩|refine Pure.use c1 ?_|fail)<;>conv=>whnf)
 all_goals exact AI rfl
set_option maxHeartbeats 1000000 in
theorem Vr (w:AK) (hw:CR w) (hw2:Ld w) (os:List Ob) (f:Bool) (o:Ob):Pure Tryz.prog 187 [.a (Ii o),.rp [.rp (wC w (CE w.parents))],.rp [.l (os.map Ii) f]] (.b (Uc w os.length o)):=by
 refine Pure.fit (by kernel_rfl) fun hf=>?_
 have hM:=Mx;have c1:Pure Tryz.prog 178 [.rp (wC w (CE w.parents)),eI o.1] (.b (ZK w o.1)):=eT w (CE w.parents) o.1 hw2.len;have c3:=aV (g:=189) (fi:=[]) (ca:=[.rp [.l (os.map Ii) f]]) (Vq os f) o.2 false;cases ho:ZK w o.1<;>rw[ho]at c1
 ·refine Uv nb ?_
  have hs:=Sn
  conv=>whnf
  repeat'((first|apply st|(apply sq;intro K U)|(apply si;intro A B Y Z)|(apply Y;clear Z B Y A)|(apply U;clear U K)|apply dr|refine rk ?_ ?_|exact fun s e=>by cases e;rfl|refine Pure.use c1 ?_|fail)<;>conv=>whnf)
  all_goals exact AI (by rw[Uc,ho];rfl)
 ·have hor:=ho
  simp only[ZK,BZ,CX]at hor;have c2:=TC w o.1 hw hw2 hor.1 hor.2;have hob:Uc w os.length o=(o.2.length==(Dd w o.1).length&&o.2.all (Cn os.length)):=by rw[Uc,ho,Fm]
  rw[hob];clear hob;generalize Dd w o.1=ss at *;by_cases he:o.2.length=ss.length
  ·rw[D1.2 he,Fm]
   refine Uv nb ?_;have hs:=Sn
   conv=>whnf
   repeat'((first|apply st|(apply sq;intro K U)|(apply si;intro A B Y Z)|(apply Y;clear Z B Y A)|(apply U;clear U K)|apply dr|refine rk ?_ ?_|exact fun s e=>by cases e;rfl|refine⟨rfl,?_⟩|refine Pure.use c1 ?_|refine Pure.use c2 ?_|refine Pure.use c3 ?_|(constructor<;>intro hc<;>(try rw[hc])<;>(replace hc:=bp hc)<;>(try simp(disch:=omega) only[BE,wrap64,AL]at hc)<;>try(exfalso;omega))|fail)<;>conv=>whnf)
   all_goals first
    | exact AI rfl
    | (exfalso;simp[he]at hc;done)
    | (exfalso;simp at hc;omega)
  ·rw[beq_eq_false_iff_ne.2 he,Bool.false_and]
   refine Uv nb ?_;have hs:=Sn
   conv=>whnf
   repeat'((first|apply st|(apply sq;intro K U)|(apply si;intro A B Y Z)|(apply Y;clear Z B Y A)|(apply U;clear U K)|apply dr|refine rk ?_ ?_|exact fun s e=>by cases e;rfl|refine⟨rfl,?_⟩|refine Pure.use c1 ?_|refine Pure.use c2 ?_|(constructor<;>intro hc<;>(try rw[hc])<;>(replace hc:=bp hc)<;>(try simp(disch:=omega) only[BE,wrap64,AL]at hc)<;>try(exfalso;omega))|fail)<;>conv=>whnf)
   all_goals first
    | exact AI rfl
    | (exfalso;simp at hc;omega)
theorem Xo (w:AK) (hw:CR w) (hw2:Ld w) (os:List Ob) (f:Bool):Pure Tryz.prog 146 [.rp (wC w (CE w.parents)),.l (os.map Ii) f] (.b (IJ w os)):=by
 refine Pure.fit (by kernel_rfl) fun hf=>?_
 have hM:=Mx;have c1:=oW (g:=187) (fi:=[]) (ca:=[.rp [.rp (wC w (CE w.parents))],.rp [.l (os.map Ii) f]]) (Vr w hw hw2 os f) os f;by_cases h40:os.length≤40
 ·have e0:IJ w os=os.all (Uc w os.length):=by rw[IJ,decide_eq_true h40,Fm]
  rw[e0];refine aJ nb ?_;have hs:=Sn
  conv=>whnf
  repeat'((first|apply st|(apply sq;intro K U)|(apply si;intro A B Y Z)|(apply Y;clear Z B Y A)|(apply U;clear U K)|refine⟨rfl,?_⟩|refine Pure.use c1 ?_|(constructor<;>intro hc<;>(try rw[hc])<;>(replace hc:=bp hc)<;>(try simp(disch:=omega) only[BE,wrap64,AL]at hc)<;>try(exfalso;omega))|fail)<;>conv=>whnf)
  all_goals exact AI rfl
 ·refine aJ nb ?_
  have hs:=Sn
  conv=>whnf
  repeat'((first|apply st|(apply sq;intro K U)|(apply si;intro A B Y Z)|(apply Y;clear Z B Y A)|(apply U;clear U K)|refine⟨rfl,?_⟩|(constructor<;>intro hc<;>(try rw[hc])<;>(replace hc:=bp hc)<;>(try simp(disch:=omega) only[BE,wrap64,AL]at hc)<;>try(exfalso;omega))|fail)<;>conv=>whnf)
  all_goals exact AI (by rw[IJ,decide_eq_false h40];rfl)
def Je (w:AK) (os:List Ob) (args:List (Int×Int)):Bool:=IJ w os&&(decide (1≤args.length)&&(decide (args.length≤3)&&args.all (Cn os.length)))
theorem Qd (w:AK) (hw:CR w) (hw2:Ld w) (os:List Ob) (f:Bool) (args:List (Int×Int)) (g:Bool):Pure Tryz.prog 115 [.rp (wC w (CE w.parents)),.l (os.map Ii) f,.l (pP args) g] (.b (Je w os args)):=by
 refine Pure.fit (by kernel_rfl) fun hf=>?_
 have hM:=Mx;have c1:=Xo w hw hw2 os f;have c2:=aV (g:=148) (fi:=[]) (ca:=[.rp [.l (os.map Ii) f]]) (Vs os f) args g;rw[Je];cases ho:IJ w os<;>rw[ho]at c1
 ·refine RV nb ?_
  have hs:=Sn
  conv=>whnf
  repeat'((first|apply st|(apply sq;intro K U)|(apply si;intro A B Y Z)|(apply Y;clear Z B Y A)|(apply U;clear U K)|refine Pure.use c1 ?_|fail)<;>conv=>whnf)
  all_goals exact AI rfl
 ·by_cases h1:1≤args.length
  ·by_cases h3:args.length≤3
   ·rw[decide_eq_true h1,decide_eq_true h3,Fm,Fm,Fm]
    refine RV nb ?_;have hs:=Sn
    conv=>whnf
    repeat'((first|apply st|(apply sq;intro K U)|(apply si;intro A B Y Z)|(apply Y;clear Z B Y A)|(apply U;clear U K)|refine⟨rfl,?_⟩|refine Pure.use c1 ?_|refine Pure.use c2 ?_|(constructor<;>intro hc<;>(try rw[hc])<;>(replace hc:=bp hc)<;>(try simp(disch:=omega) only[BE,wrap64,AL]at hc)<;>try(exfalso;omega))|fail)<;>conv=>whnf)
    all_goals exact AI rfl
   ·rw[decide_eq_true h1,decide_eq_false h3,Fm,Bool.false_and,Bool.and_false]
    refine RV nb ?_;have hs:=Sn
    conv=>whnf
    repeat'((first|apply st|(apply sq;intro K U)|(apply si;intro A B Y Z)|(apply Y;clear Z B Y A)|(apply U;clear U K)|refine⟨rfl,?_⟩|refine Pure.use c1 ?_|(constructor<;>intro hc<;>(try rw[hc])<;>(replace hc:=bp hc)<;>(try simp(disch:=omega) only[BE,wrap64,AL]at hc)<;>try(exfalso;omega))|fail)<;>conv=>whnf)
    all_goals exact AI rfl
  ·rw[decide_eq_false h1,Bool.false_and,Bool.and_false]
   refine RV nb ?_;have hs:=Sn
   conv=>whnf
   repeat'((first|apply st|(apply sq;intro K U)|(apply si;intro A B Y Z)|(apply Y;clear Z B Y A)|(apply U;clear U K)|refine⟨rfl,?_⟩|refine Pure.use c1 ?_|(constructor<;>intro hc<;>(try rw[hc])<;>(replace hc:=bp hc)<;>(try simp(disch:=omega) only[BE,wrap64,AL]at hc)<;>try(exfalso;omega))|fail)<;>conv=>whnf)
   all_goals exact AI rfl
theorem XA {x:Int}: ∀(xs:List Int) (k i:Nat),xs[i]? =some x→(∀j y,j<i→xs[j]? =some y→y≠x)→(Bn (fun y (_:Unit)=>(x==y,())) xs k ()).1=((k+i:Nat):Int)
 | [],_,_,h,_=>by simp at h
 | y::r,k,0,h,_=>by
   obtain rfl:y=x:=by simpa using h
   simp[Bn]
 | y::r,k,i+1,h,hn=>by
   have hy:=hn 0 y (Nat.succ_pos i) rfl;rw[Bn,if_neg (by simpa using fun e:x=y=>hy e.symm)];rw[XA r (k+1) i (by simpa using h) fun j z hj hz=>hn (j+1) z (by omega) (by simpa using hz)];omega
set_option maxHeartbeats 1000000 in
theorem qz (w:AK) (os:List Ob) (f:Bool) (v:Int×Int) (l:List Int) (g:Bool) (hg:CR w) (hw:Ld w) (hos:Ub w os) (hv:Cn os.length v=true) (hl: ∀s∈l,0≤s∧s<(w.owner.length:Int)) :
 Pure Tryz.prog 151 [.rp (wC w (CE w.parents)),.l (os.map Ii) f,.a (pI v),.l (iL l) g] (xd (dL w os l v)):=by
 refine Pure.fit (by kernel_rfl) fun hf=>?_
 have hll:=Jf hf.2.2.2.1;have hM:=Mx;have ho4:=hos.len;have hol:=hw.iX;refine mq nb ?_;have hs:=Sn
 conv=>whnf
 repeat'((first|apply st|(apply sq;intro K U)|(apply si;intro A B Y Z)|(apply Y;clear Z B Y A)|(apply U;clear U K)|(intro nn hnn;generalize hg:BC _ nn _=σ;refine Cm hg fun hs=>?_;clear hg)|fail)<;>conv=>whnf)
 rename_i nV _ _ _;refine B4 l.length (fun k (_:Int×Int)=>[(14,eI (A6 k))]) (fun _ v=>[.box nn [eI 0,eI 0],.box nV (pI v)]) (fun k u=>Cn os.length u=true∧dL w os l v=dL w os (l.drop k) u) v rfl ⟨hv,rfl⟩ hs ?_;clear hs;rintro k ⟨vk,vn⟩ σ hk ⟨hu,hn⟩ hs;rcases BH l hk with⟨s,hsl,hlt⟩|hke
 ·have hsr:=hl s (B2 hsl)
  rw[drop_cons hsl,dL]at hn;by_cases h3:vk=3
  ·obtain⟨o,ho1,ho2,ho3⟩:=NL hu h3
   have hoo:=hos.own o ho3;have hnr:=N6 hu h3;dsimp only at ho1 ho2 hnr;have c1:=Z3 w hg o.1 s hoo.1 hoo.2 hsr.1 hsr.2;rw[←Ww hg hw hoo.1 hoo.2 hsr.1 hsr.2]at c1;rw[ho2,show((vk,vn).1==3)=true by simp[h3],Fm]at hn;cases hh:hasB w o.1 s<;>rw[hh]at c1 hn
   ·rw[if_neg (by decide)]at hn
    conv=>whnf
    repeat'((first|apply st|(apply sq;intro K U)|(apply si;intro A B Y Z)|(apply Y;clear Z B Y A)|(apply U;clear U K)|refine⟨rfl,?_⟩|refine⟨nb,?_⟩|refine ix ?_|refine F6 ?_|refine ld ?_|refine Dm fun σ hs=>?_|refine E0 ?_|(refine CS (fun hc=>?_)<;>(try rw[hc])<;>clear hc)|refine Pure.use c1 ?_|(constructor<;>intro hc<;>(try rw[hc])<;>(replace hc:=bp hc)<;>(try simp(disch:=omega) only[BE,wrap64,AL]at hc)<;>try(exfalso;omega))|clear U K)<;>conv=>whnf)
    all_goals exact AI (by rw[hn];rfl)
   ·rw[if_pos rfl]at hn
    obtain⟨i,q1,q2,q3,q4,q5,q6⟩:=S9 hos ho2 ho3 hsr hh;have c2:=TC w o.1 hg hw hoo.1 hoo.2;have c3:=TU (Dd w o.1) false s;rw[show ZN (Dd w o.1) s=(i:Int) by rw[ZN,XA _ 0 i q3 q4,G6]]at c3;have q5':o.2[((i:Nat):Int).toNat]? =some (Nn w os s (vk,vn)):=q5;generalize Nn w os s (vk,vn)=u2 at *;generalize Dd w o.1=ss at *;clear q2 q3 q4 q5
    conv=>whnf
    repeat'((first|apply st|(apply sq;intro K U)|(apply si;intro A B Y Z)|(apply Y;clear Z B Y A)|(apply U;clear U K)|apply dr|refine rk ?_ ?_|exact fun s e=>by cases e;rfl|refine⟨rfl,?_⟩|refine⟨nb,?_⟩|refine ix ?_|refine F6 ?_|refine ld ?_|refine Dm fun σ hs=>?_|refine D2 ?_|(refine CS (fun hc=>?_)<;>(try rw[hc])<;>clear hc)|refine Pure.use c1 ?_|refine Pure.use c2 ?_|refine Pure.use c3 ?_|(constructor<;>intro hc<;>(try rw[hc])<;>(replace hc:=bp hc)<;>(try simp(disch:=omega) only[BE,wrap64,AL]at hc)<;>try(exfalso;omega))|clear U K)<;>conv=>whnf)
    exact⟨hlt,u2,rfl,⟨q6,hn⟩,hs⟩
  ·rw[show((vk,vn).1==3)=false by simp[h3],Bool.false_and,if_neg (by decide)]at hn
   conv=>whnf
   repeat'((first|apply st|(apply sq;intro K U)|(apply si;intro A B Y Z)|(apply Y;clear Z B Y A)|(apply U;clear U K)|refine⟨rfl,?_⟩|refine⟨nb,?_⟩|refine ix ?_|refine ld ?_|refine Dm fun σ hs=>?_|(refine CS (fun hc=>?_)<;>(try rw[hc])<;>clear hc)|(constructor<;>intro hc<;>(try rw[hc])<;>(replace hc:=bp hc)<;>(try simp(disch:=omega) only[BE,wrap64,AL]at hc)<;>try(exfalso;omega))|clear U K)<;>conv=>whnf)
   all_goals exact AI (by rw[hn];rfl)
 ·rw[Al hke,dL]at hn
  conv=>whnf
  repeat'((first|apply st|(apply sq;intro K U)|(apply si;intro A B Y Z)|(apply Y;clear Z B Y A)|(apply U;clear U K)|refine⟨rfl,?_⟩|refine⟨nb,?_⟩|refine ld ?_|refine Dm fun σ hs=>?_|(refine Dh (fun hc=>?_)<;>(try rw[hc])<;>clear hc)|clear U K)<;>conv=>whnf)
  all_goals exact AI (by rw[hn];rfl)
end Go.Gl
namespace Go.Gl
open Go.Proofs
theorem fq {w:AK} (ho:ordered w.parents) {c b:Int} (h0:0≤c) (h1:c<3+w.parents.length) (hb:0≤b):M0 w.parents c b=((CE w.parents).getD c.toNat 0).testBit b.toNat:=by
 rw[N7 ho (by omega),M0];have e0:(b.toNat==0)=(b==0):=by rw[Lb];simp only[D1];omega
 rw[e0];by_cases h3:3≤c
 ·rw[decide_eq_true h3,Fm]
  by_cases h:c=b
  ·subst h;rw[Fg ho];simp
  ·rw[beq_eq_false_iff_ne.2 h,Bool.false_or]
 ·have hp:par w.parents c.toNat= []:=if_pos (by omega)
  rw[decide_eq_false h3,Bool.false_and,Bool.or_false,E4 ho,hp];have:(c.toNat==b.toNat)=(c==b):=by rw[Lb];simp only[D1];omega
  rw[this,List.any_nil,Bool.or_false,Bool.or_comm]
theorem du {w:AK} (hw:CR w) {c:Int} (h0:0≤c) (h1:c<3+w.parents.length):(List.drop (c.toNat*1) (List.drop 2 (wC w (CE w.parents))))[0]? =some (eU ((CE w.parents).getD c.toNat 0)):=by
 have hul:(CE w.parents).length=3+w.parents.length:=Er _ _;rw[dE,dE,←V6 w (CE w.parents) (i:=c.toNat) (by omega)];congr 1;omega
theorem nz {w:AK} {os:List Ob} (hos:Ub w os) {v:Int×Int} (hv:Cn os.length v=true):0≤RH os v∧RH os v<3+w.parents.length:=by
 rw[RH];split
 ·omega
 split
 ·omega
 ·rename_i h1 h2
  have h3:v.1=3:=by
   simp only[Cn,if_neg h1,if_neg h2]at hv;split at hv
   ·assumption
   ·cases hv
  obtain⟨o,q1,q2,q3⟩:=NL hv h3;have:=hos.own o q3;have e:os.getD v.2.toNat (0,[])=o:=q2;rw[e];omega
theorem iw {n:Int} {v:Int×Int} (hv:Cn n v=true):v.1=1∨v.1=2∨v.1=3:=by
 rw[Cn]at hv;by_cases h1:v.1=1
 ·exact .inl h1
 by_cases h2:v.1=2
 ·exact .inr (.inl h2)
 by_cases h3:v.1=3
 ·exact .inr (.inr h3)
 rw[if_neg h1,if_neg h2,if_neg h3]at hv;cases hv
theorem pc {op un n:Int} (h:op=3∨op=4) (hc:((un==n)==(op==4))=true):(if op=3 then decide (un<n)else un==n)=decide (un≤n):=by
 rcases h with rfl|rfl
 ·have:un≠n:=by simpa using hc
  rw[if_pos rfl,decide_eq_decide];omega
 ·have:un=n:=by simpa using hc
  subst this;simp
theorem pd {op un n:Int} (h:op=3∨op=4) (hc:((un==n)==(op==4))=false):(if op=3 then decide (un<n)else un==n)=false:=by
 rcases h with rfl|rfl
 ·have:un=n:=by simpa using hc
  subst this;simp
 ·have:un≠n:=by simpa using hc
  simpa using this
attribute [local irreducible] BL A4 Aj AW AM Ai AV AX AN Ah AS AU A8 BJ Sat Ac BF Ak W
set_option maxHeartbeats 1000000 in
theorem cD (w : AK) (os:List Ob) (b:Bool) (args:List (Int×Int)) (g:Bool) (hg:CR w) (hw:Ld w) (hos:Ub w os) (hv: ∀v∈args,Cn os.length v=true) (f:Fact):Bi w f=true→DM f≤args.length→
 Pure Tryz.prog 117 [.rp (wC w (CE w.parents)),.a (xF f),.l (os.map Ii) b,.l (pP args) g] (.b (EC w os args f)):=by
 induction f using Fact.ind with
 | h f ih=>
   intro hn hsp;refine Pure.fit (by kernel_rfl) fun hf=>?_
   have⟨h2,h3,h4⟩:=IM hf.2.1;have hM:=Mx;have hwl:=hw.len;rw[cE,WE];rcases VM hn with h1|⟨h5,x,hk,hx⟩|⟨h6,x,y,hk,hx,hy⟩|⟨h7,x,y,hk,hx,hy⟩|⟨hop,hlf,hp,hcl,ha0⟩
   ·refine Hp nb ?_
    have hs:=Sn
    conv=>whnf
    repeat'((first|apply st|(apply sq;intro K U)|(apply si;intro A B Y Z)|(apply Y;clear Z B Y A)|(apply U;clear U K)|refine⟨rfl,?_⟩|(constructor<;>intro hc<;>(try rw[hc])<;>(replace hc:=bp hc)<;>try(exfalso;omega))|clear U K)<;>conv=>whnf)
    all_goals exact AI (by rw[if_pos h1])
   ·have c1:=ih x (by rw[hk];exact .head _) hx (Int.le_trans (HX (by rw[hk];exact .head _)) hsp)
    have e:(f.kids.map (EC w os args)).getD 0 false=EC w os args x:=by rw[hk];rfl
    have hk0:f.kids[0]? =some x:=by rw[hk];rfl
    rw[if_neg (by omega),if_pos h5,e];clear e hk;refine Hp nb ?_;have hs:=Sn
    conv=>whnf
    repeat'((first|apply st|(apply sq;intro K U)|(apply si;intro A B Y Z)|(apply Y;clear Z B Y A)|(apply U;clear U K)|refine⟨rfl,?_⟩|refine⟨nb,?_⟩|refine NB ?_|refine Pure.use c1 ?_|(constructor<;>intro hc<;>(try rw[hc])<;>(replace hc:=bp hc)<;>try(exfalso;omega))|clear U K)<;>conv=>whnf)
    all_goals exact AI rfl
   ·have c1:=ih x (by rw[hk];exact .head _) hx (Int.le_trans (HX (by rw[hk];exact .head _)) hsp)
    have c2:=ih y (by rw[hk];exact .tail _ (.head _)) hy (Int.le_trans (HX (by rw[hk];exact .tail _ (.head _))) hsp);have e:(f.kids.map (EC w os args)).getD 0 false=EC w os args x:=by rw[hk];rfl
    have e2:(f.kids.map (EC w os args)).getD 1 false=EC w os args y:=by rw[hk];rfl
    have hk0:f.kids[0]? =some x:=by rw[hk];rfl
    have hk1:f.kids[1]? =some y:=by rw[hk];rfl
    rw[if_neg (by omega),if_neg (by omega),if_pos h6,e,e2];clear e e2 hk;cases hb:EC w os args x<;>rw[hb]at c1
    all_goals
     refine Hp nb ?_;have hs:=Sn
     conv=>whnf
     repeat'((first|apply st|(apply sq;intro K U)|(apply si;intro A B Y Z)|(apply Y;clear Z B Y A)|(apply U;clear U K)|refine⟨rfl,?_⟩|refine⟨nb,?_⟩|refine NB ?_|refine Nd ?_|refine Pure.use c1 ?_|refine Pure.use c2 ?_|(constructor<;>intro hc<;>(try rw[hc])<;>(replace hc:=bp hc)<;>try(exfalso;omega))|clear U K)<;>conv=>whnf)
     all_goals exact AI rfl
   ·have c1:=ih x (by rw[hk];exact .head _) hx (Int.le_trans (HX (by rw[hk];exact .head _)) hsp)
    have c2:=ih y (by rw[hk];exact .tail _ (.head _)) hy (Int.le_trans (HX (by rw[hk];exact .tail _ (.head _))) hsp);have e:(f.kids.map (EC w os args)).getD 0 false=EC w os args x:=by rw[hk];rfl
    have e2:(f.kids.map (EC w os args)).getD 1 false=EC w os args y:=by rw[hk];rfl
    have hk0:f.kids[0]? =some x:=by rw[hk];rfl
    have hk1:f.kids[1]? =some y:=by rw[hk];rfl
    rw[if_neg (by omega),if_neg (by omega),if_neg (by omega),if_pos h7,e,e2];clear e e2 hk;cases hb:EC w os args x<;>rw[hb]at c1
    all_goals
     refine Hp nb ?_;have hs:=Sn
     conv=>whnf
     repeat'((first|apply st|(apply sq;intro K U)|(apply si;intro A B Y Z)|(apply Y;clear Z B Y A)|(apply U;clear U K)|refine⟨rfl,?_⟩|refine⟨nb,?_⟩|refine NB ?_|refine Nd ?_|refine Pure.use c1 ?_|refine Pure.use c2 ?_|(constructor<;>intro hc<;>(try rw[hc])<;>(replace hc:=bp hc)<;>try(exfalso;omega))|clear U K)<;>conv=>whnf)
     all_goals exact AI rfl
   ·have hsl:=U5 hlf
    rw[if_neg (by omega),if_neg (by omega),if_neg (by omega),if_neg (by omega),gY];obtain⟨v,hva⟩: ∃v,args[f.arg.toNat]? =some v:=⟨_,Cu (by omega)⟩
    have hvd:args.getD f.arg.toNat (0,0)=v:=by rw[DL,hva];rfl
    have hvv:=hv v (B2 hva);rw[hvd];have c1:=qz w os b v f.path false hg hw hos hvv hp;have hok:=fun u=>aQ (u:=u) hos hp hvv
    clear hvd;cases hu:dL w os f.path v with
    | none=>
      rw[hu]at c1;replace c1:Pure Tryz.prog 151 [.rp (wC w (CE w.parents)),.l (os.map Ii) b,.a (pI v),.l (iL f.path) false] (.t [.a (pI (0,0)),.b false]):=c1;refine Hp nb ?_;have hs:=Sn
      conv=>whnf
      repeat'((first|apply st|(apply sq;intro K U)|(apply si;intro A B Y Z)|(apply Y;clear Z B Y A)|(apply U;clear U K)|apply dr|refine⟨rfl,?_⟩|refine⟨nb,?_⟩|refine F6 ?_|refine Dm fun σ hs=>?_|refine E0 ?_|refine⟨_,c1,?_⟩|(constructor<;>intro hc<;>(try rw[hc])<;>(replace hc:=bp hc)<;>try(exfalso;omega))|(intro nn hnn;generalize hg:BC _ nn _=σ;refine Cm hg fun hs=>?_;clear hg)|clear U K)<;>conv=>whnf)
      all_goals exact AI rfl
    | some u=>
      rw[hu]at c1;have hu2:=hok u hu;clear hok hu;replace c1:Pure Tryz.prog 151 [.rp (wC w (CE w.parents)),.l (os.map Ii) b,.a (pI v),.l (iL f.path) false] (.t [.a (pI u),.b true]):=c1;by_cases h2:f.op=2
      ·have hcr:=nz hos hu2
       have hfc:=hcl h2;have hup:=du hg hcr.1 hcr.2;have hbb:=fq hw.ord hcr.1 hcr.2 hfc.1;have c2:=Wx ((CE w.parents).getD (RH os u).toNat 0) f.cls (Lp (HP _ _ (by have:=hg.1.1;omega)) _) hfc.1 (by omega);have hkk:=iw hu2;dsimp only;rw[if_pos h2];rw[hbb];by_cases h3:u.1=3
       ·obtain⟨o,q1,q2,q3⟩:=NL hu2 h3
        have hnr:=N6 hu2 h3
        have hce:RH os u=o.1:=by
         rw[RH,if_neg (by omega),if_neg (by omega)];exact congrArg Prod.fst q2
        rw[hce]at hcr hup c2 ⊢;clear hce hbb hcl hv hvv ih h4 hp hn q2;generalize CE w.parents=us at *;obtain⟨uk,un⟩:=u;dsimp only at h3 q1 hnr;refine Hp nb ?_;have hs:=Sn
        conv=>whnf
        repeat'((first|apply st|(apply sq;intro K U)|(apply si;intro A B Y Z)|(apply Y;clear Z B Y A)|(apply U;clear U K)|apply dr|refine⟨rfl,?_⟩|refine⟨nb,?_⟩|refine o0 ?_|refine F6 ?_|refine ld ?_|refine Dm fun σ hs=>?_|refine D2 ?_|refine⟨_,c1,?_⟩|(constructor<;>intro hc<;>(try rw[hc])<;>(replace hc:=bp hc)<;>(try simp(disch:=omega) only[BE,wrap64,AL]at hc)<;>try(exfalso;omega))|(intro nn hnn;generalize hg:BC _ nn _=σ;refine Cm hg fun hs=>?_;clear hg)|fail)<;>conv=>whnf)
        rw[hup]
        conv=>whnf
        repeat'((first|apply st|(apply Y;clear Z B Y A)|(apply U;clear U K)|apply dr|refine Pure.use c2 ?_|clear U K)<;>conv=>whnf)
        all_goals exact AI rfl
       ·have hce:RH os u=u.1:=by
         rw[RH];split
         ·omega
         ·rw[if_pos (by omega)];omega
        rw[hce]at hcr hup c2 ⊢;clear hce hbb hcl hv hvv ih h4 hp hn;generalize CE w.parents=us at *;obtain⟨uk,un⟩:=u;dsimp only at *;refine Hp nb ?_;have hs:=Sn
        conv=>whnf
        repeat'((first|apply st|(apply sq;intro K U)|(apply si;intro A B Y Z)|(apply Y;clear Z B Y A)|(apply U;clear U K)|apply dr|refine⟨rfl,?_⟩|refine⟨nb,?_⟩|refine o0 ?_|refine F6 ?_|refine ld ?_|refine Dm fun σ hs=>?_|refine D2 ?_|refine⟨_,c1,?_⟩|(constructor<;>intro hc<;>(try rw[hc])<;>(replace hc:=bp hc)<;>(try simp(disch:=omega) only[BE,wrap64,AL]at hc)<;>try(exfalso;omega))|(intro nn hnn;generalize hg:BC _ nn _=σ;refine Cm hg fun hs=>?_;clear hg)|fail)<;>conv=>whnf)
        rw[hup]
        conv=>whnf
        repeat'((first|apply st|(apply Y;clear Z B Y A)|(apply U;clear U K)|apply dr|refine Pure.use c2 ?_|fail)<;>conv=>whnf)
        all_goals exact AI rfl
      ·dsimp only
       rw[if_neg h2];clear hv hvv ih h4 hp hn hcl;obtain⟨uk,un⟩:=u;dsimp only at *;by_cases hk:uk=1
       ·rw [D1.2 hk,Fm]
        have h34:f.op=3∨f.op=4:=by omega
        have hT:=fun hc=>pc (un:=un) (n:=f.n) h34 hc
        have hF:=fun hc=>pd (un:=un) (n:=f.n) h34 hc
        refine Hp nb ?_;have hs:=Sn
        conv=>whnf
        repeat'((first|apply st|(apply sq;intro K U)|(apply si;intro A B Y Z)|(apply Y;clear Z B Y A)|(apply U;clear U K)|apply dr|refine⟨rfl,?_⟩|refine⟨nb,?_⟩|refine F6 ?_|refine ld ?_|refine Dm fun σ hs=>?_|refine D2 ?_|refine⟨_,c1,?_⟩|(constructor<;>intro hc<;>(try rw[hc])<;>(replace hc:=bp hc)<;>(try simp(disch:=omega) only[BE,wrap64,AL]at hc)<;>try(exfalso;omega))|(intro nn hnn;generalize hg:BC _ nn _=σ;refine Cm hg fun hs=>?_;clear hg)|clear U K)<;>conv=>whnf)
        all_goals
         refine AI ?_
         first
          | (rw[hT (by assumption)];rfl)
          | (rw[hF (by assumption)];rfl)
       ·rw[beq_eq_false_iff_ne.2 hk,Bool.false_and]
        refine Hp nb ?_;have hs:=Sn
        conv=>whnf
        repeat'((first|apply st|(apply sq;intro K U)|(apply si;intro A B Y Z)|(apply Y;clear Z B Y A)|(apply U;clear U K)|apply dr|refine⟨rfl,?_⟩|refine⟨nb,?_⟩|refine F6 ?_|refine ld ?_|refine Dm fun σ hs=>?_|refine D2 ?_|refine⟨_,c1,?_⟩|(constructor<;>intro hc<;>(try rw[hc])<;>(replace hc:=bp hc)<;>(try simp(disch:=omega) only[BE,wrap64,AL]at hc)<;>try(exfalso;omega))|(intro nn hnn;generalize hg:BC _ nn _=σ;refine Cm hg fun hs=>?_;clear hg)|clear U K)<;>conv=>whnf)
        all_goals exact AI rfl
end Go.Gl
namespace Go.Gl
open Go.Proofs
attribute [local irreducible] BL A4 Aj AW AM Ai AV AX AN Ah AS AU A8 BJ Sat Ac BF Ak W
theorem pU (p:Prog) (L:Nat) (g:Int) (h16:p.methods.length≤16) {S:Type} {fn:Fn} {fi ca:List V} {H:S→List At} (Inv:Nat→S→Prop) {s:S} (h0:Inv 0 s)
 (hsk: ∀k s,k<p.methods.length→(BG p (k:Nat)).gen≠g→Inv k s→Inv (k+1) s)
 (hT: ∀(k:Nat) s,k<p.methods.length→(BG p (k:Nat)).gen=g→Inv k s→ ∀(rest:List At) (σ:AH),Sat σ (H s++rest)→A8 Tryz.prog (.f fn fi ca) [eI (k:Int)] σ fun r σ'=> ∃s',r= .ret (.b true)∧Inv (k+1) s'∧Sat σ' (H s'++rest)) (σ:AH) (hs:Sat σ (H s)) :
 BL Tryz.prog 75 [.f fn fi ca,.rp [Fs p L],.rp [eI g]] σ fun r σ'=> ∃s',r= .ret (.t [])∧Inv p.methods.length s'∧Sat σ' (H s'):=by
 have hM:=Mx;refine qO nb ?_
 conv=>whnf
 repeat'((first|apply st|(apply sq;intro K U)|(apply si;intro A B Y Z)|(apply Y;clear Z B Y A)|(apply U;clear U K)|fail)<;>conv=>whnf)
 refine B4 p.methods.length (fun k (_:S)=>[(12,eI (A6 k))]) (fun _ s'=>H s') (fun k s'=>Inv k s') s rfl h0 hs ?_;clear hs;rintro k s' σ hk ho hs;rcases BH p.methods hk with⟨x,hx,hlt⟩|hke
 ·have hck:A6 k=k:=AL (by omega)
  have hxe:BG p (k:Int)=x:=by
   have:=Bs (p:=p) (m:=k) (by simp[A0];omega);rw[Ih,hx]at this;exact(Option.some.inj this).symm
  have hsk':=hsk k s' hlt;have hT':=hT k s' hlt;rw[hxe]at hsk' hT';rw[←hck]at hT';by_cases hg:x.gen=g
  ·conv=>whnf
   repeat'((first|apply st|(apply sq;intro K U)|(apply si;intro A B Y Z)|(apply Y;clear Z B Y A)|(apply U;clear U K)|refine⟨rfl,?_⟩|refine⟨nb,?_⟩|refine ix ?_|refine ld ?_|refine Dm fun σ hs=>?_|(refine CS (fun hc=>?_)<;>(try rw[hc])<;>clear hc)|(constructor<;>intro hc<;>(try rw[hc])<;>(replace hc:=bp hc)<;>try(exfalso;omega))|(intro nn hnn;generalize hg:BC _ nn _=σ;refine Cm hg fun hs=>?_;clear hg)|fail)<;>conv=>whnf)
   refine(hT' hg ho [_] σ (Sat.perm hs (List.perm_append_singleton _ _).symm)).mono ?_;rintro r σ ⟨s2,rfl,hi2,hs⟩
   conv=>whnf
   repeat'((first|apply st|(apply si;intro A B Y Z)|(apply Y;clear Z B Y A)|(apply U;clear U K)|refine⟨rfl,?_⟩|refine D2 ?_|fail)<;>conv=>whnf)
   exact⟨hlt,_,rfl,hi2,hs.less (List.sublist_append_left _ _)⟩
  ·conv=>whnf
   repeat'((first|apply st|(apply sq;intro K U)|(apply si;intro A B Y Z)|(apply Y;clear Z B Y A)|(apply U;clear U K)|refine⟨rfl,?_⟩|refine⟨nb,?_⟩|refine ix ?_|refine ld ?_|refine Dm fun σ hs=>?_|(refine CS (fun hc=>?_)<;>(try rw[hc])<;>clear hc)|(constructor<;>intro hc<;>(try rw[hc])<;>(replace hc:=bp hc)<;>try(exfalso;omega))|(intro nn hnn;generalize hg:BC _ nn _=σ;refine Cm hg fun hs=>?_;clear hg)|fail)<;>conv=>whnf)
   exact⟨hlt,_,rfl,hsk' hg ho,hs.less (Jn _ _)⟩
 ·rw[hke]at ho
  conv=>whnf
  repeat'((first|apply st|(apply sq;intro K U)|(apply si;intro A B Y Z)|(apply Y;clear Z B Y A)|(apply U;clear U K)|refine⟨rfl,?_⟩|(refine Dh (fun hc=>?_)<;>(try rw[hc])<;>clear hc)|clear U K)<;>conv=>whnf)
  exact AO ⟨_,rfl,ho,hs⟩
theorem Sm (p:Prog) (L:Nat) (g:Int) (h16:p.methods.length≤16) {nn:Nat} {E:Env} {ok:FuncId→Array Tmp→Code→Code→Nat→Prop} {S:Type} (H:S→List At) (Inv:Nat→S→Prop) (s:S) {σ:AH} (h0:Inv 0 s) (hs:Sat σ (.obj nn (.loop .ready E ok)::H s))
 (hsk: ∀k s,k<p.methods.length→(BG p (k:Nat)).gen≠g→Inv k s→Inv (k+1) s)
 (hT: ∀(k:Nat) s,k<p.methods.length→(BG p (k:Nat)).gen=g→Inv k s→ ∀(rest:List At) (σ:AH),Sat σ (.obj nn (.loop .ready E ok)::(H s++rest))→Nl Tryz.prog nn [eI (k:Int)] σ fun r σ'=> ∃s',r= .ret (.b true)∧Inv (k+1) s'∧Sat σ' (.obj nn (.loop .ready E ok)::(H s'++rest)))
 {Q:R→AH→Prop} (hq: ∀s' σ',Inv p.methods.length s'→Sat σ' (.obj nn (.loop .ready E ok)::H s')→Q (.ret (.t [])) σ') :
 BL Tryz.prog 75 [.f (.yield nn) [] [],.rp [Fs p L],.rp [eI g]] σ Q:=
 BL.mono (pU p L g h16 (fn:= .yield nn) (fi:=[]) (ca:=[]) (H:=fun s=> .obj nn (.loop .ready E ok)::H s) Inv h0 hsk (fun k s hk hg hi rest σ hs=>aw (hT k s hk hg hi rest σ hs)) σ hs) fun r σ' ⟨s',e,hi,h⟩=>e ▸ hq s' σ' hi h
def FM (p:Prog) (g:Int) (k:Nat):List Int:=(Bu k).filter fun m=>(BG p m).gen==g
theorem Mk (p:Prog) (g:Int) (k:Nat):FM p g (k+1)=if(BG p (k:Int)).gen==g then FM p g k++[(k:Int)]else FM p g k:=by
 rw[FM,Gm,List.filter_append];cases hp:(BG p (k:Int)).gen==g<;>simp[FM,hp]
theorem O2 (p:Prog) (g:Int) (k:Nat):(FM p g k).length≤k:=by
 have:=LV (fun m=>(BG p m).gen==g) (Bu k)
 rwa [Eh]at this
theorem Vz (p:Prog) (L:Nat) (g:Int) (h16:p.methods.length≤16):Bh Tryz.prog 118 [.l [] true,.f (.func 75) [] [.rp [Fs p L],.rp [eI g]]] [] fun r post=> ∃v,r= .ret v∧post= [.own v 1 (iL (FM p g p.methods.length))]:=by
 intro σ hs;have hM:=Mx;refine aK nb ?_
 conv=>whnf
 repeat'((first|apply st|(apply sq;intro K U)|(apply si;intro A B Y Z)|(apply Y;clear Z B Y A)|(apply U;clear U K)|(intro nn hnn;generalize hg:BC _ nn _=σ;refine Cm hg fun hs=>?_;clear hg)|fail)<;>conv=>whnf)
 rename_i nb _ _ _;refine Sm p L g h16 (nn:=nn) (fun s:V×List Int=>[.box nb [s.1],.own s.1 1 (iL s.2)]) (fun k s=>s.2=FM p g k) (.l [] true,[]) rfl ((Cv hs 1).perm (II _ _ _ _)) ?_ ?_ ?_
 ·intro k s hlt hne hi
  rw[Mk,if_neg (by simpa using hne),hi]
 ·clear hs hnn
  rintro k ⟨v,ys⟩ hlt hgk hi rest σ hs;dsimp only at hi hs;have hck:A6 k=k:=AL (by omega);have hl:=O2 p g k;rw[←hi]at hl;have hll:ys.length<Ad∧(ys.length+1)*8≤140737488355328:=by omega
  refine Ev (l:=[.box nb [v],.own v 1 (iL ys)]++rest) rfl hs ?_;clear hs;intro σ hs
  conv=>whnf
  repeat'((first|apply st|(apply si;intro A B Y Z)|(apply Y;clear Z B Y A)|refine ld ?_|refine FB fun σ hs=>?_|refine aq fun v σ hs hsl=>?_|clear U K)<;>conv=>whnf)
  intro hn;exact⟨(v,ys++[(k:Int)]),rfl,by rw[Mk,if_pos (by simpa using hgk),hi],hs.Js hn⟩
 ·clear hs
  rintro⟨v,ys⟩ σ hi hs;dsimp only at hi hs;refine Fh hs fun σ hs=>?_
  conv=>whnf
  repeat'((first|apply st|(apply sq;intro K U)|(apply si;intro A B Y Z)|(apply Y;clear Z B Y A)|(apply U;clear U K)|refine ld ?_|fail)<;>conv=>whnf)
  rw[hi]at hs;exact Ao hs (Jn _ _) (.refl _) fun σ' hs'=>⟨_,⟨v,rfl,rfl⟩,hs'⟩
theorem Vn (p:Prog) (L:Nat) (g:Int) (h16:p.methods.length≤16):Bh Tryz.prog 84 [.f (.func 75) [] [.rp [Fs p L],.rp [eI g]]] [] fun r post=> ∃v,r= .ret v∧post= [.own v 1 (iL (FM p g p.methods.length))]:=by
 intro σ hs;refine gk nb ?_
 conv=>whnf
 repeat'((first|(apply sq;intro K U)|(apply si;intro A B Y Z)|(apply Y;clear Z B Y A)|(apply U;clear U K)|fail)<;>conv=>whnf)
 refine(Vz p L g h16).use (rest:=[]) (by simpa using hs) ?_;clear hs;rintro r post σ ⟨v,rfl,rfl⟩ hs
 conv=>whnf
 repeat'((first|apply st|(apply Y;clear Z B Y A)|(apply U;clear U K)|fail)<;>conv=>whnf)
 exact Ao hs (List.sublist_append_left _ _) (.refl _) fun σ' hs'=>⟨_,⟨v,rfl,rfl⟩,hs'⟩
theorem XW (w:AK) (hg:CR w) (hw:Ld w) (os:List Ob) (b:Bool) (args:List (Int×Int)) (g:Bool) (f:Fact) (hf:Ce w f=true) (hsp:DM f≤args.length) (hh:Je w os args=true) :
 Pure Tryz.prog 81 [.a (A2 w),.a (xF f),.l (os.map Ii) b,.l (pP args) g] (.t [.b (EC w os args f),eI 0]):=by
 refine Pure.fit (by kernel_rfl) fun hfi=>?_
 have hM:=Mx
 have hfo: ∀b,Pure Tryz.prog 109 [.a (A2 w),.l [Fv f] b] (.t [.rp (wC w (CE w.parents)),.b true]):=fun b=>by
  have:=NH w hg [f] b (by simp);simpa[NS,hf]using this
 rw[Bd]at hfo;have c2:=Qd w hg hw os b args g;rw[hh]at c2;have c3:=Xv f (XO hf);simp only[Je,BZ,CX,Em]at hh;have hno:Bi w f=true:=by simp only[Ce,BZ]at hf;exact hf.2.2
 have c4:=cD w os b args g hg hw (Wd hh.1) hh.2.2.2 f hno hsp;refine gl nb ?_;have hs:=Sn
 conv=>whnf
 repeat'((first|apply st|(apply sq;intro K U)|(apply si;intro A B Y Z)|(apply Y;clear Z B Y A)|(apply U;clear U K)|refine⟨rfl,?_⟩|refine⟨nb,?_⟩|refine Ig ?_|refine Pure.use (hfo _) ?_|refine Pure.use c2 ?_|refine Pure.use c3 ?_|refine Pure.use c4 ?_|(constructor<;>intro hc<;>(try rw[hc])<;>(replace hc:=bp hc)<;>(try simp(disch:=omega) only[BE,wrap64,AL]at hc))|clear U K)<;>conv=>whnf)
 all_goals first
  | exact AI rfl
  | (exfalso;simp at hc;omega)
theorem dA (w:AK) (hg:CR w) (hw:Ld w) (os:List Ob) (b:Bool) (args:List (Int×Int)) (g:Bool) (f:Fact) (hf:Ce w f=true) (hh:Je w os args=false) :
 Pure Tryz.prog 81 [.a (A2 w),.a (xF f),.l (os.map Ii) b,.l (pP args) g] (.t [.b false,eI 2]):=by
 refine Pure.fit (by kernel_rfl) fun hfi=>?_
 have hM:=Mx
 have hfo: ∀b,Pure Tryz.prog 109 [.a (A2 w),.l [Fv f] b] (.t [.rp (wC w (CE w.parents)),.b true]):=fun b=>by
  have:=NH w hg [f] b (by simp);simpa[NS,hf]using this
 rw[Bd]at hfo;have c2:=Qd w hg hw os b args g;rw[hh]at c2;refine gl nb ?_;have hs:=Sn
 conv=>whnf
 repeat'((first|apply st|(apply sq;intro K U)|(apply si;intro A B Y Z)|(apply Y;clear Z B Y A)|(apply U;clear U K)|refine⟨nb,?_⟩|refine RI ?_|refine Ig ?_|refine Pure.use (hfo _) ?_|refine Pure.use c2 ?_|clear U K)<;>conv=>whnf)
 all_goals exact AI rfl
abbrev V7:Fact:=Fact.mk 1 0 [] 0 0 []
theorem Oh (w:AK):Ce w V7=true:=by
 rw[Ce,Hc,F7,Cg];rfl
theorem S5 {w:V} {o a:V}:Dq emp emp [w,.a [eI 1,eI 0,.l [] true,eI 0,eI 0,.l [] true],o,a] [w,.a (xF V7),o,a]:=
 .cons (.refl _) (.cons (.a (.cons (.refl _) (.cons (.refl _) (.cons CH (.cons (.refl _) (.cons (.refl _) (.cons CH .nil))))))) (.cons (.refl _) (.cons (.refl _) .nil)))
theorem fp (os:List Ob) (f:Bool) (gen:Int) (args:List (Int×Int)) (g:Bool):Pure Tryz.prog 56 [.pn,.l (os.map Ii) f,eI gen,.l (pP args) g] (.b false):=by
 have c1:=Us gen;refine P4 nb ?_;have hs:=Sn
 conv=>whnf
 repeat'((first|apply st|(apply sq;intro K U)|(apply si;intro A B Y Z)|(apply Y;clear Z B Y A)|(apply U;clear U K)|refine RI ?_|refine Pure.use c1 ?_|clear U K)<;>conv=>whnf)
 all_goals exact AI rfl
set_option maxHeartbeats 1000000 in
theorem call56 (p:Prog) (L:Nat) (os:List Ob) (f:Bool) (gen:Int) (args:List (Int×Int)) (g:Bool) (h:(BO p).isSome=true):Pure Tryz.prog 56 [Fs p L,.l (os.map Ii) f,eI gen,.l (pP args) g] (.b (Ed p os gen args)):=by
 refine Pure.fit (by kernel_rfl) fun hf=>?_
 have hM:=Mx;have hok:=look_ok h;have hgw:=MX h;have c1:=Zb p L gen;cases h2:Nf p gen<;>rw[h2]at c1
 ·refine P4 nb ?_
  have hs:=Sn
  conv=>whnf
  repeat'((first|apply st|(apply sq;intro K U)|(apply si;intro A B Y Z)|(apply Y;clear Z B Y A)|(apply U;clear U K)|refine RI ?_|refine Pure.use c1 ?_|clear U K)<;>conv=>whnf)
  all_goals exact AI (by simp[Ed,h2])
 have hgr:=h2;simp only[Nf,BZ,CX]at hgr;obtain⟨x,hx⟩: ∃x,p.DA[gen.toNat]? =some x:=⟨_,Cu (by omega)⟩
 have hxd:p.DA.getD gen.toNat 0=x:=by rw[DL,hx];rfl
 have hx3:1≤x∧x≤3:=by
  have hh:=(Es h).1;simp only[Cw,BZ,CX,Em]at hh;exact hh.2.2.2.2.2 x (B2 hx)
 by_cases he:(args.length:Int)=x
 ·have e:Ed p os gen args=(IJ (AP p) os&&args.all (Cn os.length)):=by simp only[Ed,h,h2,hxd,decide_eq_true he,Fm]
  rw[e];have c2:=cN os f args g (by omega);by_cases hv: ∀v∈args,Cn os.length v=true
  ·rw [List.filter_eq_self.2 hv]at c2
   have hva:args.all (Cn os.length)=true:=Em.2 hv;rw[hva,Bool.and_true]
   have hha:Je (AP p) os args=IJ (AP p) os:=by
    rw[Je,hva,decide_eq_true (show 1≤args.length by omega),decide_eq_true (show args.length≤3 by omega)];simp
   cases ho:IJ (AP p) os<;>rw[ho]at hha
   ·have c3:=(dA (AP p) hgw hok.oy os f args g V7 (Oh _) hha).arg S5
    clear hva e hv;refine P4 nb ?_;have hs:=Sn
    conv=>whnf
    repeat'((first|apply st|(apply sq;intro K U)|(apply si;intro A B Y Z)|(apply Y;clear Z B Y A)|(apply U;clear U K)|apply dr|refine⟨rfl,?_⟩|refine⟨nb,?_⟩|refine F6 ?_|refine Ig ?_|refine Pure.use c1 ?_|refine Pure.use c2 ?_|refine Pure.use c3 ?_|(constructor<;>intro hc<;>(try rw[hc])<;>(replace hc:=bp hc)<;>(try simp(disch:=omega) only[BE,wrap64,AL]at hc)<;>try(exfalso;omega))|clear U K)<;>conv=>whnf)
    all_goals first
     | exact AI rfl
     | (exfalso;simp[he]at hc;done)
   ·have c3:=(XW (AP p) hgw hok.oy os f args g V7 (Oh _) (by
     rw[D7]
     exact Int.natCast_nonneg _) hha).arg S5
    clear hva e hv;refine P4 nb ?_;have hs:=Sn
    conv=>whnf
    repeat'((first|apply st|(apply sq;intro K U)|(apply si;intro A B Y Z)|(apply Y;clear Z B Y A)|(apply U;clear U K)|apply dr|refine⟨rfl,?_⟩|refine⟨nb,?_⟩|refine F6 ?_|refine Ig ?_|refine Pure.use c1 ?_|refine Pure.use c2 ?_|refine Pure.use c3 ?_|(constructor<;>intro hc<;>(try rw[hc])<;>(replace hc:=bp hc)<;>(try simp(disch:=omega) only[BE,wrap64,AL]at hc)<;>try(exfalso;omega))|clear U K)<;>conv=>whnf)
    all_goals first
     | exact AI rfl
     | (exfalso;simp[he]at hc;done)
  ·have hlt:(args.filter (Cn os.length)).length≠args.length:=fun e=>hv (List.length_filter_eq_length_iff.1 e)
   have hva:args.all (Cn os.length)=false:=by
    rw[←Bool.not_eq_true,Em];exact hv
   rw[hva,Bool.and_false];generalize args.filter (Cn os.length)=ys at *;clear hva e hv;refine P4 nb ?_;have hs:=Sn
   conv=>whnf
   repeat'((first|apply st|(apply sq;intro K U)|(apply si;intro A B Y Z)|(apply Y;clear Z B Y A)|(apply U;clear U K)|refine⟨rfl,?_⟩|refine F6 ?_|refine Ig ?_|refine Pure.use c1 ?_|refine Pure.use c2 ?_|(constructor<;>intro hc<;>(try rw[hc])<;>(replace hc:=bp hc)<;>(try simp(disch:=omega) only[BE,wrap64,AL]at hc)<;>try(exfalso;omega))|clear U K)<;>conv=>whnf)
   all_goals first
    | exact AI rfl
    | (exfalso;simp[he]at hc;done)
    | (exfalso;simp at hc;omega)
 ·have e:Ed p os gen args=false:=by simp only[Ed,hxd,decide_eq_false he,Bool.false_and,Bool.and_false]
  rw[e];refine P4 nb ?_;have hs:=Sn
  conv=>whnf
  repeat'((first|apply st|(apply sq;intro K U)|(apply si;intro A B Y Z)|(apply Y;clear Z B Y A)|(apply U;clear U K)|refine⟨rfl,?_⟩|refine F6 ?_|refine Ig ?_|refine Pure.use c1 ?_|(constructor<;>intro hc<;>(try rw[hc])<;>(replace hc:=bp hc)<;>(try simp(disch:=omega) only[BE,wrap64,AL]at hc))|clear U K)<;>conv=>whnf)
  all_goals first
   | exact AI rfl
   | (exfalso;simp[he]at hc;done)
theorem Yp (p:Prog) (L:Nat) (os:List Ob) (f:Bool) (gen:Int) (args:List (Int×Int)) (g:Bool) (ha:Ask p os gen args) (hh:Je (AP p) os args=true) (m:Int) (hm:A0 p m=true) (hg:(BG p m).gen=gen) :
 Pure Tryz.prog 85 [eI m,.rp [Fs p L],.rp [.l (os.map Ii) f],.rp [.l (pP args) g]] (.b (EC (AP p) os args (BG p m).fact)):=by
 refine Pure.fit (by kernel_rfl) fun hf=>?_
 have hM:=Mx;have hok:=look_ok ha.look;have hxm:=Bs hm;obtain⟨-,hfo,hno,hsp⟩:=Wm ha.look (B2 hxm);rw[hg,←ha.len]at hsp;have c1:=XW (AP p) (MX ha.look) hok.oy os f args g (BG p m).fact hfo hsp hh;simp only[A0,BZ,CX]at hm;clear hg hfo hno hsp;generalize BG p m=x at *;cases hb:EC (AP p) os args x.fact<;>rw[hb]at c1
 all_goals
  refine qG nb ?_;have hs:=Sn
  conv=>whnf
  repeat'((first|apply st|(apply sq;intro K U)|(apply si;intro A B Y Z)|(apply Y;clear Z B Y A)|(apply U;clear U K)|apply dr|refine⟨rfl,?_⟩|refine⟨nb,?_⟩|refine F6 ?_|refine Pure.use c1 ?_|fail)<;>conv=>whnf)
  all_goals exact AI rfl
theorem fG {p:Prog} {os:List Ob} {gen:Int} {args:List (Int×Int)} (h:Ed p os gen args=true):Je (AP p) os args=true:=by
 have ha:=aR h;simp only[Ed,BZ]at h;have hg:=ha.ph;simp only[Nf,BZ,CX]at hg;obtain⟨x,hx⟩: ∃x,p.DA[gen.toNat]? =some x:=⟨_,Cu (by omega)⟩
 have hxd:p.DA.getD gen.toNat 0=x:=by rw[DL,hx];rfl
 have hx3:1≤x∧x≤3:=by
  have hh:=(Es ha.look).1;simp only[Cw,BZ,CX,Em]at hh;exact hh.2.2.2.2.2 x (B2 hx)
 have hl:=ha.len;rw[hxd]at hl;rw[Je,h.2.1,decide_eq_true (show 1≤args.length by omega),decide_eq_true (show args.length≤3 by omega),h.2.2.2.2];rfl
theorem YG (p:Prog) (os:List Ob) (gen:Int) (args:List (Int×Int)):(FM p gen p.methods.length).filter (fun m=>EC (AP p) os args (BG p m).fact)=Sg p os gen args:=by
 rw[FM,Sg,il,List.filter_filter];congr 1;funext m;rw[Bool.and_comm]
theorem O1 {p:Prog} {g m:Int} (h:m∈FM p g p.methods.length):A0 p m=true∧(BG p m).gen=g:=by
 have:=JZ.1 h;have h1:=FR.1 this.1;exact⟨by simp only[A0,BZ,CX];exact h1,by simpa using this.2⟩
theorem Yz (p:Prog) (L:Nat) (os:List Ob) (f:Bool) (gen:Int) (args:List (Int×Int)) (g:Bool) (h:Ed p os gen args=true):Pure Tryz.prog 58 [Fs p L,.l (os.map Ii) f,eI gen,.l (pP args) g] (.l (iL (Sg p os gen args)) true):=by
 have ha:=aR h;have hok:=look_ok ha.look;have hml:=O2 p gen p.methods.length;have h16:=hok.many;have c1:=Ta 85 [] [.rp [Fs p L],.rp [.l (os.map Ii) f],.rp [.l (pP args) g]] (fun m=>EC (AP p) os args (BG p m).fact) (FM p gen p.methods.length) (fun m hm=>Yp p L os f gen args g ha (fG h) m (O1 hm).1 (O1 hm).2) false (by omega);rw[YG]at c1;refine Pure.of ?_;refine qX nb ?_;have hs:=Sn
 conv=>whnf
 repeat'((first|apply st|(apply sq;intro K U)|(apply si;intro A B Y Z)|(apply Y;clear Z B Y A)|(apply U;clear U K)|refine Pure.use (Xb _ _ _) ?_|fail)<;>conv=>whnf)
 refine(Vn p L gen h16).use (rest:=[]) (by simpa using hs) ?_;clear hs;rintro r post σ ⟨v,rfl,rfl⟩ hs
 conv=>whnf
 obtain⟨σ2,h1,h2,h3⟩:=Ir hs 0 rfl;refine BL.P0 (c1.use ?_) h1 (.cons h2 (.cons (.refl _) .nil));clear hs h1 h2;have hs:=h3
 conv=>whnf
 repeat'((first|apply st|(apply Y;clear Z B Y A)|(apply U;clear U K)|fail)<;>conv=>whnf)
 exact AO (by rfl)
end Go.Gl
namespace Go.Gl
open Go.Proofs
theorem Y1 {p:Prog} {os:List Ob} {gen:Int} {args:List (Int×Int)} (h16:p.methods.length≤16):MV p (Sg p os gen args):=by
 have hm: ∀x∈Sg p os gen args,A0 p x=true∧(BG p x).gen=gen:=fun x hx=>by
  have:=JZ.1 hx;have h1:=FR.1 this.1;have h2:=this.2;simp only[BZ,D1]at h2;exact⟨by simp only[A0,BZ,CX];exact h1,h2.1⟩
 refine⟨fun x hx=>(hm x hx).1,fun x hx y hy=>(hm x hx).2.trans (hm y hy).2.symm,?_,Nat.le_trans (cw p os gen args _) h16⟩;refine List.Nodup.sublist (List.filter_sublist ..) ?_;exact(Jh _).imp fun h e=>by omega
theorem Wp {p:Prog} {l:List Int} (hok:DF p) (h:DU p l false=true):MV p l:=by
 rw[DU,BZ,Em,CX]at h;obtain⟨h1,h2⟩:=h
 have hm: ∀x∈l,A0 p x=true∧(BG p x).gen=(BG p (l.getD 0 0)).gen:=fun x hx=>by
  have:=h1 x hx;simp only[V2,BZ,D1]at this;exact⟨this.1,this.2.1⟩
 refine⟨fun x hx=>(hm x hx).1,fun x hx y hy=>(hm x hx).2.trans (hm y hy).2.symm,h2,Nat.le_trans (OC p.methods.length l h2 fun x hx=>?_) hok.many⟩;have:=(hm x hx).1;simp only[A0,BZ,CX]at this;omega
def gP (x:Pl×Bool):Pl×Int:=if x.2 then(x.1,0)else(iJ,5)
def Nv (p:Prog) (os:List Ob) (gen:Int) (args:List (Int×Int)):Pl×Int:=if Ed p os gen args then gP (EB (Ag p) p (Sg p os gen args))else(iJ,2)
def Jw (p:Prog) (l:List Int):Pl×Int:=if(BO p).isSome&&DU p l false then gP (EB (Ag p) p l)else(iJ,2)
abbrev ur (x:Pl×Int) (g:Bool):V:= .t [.a (oq x.1 g (x.2 != 0)),eI x.2]
attribute [local irreducible] BL A4 Aj AW AM Ai AV AX AN Ah AS AU A8 BJ Sat Ac BF Ak W
theorem oe (p:Prog) (l:List Int) (f:Bool) (hl:l.length≤1000):Pure Tryz.prog 41 [.a (BK p),.l (iL l) f] (ur (Jw p l) ((Jw p l).2 != 0)):=by
 have c1:=Ul p;have c2:=Un p l f false hl;rw[Jw];cases h:(BO p).isSome<;>rw[h]at c1
 ·refine Ze nb ?_
  have hs:=Sn
  conv=>whnf
  repeat'((first|apply st|(apply sq;intro K U)|(apply si;intro A B Y Z)|(apply Y;clear Z B Y A)|(apply U;clear U K)|refine⟨nb,?_⟩|refine ld ?_|refine Dm fun σ hs=>?_|refine RI ?_|refine Pure.use c1 ?_|(intro nn hnn;generalize hg:BC _ nn _=σ;refine Cm hg fun hs=>?_;clear hg)|clear U K)<;>conv=>whnf)
  all_goals exact AI rfl
 cases h2:DU p l false<;>rw[h2]at c2
 ·refine Ze nb ?_
  have hs:=Sn
  conv=>whnf
  repeat'((first|apply st|(apply sq;intro K U)|(apply si;intro A B Y Z)|(apply Y;clear Z B Y A)|(apply U;clear U K)|refine⟨nb,?_⟩|refine ld ?_|refine Dm fun σ hs=>?_|refine E0 ?_|refine Ig ?_|refine Pure.use c1 ?_|refine Pure.use c2 ?_|(intro nn hnn;generalize hg:BC _ nn _=σ;refine Cm hg fun hs=>?_;clear hg)|clear U K)<;>conv=>whnf)
  all_goals exact AI rfl
 ·have hok:=look_ok h
  have c3:=bS p l f hok (Wp hok h2);rw[Bool.and_self,if_pos rfl];clear hok h h2;generalize EB (Ag p) p l=x at *;obtain⟨x,b⟩:=x;cases b
  all_goals
   refine Ze nb ?_;have hs:=Sn
   conv=>whnf
   repeat'((first|apply st|(apply sq;intro K U)|(apply si;intro A B Y Z)|(apply Y;clear Z B Y A)|(apply U;clear U K)|refine⟨nb,?_⟩|refine ld ?_|refine Dm fun σ hs=>?_|refine E0 ?_|refine D2 ?_|refine Ig ?_|refine⟨_,c3,?_⟩|refine Pure.use c1 ?_|refine Pure.use c2 ?_|(intro nn hnn;generalize hg:BC _ nn _=σ;refine Cm hg fun hs=>?_;clear hg)|clear U K)<;>conv=>whnf)
   all_goals exact AI rfl
theorem az (p:Prog) (os:List Ob) (f:Bool) (gen:Int) (args:List (Int×Int)) (g:Bool):Pure Tryz.prog 20 [.a (BK p),.l (os.map Ii) f,eI gen,.l (pP args) g] (ur (Nv p os gen args) true):=by
 refine Pure.of ?_;have hr:=GK p;generalize hX:Nv p os gen args=X;rw[Nv]at hX;refine qp nb ?_;have hs:=Sn
 conv=>whnf
 repeat'((first|apply st|(apply sq;intro K U)|(apply si;intro A B Y Z)|(apply Y;clear Z B Y A)|(apply U;clear U K)|refine⟨nb,?_⟩|(intro nn hnn;generalize hg:BC _ nn _=σ;refine Cm hg fun hs=>?_;clear hg)|fail)<;>conv=>whnf)
 refine hr.use (rest:=_) hs ?_;clear hs;cases h:(BO p).isSome
 ·have c1:=fp os f gen args g
  have hb:Ed p os gen args=false:=by simp only[Ed,h,Bool.false_and]
  rw[hb,if_neg (by decide)]at hX;subst hX;rintro r post σ ⟨rfl,rfl⟩ hs
  conv=>whnf
  repeat'((first|apply st|(apply sq;intro K U)|(apply si;intro A B Y Z)|(apply Y;clear Z B Y A)|(apply U;clear U K)|refine⟨nb,?_⟩|refine ld ?_|refine Dm fun σ hs=>?_|refine E0 ?_|refine Pure.use c1 ?_|clear U K)<;>conv=>whnf)
  exact AO (by rfl)
 ·rintro r post σ ⟨L,rfl,rfl⟩ hs
  have c1:=call56 p L os f gen args g h;cases hb:Ed p os gen args<;>rw[hb]at c1 hX
  ·rw[if_neg (by decide)]at hX
   subst hX
   conv=>whnf
   repeat'((first|apply st|(apply sq;intro K U)|(apply si;intro A B Y Z)|(apply Y;clear Z B Y A)|(apply U;clear U K)|refine⟨nb,?_⟩|refine ld ?_|refine Dm fun σ hs=>?_|refine E0 ?_|refine Pure.use c1 ?_|clear U K)<;>conv=>whnf)
   exact AO (by rfl)
  ·have c2:=Yz p L os f gen args g hb
   have c3:=Zq p L (Sg p os gen args) true h (Y1 (look_ok h).many) [];rw[if_pos rfl]at hX;generalize EB (Ag p) p (Sg p os gen args)=x at *;obtain⟨x,b⟩:=x;cases b
   all_goals
    subst hX
    conv=>whnf
    repeat'((first|apply st|(apply sq;intro K U)|(apply si;intro A B Y Z)|(apply Y;clear Z B Y A)|(apply U;clear U K)|refine D2 ?_|refine Pure.use c1 ?_|refine Pure.use c2 ?_|fail)<;>conv=>whnf)
    refine c3.use (rest:=_) hs ?_;clear hs;rintro r post σ ⟨rfl,M,rfl⟩ hs
    conv=>whnf
    repeat'((first|apply st|(apply sq;intro K U)|(apply si;intro A B Y Z)|(apply Y;clear Z B Y A)|(apply U;clear U K)|refine⟨nb,?_⟩|refine ld ?_|refine Dm fun σ hs=>?_|refine E0 ?_|refine D2 ?_|(intro nn hnn;generalize hg:BC _ nn _=σ;refine Cm hg fun hs=>?_;clear hg)|clear U K)<;>conv=>whnf)
    exact AO (by rfl)
theorem og (p:Prog) (l:List Int) (f:Bool) (hl:l.length≤1000):Pure Tryz.prog 40 [.a (BK p),.l (iL l) f] (ur (Jw p l) true):=by
 refine Pure.of ?_;have hr:=GK p;generalize hX:Jw p l=X;rw[Jw]at hX;refine qf nb ?_;have hs:=Sn
 conv=>whnf
 repeat'((first|apply st|(apply sq;intro K U)|(apply si;intro A B Y Z)|(apply Y;clear Z B Y A)|(apply U;clear U K)|refine⟨nb,?_⟩|(intro nn hnn;generalize hg:BC _ nn _=σ;refine Cm hg fun hs=>?_;clear hg)|fail)<;>conv=>whnf)
 refine hr.use (rest:=_) hs ?_;clear hs;cases h:(BO p).isSome
 ·have c1:=Ro l f false
  rw[h,Bool.false_and,if_neg (by decide)]at hX;subst hX;rintro r post σ ⟨rfl,rfl⟩ hs
  conv=>whnf
  repeat'((first|apply st|(apply sq;intro K U)|(apply si;intro A B Y Z)|(apply Y;clear Z B Y A)|(apply U;clear U K)|refine⟨nb,?_⟩|refine ld ?_|refine Dm fun σ hs=>?_|refine E0 ?_|refine Pure.use c1 ?_|clear U K)<;>conv=>whnf)
  exact AO (by rfl)
 ·rintro r post σ ⟨L,rfl,rfl⟩ hs
  have c1:=Um p L l f false hl;cases hb:DU p l false<;>rw[hb]at c1 hX
  ·rw[Bool.and_false,if_neg (by decide)]at hX
   subst hX
   conv=>whnf
   repeat'((first|apply st|(apply sq;intro K U)|(apply si;intro A B Y Z)|(apply Y;clear Z B Y A)|(apply U;clear U K)|refine⟨nb,?_⟩|refine ld ?_|refine Dm fun σ hs=>?_|refine E0 ?_|refine Pure.use c1 ?_|clear U K)<;>conv=>whnf)
   exact AO (by rfl)
  ·have c3:=Zq p L l f h (Wp (look_ok h) hb) []
   rw[h,Bool.and_self,if_pos rfl]at hX;generalize EB (Ag p) p l=x at *;obtain⟨x,b⟩:=x;cases b
   all_goals
    subst hX
    conv=>whnf
    repeat'((first|apply st|(apply sq;intro K U)|(apply si;intro A B Y Z)|(apply Y;clear Z B Y A)|(apply U;clear U K)|refine D2 ?_|refine Pure.use c1 ?_|fail)<;>conv=>whnf)
    refine c3.use (rest:=_) hs ?_;clear hs;rintro r post σ ⟨rfl,M,rfl⟩ hs
    conv=>whnf
    repeat'((first|apply st|(apply sq;intro K U)|(apply si;intro A B Y Z)|(apply Y;clear Z B Y A)|(apply U;clear U K)|refine⟨nb,?_⟩|refine ld ?_|refine Dm fun σ hs=>?_|refine E0 ?_|refine D2 ?_|(intro nn hnn;generalize hg:BC _ nn _=σ;refine Cm hg fun hs=>?_;clear hg)|clear U K)<;>conv=>whnf)
    exact AO (by rfl)
theorem Uk (x:Pl) (g h g' h':Bool):Pure Tryz.prog 22 [.a (oq x g h),.a (oq x g' h')] (.b true):=by
 obtain⟨a,t,b,c,u,d⟩:=x
 have c1: ∀(xs:List Int) (f g:Bool),Pure Tryz.prog 30 [.l (iL xs) f,.l (iL xs) g] (.b true):=fun xs f g=>by
  have:=FQ xs xs f g
  rwa [beq_self_eq_true]at this
 cases t
 all_goals
  cases u
  all_goals
   refine qo nb ?_;have hs:=Sn
   conv=>whnf
   repeat'((first|apply st|(apply sq;intro K U)|(apply si;intro A B Y Z)|(apply Y;clear Z B Y A)|(apply U;clear U K)|refine E0 ?_|refine Pure.use (c1 _ _ _) ?_|fail)<;>conv=>whnf)
   all_goals exact AI rfl
end Go.Gl
namespace Go.Gl
open Go.Proofs
attribute [local irreducible] BL A4 Aj AW AM Ai AV AX AN Ah AS AU A8 BJ Sat Ac BF Ak W
set_option maxRecDepth 4000 in
theorem Tv (p:Prog) (l:List Int) (f:Bool) (q3:Pure Tryz.prog 14 [] (.b true)):Pure Tryz.prog 11 [.a (BK p),.l (iL l) f] (.b true):=by
 refine Pure.fit (by kernel_rfl) fun hf=>?_
 have hlM:=Lu hf.2.1;have hM:=Mx;by_cases h40:40<l.length
 ·refine gy nb ?_
  have hs:=Sn
  conv=>whnf
  repeat'((first|apply st|(apply sq;intro K U)|(apply si;intro A B Y Z)|(apply Y;clear Z B Y A)|(apply U;clear U K)|refine⟨rfl,?_⟩|refine Pure.use q3 ?_|(constructor<;>intro hc<;>(try rw[hc])<;>(replace hc:=bp hc)<;>(try simp(disch:=omega) only[BE,wrap64,AL]at hc)<;>try(exfalso;omega))|clear U K)<;>conv=>whnf)
  all_goals exact AI rfl
 ·have q1:=og p l f (by omega)
  have q2:=oe p l f (by omega);generalize Jw p l=x at *;obtain⟨x,e⟩:=x;dsimp only at q1 q2;refine gy nb ?_;have hs:=Sn
  conv=>whnf
  repeat'((first|apply st|(apply sq;intro K U)|(apply si;intro A B Y Z)|(apply Y;clear Z B Y A)|(apply U;clear U K)|refine⟨rfl,?_⟩|refine⟨nb,?_⟩|refine ld ?_|refine Dm fun σ hs=>?_|refine Pure.use q1 ?_|refine Pure.use q2 ?_|refine Pure.use q3 ?_|refine Pure.use (Uk _ _ _ _ _) ?_|(constructor<;>intro hc<;>(try rw[hc])<;>(replace hc:=bp hc)<;>(try simp(disch:=omega) only[BE,wrap64,AL]at hc)<;>try(exfalso;omega))|(intro nn hnn;generalize hg:BC _ nn _=σ;refine Cm hg fun hs=>?_;clear hg)|fail)<;>conv=>whnf)
  all_goals first
   | exact AI rfl
   | (exfalso;simp at hc;done)
end Go.Gl
namespace Go.Gl
open Go.Proofs
def ou (c:Int):Fact:=Fact.mk 2 0 [] c 0 []
def PV:Prog:=⟨[⟨[],[],[]⟩,⟨[3],[],[]⟩,⟨[3],[],[]⟩,⟨[4,5],[],[]⟩],0,[1],
 [⟨1,0,ou 3,0⟩,⟨1,0,ou 4,1⟩,⟨1,0,ou 5,2⟩,⟨2,0,Fact.mk 1 0 [] 0 0 [],3⟩,⟨2,0,ou 4,4⟩,⟨3,0,ou 3,5⟩,⟨3,0,ou 4,6⟩],
 [⟨2,0,[]⟩,⟨2,0,[]⟩,⟨2,0,[]⟩,⟨2,0,[]⟩,⟨2,0,[]⟩,⟨2,0,[]⟩,⟨2,0,[]⟩,⟨2,0,[]⟩],7⟩
theorem j8:Hq PV 1 0=(true,0):=by kernel_rfl
theorem j7:Hq PV 1 2=(false,0):=by kernel_rfl
theorem j9:Hq PV 0 3=(false,7):=by kernel_rfl
end Go.Gl
