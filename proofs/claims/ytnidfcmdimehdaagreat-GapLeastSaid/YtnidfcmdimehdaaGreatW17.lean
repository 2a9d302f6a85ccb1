import Derived.Test.YtnidfcmdimehdaaGreatW12
import Derived.Test.YtnidfcmdimehdaaGreatW13
import Derived.Test.YtnidfcmdimehdaaGreatW14
import Derived.Test.YtnidfcmdimehdaaGreatW15
import Derived.Test.YtnidfcmdimehdaaGreatW16
set_option linter.all false
set_option linter.defProp false
set_option maxHeartbeats 8000000
noncomputable section
namespace Go.Gl
def bV {M:List Ord} {k:Int} {v:V} {o:List Int} (h: ∀e∈M,e.1<k) (d:Int):Bz (M++[(k,v,o)]) d=if d=k then o else Bz M d:=by
 unfold Bz;rw[List.find?_append];split
 .rename_i e
  have:M.find? (fun e=>d==e.1)=none:=by
   rw[List.find?_eq_none];intro x hx;have:=h x hx;simp;omega
  rw[this];simp[e]
 .rename_i e
  cases hf:M.find? fun e=>d==e.1 with
  | some x=>simp
  | none=>simp[List.find?_cons,e]
structure IK (g:List (List Int)) (k:Nat) (M:List Ord):Prop where
 keys: ∀e∈M,0<=e.1/\e.1<(k:Int)
 dd: ∀d:Int,0<=d->d<k->Bz M d=(DY g).getD d.toNat []
def Ve {g:List (List Int)} {k:Nat} {M:List Ord} (h:IK g k M) {d:Int} (hd:d<0\/(k:Int)<=d):Bz M d= []:=by
 unfold Bz
 have:M.find? (fun e=>d==e.1)=none:=by
  rw[List.find?_eq_none];intro x hx;have:=h.keys x hx;simp;omega
 rw[this];rfl
def Lf {g:List (List Int)} (hg:K5 g) {k:Nat} {M:List Ord} (h:IK g k M) (d:Int):(Bz M d).length<=71744535/\ ∀x∈Bz M d,(0:Int)<=x:=by
 by_cases hd:d<0\/(k:Int)<=d
 .rw[Ve h hd]
  exact⟨by simp,fun x hx=>by cases hx⟩
 .rw[h.dd d (by omega) (by omega)]
  have hb:=L4 hg (2+g.length);have hl:=nz (k:=2+g.length) (by have:=hg.1;omega);unfold DY;exact⟨Vu (fun o ho=>Nat.le_trans (hb o ho).1 hl) _,Vt (fun o ho=>(hb o ho).2) _⟩
def ba {g:List (List Int)} (hg:K5 g) {k:Nat} {M:List Ord} (h:IK g k M) {l:List Int} (hl:l.length<=3) (h0: ∀x∈l,(0:Int)<=x):XH (Cu M l)/\total (Cu M l)<1000000000:=by
 have hM:As=17592186044416:=rfl;have hf: ∀p,((Bz M p).filter (· != 0)).length<=71744535:=fun p=>Nat.le_trans (W9 _ _) (Lf hg h p).1
 have ht: ∀l:List Int,total (l.map fun p=>(Bz M p).filter (· != 0))<=l.length*71744535:=by
  intro l
  induction l with
  | nil=>simp[total]
  | cons p r ih=>
    simp only[total,Eg,List.sum_cons,Kt]at *;have:=hf p;rw[Nat.add_mul];omega
 refine⟨⟨by simp[Cu];omega,fun m hm=>?_⟩,?_⟩
 .rcases Dm.1 hm with hm|hm
  .obtain⟨p,_,rfl⟩:=H8.1 hm
   refine⟨by have:=hf p;omega,fun x hx=>(Lf hg h p).2 x (Kv.1 hx).1⟩
  .rw[MG.1 hm]
   exact⟨by omega,h0⟩
 .have h1:=ht l
  have h2:total (Cu M l)=total (l.map fun p=>(Bz M p).filter (· != 0))+l.length:=by simp[Cu,total]
  have h3:=W8 71744535 hl;omega
def lz {g:List (List Int)} {k:Nat} {M:List Ord} (h:IK g (k+1) M) {l:List Int} (hl:l=BU g ((k:Int)+1)) (hp: ∀p∈l,(0:Int)<=p/\p<(k:Int)+1) (hk:k+1<3+g.length) :
    GV M l ((k:Int)+1)=Hq g (CN g k) ((k:Int)+1):=by
 have ho: ∀p∈l,Bz M p=(CN g k).getD p.toNat []:=fun p hpl=>by
  obtain⟨h0,h1⟩:=hp p hpl;rw[h.dd p h0 (by omega)];unfold DY;rw[Dh,Dh,Eb (k:=2+g.length) (j:=p.toNat) (by omega),Eb (k:=k) (j:=p.toNat) (by omega)]
 have e1:(l.any fun p=>(Bz M p).isEmpty)=(l.any fun p=>((CN g k).getD p.toNat []).isEmpty):=by
  rw[Gr,GF,GF];constructor
  .rintro⟨p,h1,h2⟩;exact⟨p,h1,by rw[<-ho p h1];exact h2⟩
  .rintro⟨p,h1,h2⟩;exact⟨p,h1,by rw[ho p h1];exact h2⟩
 have e2:Cu M l=l.map (fun p=>((CN g k).getD p.toNat []).filter (· != 0))++[l]:=by
  unfold Cu;congr 1;exact List.map_congr_left fun p hpl=>by rw[ho p hpl]
 unfold GV Hq LJ;rw[if_neg (by omega),e1,e2,<-hl];split<;>rfl
def IK.nil {g:List (List Int)}:IK g 0 []:=⟨fun e h=>(by cases h),fun d h0 h1=>by omega⟩
def IK.step {g:List (List Int)} {k:Nat} {M M':List Ord} (h:IK g k M) {l:List Int} (hl:l=BU g (k:Int)) (hp: ∀p∈l,(0:Int)<=p/\p<(k:Int)) (hk:k<3+g.length)
    (hM:(M'=M/\GV M l k= [])\/ ∃v,M'=M++[((k:Int),v,GV M l k)]/\GV M l k≠[]):IK g (k+1) M':=by
 have hc:GV M l k=(DY g).getD k []:=by
  cases k with
  | zero=>
    unfold GV DY;rw[if_pos (by simp),Dh,Eb (j:=0) (by omega)];rfl
  | succ k=>
    have:=lz h (by simpa using hl) (fun p hpl=>by have:=hp p hpl;simpa using this) hk;have e:((k+1:Nat):Int)=(k:Int)+1:=by omega
    rw[e,this];unfold DY;rw[Dh,Eb (k:=2+g.length) (j:=k+1) (by omega),CN,List.getElem?_append_right (by rw[Fg];omega),Fg,Nat.sub_self];rfl
 rcases hM with⟨rfl,he⟩|⟨v,rfl,_⟩
 .refine⟨fun e he=>by have:=h.keys e he;omega,fun d h0 h1=>?_⟩
  by_cases hd:d=k
  .subst hd
   rw[Ve h (by omega)];rw[Hc,<-hc,he]
  .exact h.dd d h0 (by omega)
 .refine⟨fun e he=>?_,fun d h0 h1=>?_⟩
  .rcases Dm.1 he with he|he
   .have:=h.keys e he;omega
   .rw[MG.1 he]
    exact⟨by simp,by simp;omega⟩
  .rw[bV (fun e he=>(h.keys e he).2)]
   split
   .rename_i hd
    rw[hd,Hc];exact hc
   .exact h.dd d h0 (by omega)
end Go.Gl
namespace Go.Gl
open Go.Proofs
attribute [local irreducible] Ao Ai AY AO AJ AX AN AP AI AW AK AL Ak Au Sat AT Ar Aa W
def A6 (p:Prog):List (List Int):=p.AQ.map (·.parents)
def yf (p:Prog):Prop:=p.AQ.length<=As/\ ∀c∈p.AQ,c.parents.length<=As/\c.AF.length<=As/\c.inits.length<=As
def BN (i:Nat):List Qk->List Int
 | []=>[]
 | c::r=>List.replicate c.AF.length ((i:Int)+3)++BN (i+1) r
def AM (p:Prog):AG:=⟨A6 p,BN 0 p.AQ⟩
def OA (i:Nat) (a b:List Qk):BN i (a++b)=BN i a++BN (i+a.length) b:=by
 induction a generalizing i with
 | nil=>simp[BN]
 | cons c r ih=>
   simp only[List.cons_append,BN,ih,Od,Kt];rw[show i+1+r.length=i+(r.length+1) by omega]
def CU (cs:List Qk):Nat:=(cs.map (·.AF.length)).sum
def DF (i:Nat) (cs:List Qk):(BN i cs).length=CU cs:=by
 induction cs generalizing i with
 | nil=>rfl
 | cons c r ih=>simp[BN,ih,CU]
def YD {cs:List Qk} {k:Nat} {c:Qk} (h:cs[k]? =some c):CU (cs.take k)+c.AF.length<=CU cs:=by
 induction cs generalizing k with
 | nil=>cases h
 | cons d r ih=>
   cases k with
   | zero=>simp at h;subst h;simp[CU]
   | succ k=>simp at h;have:=ih h;simp only[CU,List.take_succ_cons,Eg,List.sum_cons]at *;omega
def Sr:Int->List Int->Bool
 | _,[]=>true
 | n,s::r=>s==n&&Sr (n+1) r
def FQ:Int->List Qk->Bool
 | _,[]=>true
 | n,c::r=>decide (c.AF.length<=4)&&(decide (c.parents.length<=3)&&(Sr n c.AF&&FQ (n+c.AF.length) r))
def MX (w:AG) (c n:Int):List (Int×Int)->List (Int×Int)->Bool
 | _,[]=>true
 | pre,x::r=>decide (0<=x.1)&&(decide (x.1<n)&&(hasB w c x.1&&(XQ x.2&&(pre.all (fun y=>y.1 != x.1)&&MX w c n (pre++[x]) r))))
def vU (g:List (List Int)) (c:Int):Bool:= !((DY g).getD c.toNat []).isEmpty
def O7 (w:AG) (n:Int):Nat->List Qk->Bool
 | _,[]=>true
 | i,c::r=>vU w.parents ((i:Int)+3)&&(MX w ((i:Int)+3) n [] c.inits&&O7 w n (i+1) r)
def CH (p:Prog):Bool:=decide (p.AQ.length<=10)&&(FQ 0 p.AQ&&((CU p.AQ:Int)==p.AF&&(FE (A6 p)&&O7 (AM p) (CU p.AQ) 0 p.AQ)))
def wy {c:Qk} (h:Hg (Qz c)):c.parents.length<=As/\c.AF.length<=As/\c.inits.length<=As:=by
 simp only[Qz,Es,Io,C4]at h;exact⟨h.1.1,h.2.1.1,h.2.2.1.1⟩
def U4 {p:Prog} (h:E9 (.a (Ba p))):yf p:=by
 refine⟨(O6 h).1,fun c hc=>?_⟩;simp only[Ba,KF,Es,Io,Lq]at h;exact wy (h.1.2 c hc)
def HT: ∀(cs:List Qk) (n:Int),FQ n cs=true->CU cs<=4*cs.length/\ ∀c∈cs,c.parents.length<=3/\c.AF.length<=4
 | [],_,_=>⟨IN _,fun _ h=>by cases h⟩
 | c::r,n,h=>by
   simp only[FQ,A4,CT]at h;have⟨h1,h2⟩:=HT r _ h.2.2.2;refine⟨by simp only[CU,Eg,List.sum_cons,Kt]at *;omega,fun d hd=>?_⟩;rcases FR.1 hd with rfl|hd
   .exact⟨h.2.1,h.1⟩
   .exact h2 d hd
def SQ {i:Nat}: ∀(r pre:List Int),aY i pre r=true->pre.Nodup->(pre++r).Nodup/\ ∀c∈r,(3:Int)<=c/\c<3+(i:Int)
 | [],pre,_,h=>⟨by simpa using h,fun _ h=>by cases h⟩
 | c::r,pre,h,hn=>by
   simp only[aY,yI,A4,CT,Bool.not_eq_true']at h;have hc:c∉pre:=by simpa using h.1.2.2
   obtain⟨h1,h2⟩:=SQ r (pre++[c]) h.2 (List.nodup_append.2 ⟨hn,by simp,fun a ha b hb=>by simp at hb;subst hb;exact fun e=>hc (e ▸ ha)⟩);refine⟨by simpa using h1,fun d hd=>?_⟩;rcases FR.1 hd with rfl|hd
   .exact⟨h.1.1,h.1.2.1⟩
   .exact h2 d hd
def P8: ∀(g:List (List Int)) (k:Nat),Ou k g=true-> ∀(i:Nat) (l:List Int),g[i]? =some l->l.length<=3/\l.Nodup/\ ∀c∈l,(3:Int)<=c/\c<3+((k+i:Nat):Int)
 | [],_,_,_,_,h=>by cases h
 | l ::r,k,h,i,l',hi=>by
   simp only[Ou,A4,CT]at h;cases i with
   | zero=>
     simp at hi;subst hi;obtain⟨h1,h2⟩:=SQ l [] h.2.1 .nil;exact⟨h.1,by simpa using h1,by simpa using h2⟩
   | succ i=>
     simp at hi;have:=P8 r (k+1) h.2.2 i l' hi;rw[show k+(i+1)=k+1+i by omega];exact this
def D8 {g:List (List Int)} (h:FE g=true):K5 g:=by
 simp only[FE,A4,CT]at h;refine⟨h.1,fun i l hi=>?_⟩;have:=P8 g 0 h.2 i l hi;simpa using this
def JS {g:List (List Int)} (h:K5 g):ordered g:=by
 intro c p hp;unfold par at hp;split at hp
 .cases hp
 .rename_i h3
  rw[Dh]at hp;cases hq:g[c - 3]? with
  | none=>rw[hq]at hp;cases hp
  | some l=>
    rw[hq]at hp;have:=(h.2 _ _ hq).2.2 p hp;omega
def Ff {i:Nat} {cs:List Qk} {c:Int} (h:c∈BN i cs):(3:Int)+i<=c/\c<3+i+cs.length:=by
 induction cs generalizing i with
 | nil=>cases h
 | cons d r ih=>
   simp only[BN,Dm,List.mem_replicate]at h;simp only[Kt];rcases h with⟨_,rfl⟩|h
   .omega
   .have:=ih h;omega
def Xt {p:Prog} (h1:p.AQ.length<=10) (h2:FQ 0 p.AQ=true) (h3:FE (A6 p)=true):Nr (AM p):=by
 have hl:(AM p).parents.length=p.AQ.length:=by simp[AM,A6]
 refine⟨by omega,JS (D8 h3),fun c hc=>?_,?_⟩
 .have:=Ff hc
  rw[hl];omega
 .have:=(HT _ _ h2).1
  simp only[AM,DF];omega
def Js (f:Int->Int->List Int->Option (List Int)) (op size:Int):Nat->List Int->List Int->Option (List Int)
 | _,[],s=>some s
 | i,k::r,s=>match f k (if op=9/\i=1 then size+1 else size) s with
   | none=>none
   | some s'=>Js f op size (i+1) r s'
def Fu (p:Prog) (next:Bool) (size:Int) (x:Node):Bool:=((x.kids.length:Int)==O3 p x)&&(Su p x size&&(x.op != 18||next))
def C7 (p:Prog) (next:Bool):Nat->Int->Int->List Int->Option (List Int)
 | 0,_,_,_=>none
 | d+1,n,size,s=>
   if n<0\/(p.nodes.length:Int)<=n\/0<=s.getD n.toNat 0 then none else
   match p.nodes[n.toNat]? with
   | none=>none
   | some x=>if Fu p next size x then Js (C7 p next d) x.op size 0 x.kids (s.set n.toNat size)else none
def r6 {p:Prog} (h:E9 (.a (Ba p))) {x:Node} (hx:x∈p.nodes):x.kids.length<=As:=by
 simp only[Ba,KF,Es,Io,Lq]at h
 have h2:Hg (NT x):=by
  first|exact h.2.2.2.2.1.2 x hx|exact h.2.2.2.2.2.1.2 x hx|exact h.2.2.2.1.2 x hx|exact h.2.2.1.2 x hx|exact h.2.1.2 x hx
 simp only[NT,Es,Io,C4]at h2
 first|exact h2.2.2.1.1|exact h2.2.2.1|exact h2.1
def YA {w:AG} (f:Fact):BM w f=true->VF f=true:=by
 induction f using Fact.ind with
 | h f ih=>
   intro h;rw[CO]at h;simp only[Dr,A4,DR,CT]at h;rw[WH];simp only[A4,CT,List.all_map,DR,Function.comp_apply,id];exact⟨⟨h.1.2.2.1,h.1.2.2.2.1⟩,fun k hk=>ih k hk (h.2 k hk)⟩
def XB (p:Prog) (m:N6):Bool:=decide (1<=m.kind)&&(decide (m.kind<=4)&&(decide (0<=m.gen)&&(decide (m.gen<(p.Ch.length:Int))&&(EC (AM p) m.fact&&decide (Il m.fact<=p.Ch.getD m.gen.toNat 0)))))
def runM (p:Prog):List N6->List Int->Option (List Int)
 | [],s=>some s
 | m::r,s=>if XB p m then match C7 p (Ow m.kind) 12 m.node (p.Ch.getD m.gen.toNat 0) s with
   | none=>none
   | some s'=>runM p r s' else none
def Eh (p:Prog):Bool:=CH p&&(decide (p.Ch.length<=8)&&(decide (p.methods.length<=16)&&(decide (1<=p.nodes.length)&&(decide (p.nodes.length<=120)&&p.Ch.all fun g=>decide (1<=g)&&decide (g<=3)))))
def BZ (p:Prog):Option (List Int):=if Eh p then match runM p p.methods (List.replicate p.nodes.length (-1))with
 | none=>none
 | some s=>match C7 p false 12 p.main 0 s with
   | none=>none
   | some s=>if s.all fun n=>decide (0<=n)then some s else none else none
def Oy (p:Prog):Option (List Int)->Option (List Int)
 | none=>none
 | some s=>match C7 p false 12 p.main 0 s with
   | none=>none
   | some s=>if s.all fun n=>decide (0<=n)then some s else none
def mN {p:Prog} (h:Eh p=true):BZ p=Oy p (runM p p.methods (List.replicate p.nodes.length (-1))):=by
 unfold BZ;rw[if_pos h];rfl
def JN {p:Prog} {k:Nat} {x:N6} {s:List Int} (hx:p.methods[k]? =some x) (hn:BZ p=Oy p (runM p (p.methods.drop k) s)) (hok:XB p x=false):BZ p=none:=by
 rw[hn,drop_cons hx,runM,if_neg (by simp[hok])];rfl
def bH {p:Prog} {k:Nat} {x:N6} {s:List Int} (hx:p.methods[k]? =some x) (hn:BZ p=Oy p (runM p (p.methods.drop k) s)) (hok:XB p x=true) (hw:C7 p (Ow x.kind) 12 x.node (p.Ch.getD x.gen.toNat 0) s=none):BZ p=none:=by
 rw[hn,drop_cons hx,runM,if_pos hok,hw];rfl
def lW {p:Prog} {k:Nat} {x:N6} {s s':List Int} (hx:p.methods[k]? =some x) (hn:BZ p=Oy p (runM p (p.methods.drop k) s)) (hok:XB p x=true) (hw:C7 p (Ow x.kind) 12 x.node (p.Ch.getD x.gen.toNat 0) s=some s'):BZ p=Oy p (runM p (p.methods.drop (k+1)) s'):=by
 rw[hn,drop_cons hx,runM,if_pos hok,hw]
def br {p:Prog} (h:Eh p=true) {k:Nat} {x:Int} (hx:p.Ch[k]? =some x):1<=x/\x<=3:=by
 simp only[Eh,A4,DR,CT]at h;exact h.2.2.2.2.2 x (Dn hx)
def XT:List (Fact->Bool)->List Fact->Bool
 | h::r,k::s=>h k&&XT r s
 | _,_=>true
def oW (f:Fact) (l:List (Fact->Bool)) (g:Fact):Bool:=f.op==g.op&&(f.arg==g.arg&&(f.cls==g.cls&&(f.n==g.n&&(f.path==g.path&&(f.kids.length==g.kids.length&&XT l g.kids)))))
def G2 (f:Fact):Fact->Bool:=f.Gy oW
def VZ (f g:Fact):G2 f g=(f.op==g.op&&(f.arg==g.arg&&(f.cls==g.cls&&(f.n==g.n&&(f.path==g.path&&(f.kids.length==g.kids.length&&XT (f.kids.map G2) g.kids)))))):=congrFun (Fact.DQ oW f) g
def WJ {xs ys:List Fact} (h: ∀x∈xs,∀y,G2 x y=true↔x=y) (hl:xs.length=ys.length):XT (xs.map G2) ys=true↔xs=ys:=by
 induction xs generalizing ys with
 | nil=>cases ys with
   | nil=>simp[XT]
   | cons _ _=>simp at hl
 | cons x r ih=>cases ys with
   | nil=>simp at hl
   | cons y s=>
     simp only[Eg,XT,A4,List.cons.injEq];rw[h x (.head _) y,ih (fun x hx=>h x (.tail _ hx)) (by simpa using hl)]
def Mv (f g:Fact):G2 f g=true↔f=g:=by
 induction f using Fact.ind generalizing g with
 | h f ih=>
   rw[VZ];cases f with
   | mk o a p c n k=>cases g with
     | mk o' a' p' c' n' k'=>
       simp only[Fact.op,Fact.arg,Fact.cls,Fact.n,Fact.path,Fact.kids,A4,Cy,Fact.mk.injEq]at *;constructor
       .rintro⟨rfl,rfl,rfl,rfl,rfl,hl,h⟩
        exact⟨rfl,rfl,rfl,rfl,rfl,(WJ (fun x hx y=>ih x hx y) hl).1 h⟩
       .rintro⟨rfl,rfl,rfl,rfl,rfl,rfl⟩
        exact⟨rfl,rfl,rfl,rfl,rfl,rfl,(WJ (fun x hx y=>ih x hx y) rfl).2 rfl⟩
def EL (f:Fact):Fact:= .mk 5 0 [] 0 0 [f]
def Q4 (f g:Fact):Fact:= .mk 6 0 [] 0 0 [f,g]
def oo (l:Fact):Prop:=l.op=5->l.kids≠[]
def Ag (l:Fact):Fact×Bool:=if l.op=5 then(l.kids.headD default,true)else(l,false)
def BY (path pre:List Int):Bool:=decide (pre.length<=path.length)&&path.take pre.length==pre
def Jk (a:Int) (p:List Int) (l:Fact):Bool:=(Ag l).1.arg==a&&(Ag l).1.path==p
def EP (ls:List Fact) (a:Int) (p:List Int):Bool:=ls.all fun l=>(Ag l).2|| !((Ag l).1.arg==a&&BY (Ag l).1.path p)
def BT (n:Nat):List Int:=(List.range n).map Int.ofNat
def Wa (n:Nat):BT (n+1)=BT n++[(n:Int)]:=by simp[BT,List.range_succ]
def Hy (n:Nat):(BT n).length=n:=by simp[BT]
def oN (a:Int) (p:List Int) (s:Int) (l:Fact):Bool:=(Ag l).1.arg==a&&BY (Ag l).1.path (p++[s])
def CX (n:Nat) (ls:List Fact) (a:Int) (p:List Int):List Int:=(BT n).filter fun s=>ls.any (oN a p s)
def GI (n:Nat) (ls:List Fact) (a:Int) (p:List Int):Bool:=(CX n ls a p).all fun s=>EP ls a (p++[s])
def XX (ls:List Fact):Prop:= ∀l∈ls,-1000000000<=(Ag l).1.n/\(Ag l).1.n<=1000000000
def Uv (x:Fact×Bool) (t:Int×Int×List Int):Option (Int×Int×List Int):=
 if x.1.op=2 then if decide (x.1.cls > 1) != x.2 then none else some t
 else if x.1.op=3 then(if x.2 then some (if x.1.n > t.1 then x.1.n else t.1,t.2.1,t.2.2)else some (t.1,if x.1.n - 1<t.2.1 then x.1.n - 1 else t.2.1,t.2.2))
 else if x.2 then some (t.1,t.2.1,t.2.2++[x.1.n])else some (if x.1.n > t.1 then x.1.n else t.1,if x.1.n<t.2.1 then x.1.n else t.2.1,t.2.2)
def foldI:List Fact->Int×Int×List Int->Option (Int×Int×List Int)
 | [],t=>some t
 | x::r,t=>(Uv (Ag x) t).bind (foldI r)
def dX (no:List Int):Nat->Int->Option Int
 | 0,_=>none
 | k+1,n=>if no.all (· != n)then some n else dX no k (n+1)
def Uw (t:Int×Int×List Int):Option Int:=dX t.2.2 (t.2.1+1 - t.1).toNat t.1
def t0:Int×Int×List Int:=(-1000000000,1000000000,[])
def Ny (ls:List Fact) (a:Int) (p:List Int):Option Int:=(foldI (ls.filter (Jk a p)) t0).bind Uw
def RI (x:Fact×Bool):Bool:=((x.1.op==2&&(x.1.cls==0||x.1.cls==2))==x.2)
def Ic (n:Nat) (ls:List Fact) (a:Int) (p:List Int):Bool:=(ls.filter (Jk a p)).all (fun l=> !RI (Ag l))&&GI n ls a p
abbrev BB:=List Bool×List Bool
def NN (x:Fact×Bool) (t:BB):Option BB:=
 if x.1.op≠2\/x.1.cls=1\/x.1.cls=2 then(if x.2 then some t else none)else
 if x.2 then some (t.1,t.2.set x.1.cls.toNat true)else some (t.1.set x.1.cls.toNat true,t.2)
def Jv:List Fact->BB->Option BB
 | [],t=>some t
 | x::r,t=>(NN (Ag x) t).bind (Jv r)
def Uu (w:AG) (ls:List Fact) (a:Int) (p:List Int) (can:Int->Bool) (s:Int) (t:BB):Option BB:=
 if !EP ls a (p++[s])&& !can s then none else some (if EP ls a (p++[s])then t.1 else t.1.set (B2 w s).toNat true,if can s then t.2 else t.2.set (B2 w s).toNat true)
def Ju (w:AG) (ls:List Fact) (a:Int) (p:List Int) (can:Int->Bool):List Int->BB->Option BB
 | [],t=>some t
 | s::r,t=>(Uu w ls a p can s t).bind (Ju w ls a p can r)
def JX (ps:List (List Int)) (c:Nat) (bs:List Bool):List Bool:=if bs.getD c false then(par ps c).foldl (fun b q=>b.set q.toNat true) bs else bs
def Cc (ps:List (List Int)) (n:Nat):Nat->List Bool->List Bool
 | 0,bs=>bs
 | k+1,bs=>JX ps (n - 1 - k) (Cc ps n k bs)
def J0: ∀(l:List Int) (bs:List Bool),(l.foldl (fun b q=>b.set q.toNat true) bs).length=bs.length
 | [],_=>rfl
 | q::r,bs=>by rw[List.foldl_cons,J0 r,List.length_set]
def Ey (ps:List (List Int)) (n:Nat): ∀(k:Nat) (bs:List Bool),(Cc ps n k bs).length=bs.length
 | 0,_=>rfl
 | k+1,bs=>by
   rw[Cc,JX];split
   .rw[J0,Ey ps n k bs]
   .exact Ey ps n k bs
def dk (w:AG) (t:BB):Option (List Bool):=
 if t.2.getD 0 false then none else
 if(List.range (3+w.parents.length)).any (fun c=>(Cc w.parents (3+w.parents.length) w.parents.length (t.1.set 0 false)).getD c false&&t.2.getD c false)then none else some (Cc w.parents (3+w.parents.length) w.parents.length (t.1.set 0 false))
def tO (w:AG):BB:=(List.replicate (3+w.parents.length) false,List.replicate (3+w.parents.length) false)
def UW (w:AG) (ls:List Fact) (a:Int) (p:List Int) (can:Int->Bool):Option (List Bool):=
 ((Jv (ls.filter (Jk a p)) (tO w)).bind (Ju w ls a p can (CX w.owner.length ls a p))).bind (dk w)
def HS {n:Nat} {ls:List Fact} {a:Int} {p:List Int} {s:Int} (h:s∈CX n ls a p):0<=s/\s<n:=by
 have:=(Kv.1 h).1;simp only[BT,H8,List.mem_range]at this;obtain⟨m,hm,rfl⟩:=this;exact⟨Int.natCast_nonneg m,by simpa using hm⟩
def xY (w:AG) (ls:List Fact):Prop:= ∀l∈ls,(Ag l).1.op=2->0<=(Ag l).1.cls/\(Ag l).1.cls<3+w.parents.length
def S3 (w:AG) (ls:List Fact) (a:Int):Nat->List Int->Bool
 | 0,p=>((Ny ls a p).isSome&&GI w.owner.length ls a p)||(Ic w.owner.length ls a p||(UW w ls a p fun _=>false).isSome)
 | d+1,p=>((Ny ls a p).isSome&&GI w.owner.length ls a p)||(Ic w.owner.length ls a p||(UW w ls a p fun s=>S3 w ls a d (p++[s])).isSome)
def fE (ls:List Fact) (n:Nat):Prop:= ∀l∈ls,(Ag l).1.path.length<=n
def Mu {n m:Nat} {ls:List Fact} {a:Int} {p:List Int} (h:fE ls m) (hp:m<=p.length):CX n ls a p= []:=by
 rw[CX,List.filter_eq_nil_iff];intro s _ hs;rw[GF]at hs;obtain⟨l,hl,hg⟩:=hs;have:=h l hl;simp only[oN,BY,A4,CT,RG,List.length_singleton]at hg;omega
def Ji (w:AG) (ls:List Fact):Bool:=(BT 3).all fun a=>S3 w ls a 2 []
def Zc {b:Nat} {Z:AE} {l:List At} (h:Sat Z l) (i j:Nat) {v u:V} {sz:Nat} {es ys:List (List V)} {K:V->AE->Prop} (hi:l[i]? =some (.own v sz es)) (hj:l[j]? =some (.own u sz ys)) (hl:es.length+ys.length<=As/\(es.length+ys.length)*b<=140737488355328) (hys: ∀e∈ys,e.length=sz) (ho: ∀e∈ys,∀v∈e,B6 v=true)
    (hk: ∀v' Z',Sat Z' (l.set i (.own v' sz (es++ys)))->K v' Z'):AJ b Z sz v u K:=by
 have hA:AJ b Z sz v (.l ys true) K:=hAppend h i hi hl hys ho hk;rcases h.get hj with⟨rfl,hel⟩|⟨n,cap,rfl,hn⟩
 .exact hA
 .unfold AJ at hA ⊢
  simp only[rowsOf]at hA ⊢;rw[hn];refine⟨rfl,IN _,?_⟩;rw[List.take_length];exact hA.2
def Cb (a:List Fact):List Fact->List Fact
 | []=>a
 | x::r=>Cb (if a.any (G2 x)then a else a++[x]) r
def YG (a:List Fact): ∀(b:List Fact) (x:Fact),Cb a (b++[x])=if(Cb a b).any (G2 x)then Cb a b else Cb a b++[x]:=by
 intro b
 induction b generalizing a with
 | nil=>intro x;rfl
 | cons y r ih=>intro x;simp only[List.cons_append,Cb];exact ih _ x
def R9 (a:List Fact): ∀(b:List Fact),(Cb a b).length<=a.length+b.length:=by
 intro b
 induction b generalizing a with
 | nil=>simp[Cb]
 | cons y r ih=>
   simp only[Cb,Kt];refine Nat.le_trans (ih _) ?_;split
   .omega
   .simp;omega
def R8 (a:List Fact): ∀(b:List Fact) (x:Fact),x∈Cb a b->x∈a\/x∈b:=by
 intro b
 induction b generalizing a with
 | nil=>intro x hx;exact .inl hx
 | cons y r ih=>
   intro x hx;simp only[Cb]at hx;rcases ih _ x hx with h|h
   .split at h
    .exact .inl h
    .rcases Dm.1 h with h|h
     .exact .inl h
     .rw[MG.1 h];exact .inr (.head _)
   .exact .inr (.tail _ h)
def FB (A B:List (List Fact)):List (List Fact):=A.flatMap fun x=>B.map fun y=>Cb x y
def Gh (f:Fact) (l:List (Bool->List (List Fact))) (c:Bool):List (List Fact):=
 if f.op=1 then(if c then []else [[]])else
 if f.op=5 then(l.getD 0 (fun _=>[])) (!c)else
 if f.op=6\/f.op=7 then(if c != (f.op==7)then l.getD 0 (fun _=>[]) c++l.getD 1 (fun _=>[]) c else FB (l.getD 0 (fun _=>[]) c) (l.getD 1 (fun _=>[]) c))else
 if c then [[EL f]]else [[f]]
def BO (f:Fact):Bool->List (List Fact):=f.Gy Gh
def Eu (f:Fact) (c:Bool):BO f c=Gh f (f.kids.map BO) c:=congrFun (Fact.DQ Gh f) c
def aJ (f:Fact) (l:List Nat):Nat:=if f.op=5 then l.getD 0 0 else if f.op=6\/f.op=7 then l.getD 0 0+l.getD 1 0 else 1
def lv (f:Fact):Nat:=f.Gy aJ
def Jq (f:Fact):lv f=aJ f (f.kids.map lv):=Fact.DQ aJ f
def arity (f:Fact):Bool:=f.Gy fun f l=>f.kids.length==Cv f.op&&l.all id
def Lu (f:Fact):arity f=(f.kids.length==Cv f.op&&f.kids.all arity):=by
 rw[arity,Fact.DQ,List.all_map];rfl
def Bs {w:AG} (f:Fact):BM w f=true->arity f=true:=by
 induction f using Fact.ind with
 | h f ih=>
   intro h;rw[CO]at h;simp only[Dr,A4,DR]at h;rw[Lu,A4,DR];exact⟨h.1.2.1,fun k hk=>ih k hk (h.2 k hk)⟩
def E7 {f:Fact} (h:arity f=true) (h5:f.op=5): ∃a,f.kids= [a]/\arity a=true:=by
 rw[Lu,A4,DR,h5]at h;have hl:f.kids.length=1:=by simpa[Cv]using h.1
 obtain⟨a,ha⟩:=List.length_eq_one_iff.1 hl;exact⟨a,ha,h.2 a (by rw[ha];exact .head _)⟩
def E6 {f:Fact} (h:arity f=true) (h6:f.op=6\/f.op=7): ∃a b,f.kids= [a,b]/\arity a=true/\arity b=true:=by
 rw[Lu,A4,DR]at h
 have hl:f.kids.length=2:=by
  have h5:f.op≠5:=by omega
  simpa[Cv,h5,h6]using h.1
 match hk:f.kids,hl with
 | [a,b],_=>exact⟨a,b,rfl,h.2 a (by rw[hk];exact .head _),h.2 b (by rw[hk];exact .tail _ (.head _))⟩
def fP (f:Fact):arity f=true->1<=lv f:=by
 induction f using Fact.ind with
 | h f ih=>
   intro h;rw[Jq,aJ];split
   .rename_i h5
    obtain⟨a,ha,hb⟩:=E7 h h5;rw[ha];exact ih a (by rw[ha];exact .head _) hb
   .split
    .rename_i h6
     obtain⟨a,b,ha,hb,_⟩:=E6 h h6;rw[ha];have:=ih a (by rw[ha];exact .head _) hb;simp only[Eg,List.getD_cons_zero];omega
    .omega
def ln {a b:Nat} (ha:1<=a) (hb:1<=b):2 ^ a+2 ^ b<=2 ^ (a+b):=by
 rw[Nat.pow_add];have h1:2<=2 ^ a:=by simpa using Nat.pow_le_pow_right (show 0<2 by omega) ha
 have h2:2<=2 ^ b:=by simpa using Nat.pow_le_pow_right (show 0<2 by omega) hb
 generalize 2 ^ a=x at *;generalize 2 ^ b=y at *;have:=Nat.mul_le_mul_left (x - 1) (show 1<=y - 1 by omega);obtain⟨x,rfl⟩: ∃u,x=u+1:=⟨x - 1,by omega⟩
 obtain⟨y,rfl⟩: ∃u,y=u+1:=⟨y - 1,by omega⟩
 simp only[Nat.add_sub_cancel,Nat.mul_one]at this;rw[Nat.add_mul,Nat.mul_add];omega
def bR (A B:List (List Fact)):(FB A B).length=A.length*B.length:=by
 induction A with
 | nil=>simp[FB]
 | cons x r ih=>
   simp only[FB,List.flatMap_cons,RG,C4,Kt]at *;rw[ih,Nat.add_mul];omega
def Kl (f : Fact):arity f=true-> ∀c,(BO f c).length<=2 ^ lv f/\ ∀l∈BO f c,l.length<=lv f:=by
 induction f using Fact.ind with
 | h f ih=>
   intro h c;rw[Eu,Jq,Gh,aJ];by_cases h1:f.op=1
   .have e5: ¬f.op=5:=by omega
    have e6: ¬(f.op=6\/f.op=7):=by omega
    rw[if_pos h1,if_neg e5,if_neg e6];cases c
    .rw[if_neg (by decide)]
     exact⟨by simp,fun l hl=>by simp at hl;subst hl;simp⟩
    .rw[if_pos rfl]
     exact⟨by simp,fun l hl=>by cases hl⟩
   rw[if_neg h1];by_cases h5:f.op=5
   .obtain⟨a,ha,hb⟩:=E7 h h5
    rw[if_pos h5,if_pos h5,ha];exact ih a (by rw[ha];exact .head _) hb (!c)
   rw[if_neg h5,if_neg h5];by_cases h6:f.op=6\/f.op=7
   .obtain⟨a,b,ha,hb1,hb2⟩:=E6 h h6
    rw[if_pos h6,if_pos h6,ha];simp only[Eg,List.map_nil,List.getD_cons_zero,List.getD_cons_succ];obtain⟨i1,i2⟩:=ih a (by rw[ha];exact .head _) hb1 c;obtain⟨j1,j2⟩:=ih b (by rw[ha];exact .tail _ (.head _)) hb2 c;have p1:=fP a hb1;have p2:=fP b hb2;split
    .refine⟨?_,fun l hl=>?_⟩
     .rw[RG]
      have:=ln p1 p2;omega
     .rcases Dm.1 hl with hl|hl
      .have:=i2 l hl;omega
      .have:=j2 l hl;omega
    .refine⟨?_,fun l hl=>?_⟩
     .rw[bR,Nat.pow_add]
      exact Nat.mul_le_mul i1 j1
     .simp only[FB,List.mem_flatMap,H8]at hl
      obtain⟨x,hx,y,hy,rfl⟩:=hl;have:=R9 x y;have:=i2 x hx;have:=j2 y hy;omega
   .rw[if_neg h6,if_neg h6]
    cases c
    .exact⟨by simp,fun l hl=>by simp at hl;subst hl;simp⟩
    .exact⟨by simp,fun l hl=>by simp at hl;subst hl;simp⟩
def rP (f:Fact):arity f=true->2*lv f<=Qr f+1:=by
 induction f using Fact.ind with
 | h f ih=>
   intro h;rw[Jq,aJ,PQ];by_cases h5:f.op=5
   .obtain⟨a,ha,hb⟩:=E7 h h5
    rw[if_pos h5,ha];have:=ih a (by rw[ha];exact .head _) hb;simp only[Eg,List.map_nil,List.getD_cons_zero,List.sum_cons,List.sum_nil];omega
   rw[if_neg h5];by_cases h6:f.op=6\/f.op=7
   .obtain⟨a,b,ha,hb1,hb2⟩:=E6 h h6
    rw[if_pos h6,ha];have:=ih a (by rw[ha];exact .head _) hb1;have:=ih b (by rw[ha];exact .tail _ (.head _)) hb2;simp only[Eg,List.map_nil,List.getD_cons_zero,List.getD_cons_succ,List.sum_cons,List.sum_nil];omega
   .rw[if_neg h6]
    omega
def C6 (w:AG) (x:Fact):Prop:= ∃g,BM w g=true/\Cm g=true/\(x=g\/x=EL g)
def E3 {g:Fact} (h:Cm g=true):g.op=2\/g.op=3\/g.op=4:=by
 simp only[Cm,Ek,Cy]at h;omega
def Da {w : AG} (f:Fact):BM w f=true-> ∀c,∀l∈BO f c,∀x∈l,C6 w x:=by
 induction f using Fact.ind with
 | h f ih=>
   intro h c;have har:=Bs f h;have h':=h;rw[CO,A4,DR]at h';rw[Eu,Gh];by_cases h1:f.op=1
   .rw[if_pos h1]
    cases c
    .rw[if_neg (by decide)]
     intro l hl x hx;simp at hl;subst hl;cases hx
    .rw[if_pos rfl]
     intro l hl;cases hl
   rw[if_neg h1];by_cases h5:f.op=5
   .obtain⟨a,ha,hb⟩:=E7 har h5
    rw[if_pos h5,ha];exact ih a (by rw[ha];exact .head _) (h'.2 a (by rw[ha];exact .head _)) (!c)
   rw[if_neg h5];by_cases h6:f.op=6\/f.op=7
   .obtain⟨a,b,ha,hb1,hb2⟩:=E6 har h6
    rw[if_pos h6,ha];have i1:=ih a (by rw[ha];exact .head _) (h'.2 a (by rw[ha];exact .head _)) c;have j1:=ih b (by rw[ha];exact .tail _ (.head _)) (h'.2 b (by rw[ha];exact .tail _ (.head _))) c;simp only[Eg,List.map_nil,List.getD_cons_zero,List.getD_cons_succ];split
    .intro l hl
     rcases Dm.1 hl with hl|hl
     .exact i1 l hl
     .exact j1 l hl
    .intro l hl x hx
     simp only[FB,List.mem_flatMap,H8]at hl;obtain⟨y,hy,z,hz,rfl⟩:=hl;rcases R8 _ _ _ hx with h|h
     .exact i1 y hy x h
     .exact j1 z hz x h
   .rw [if_neg h6]
    have hlf:Cm f=true:=by
     have ho:aH w f=true:=by
      have:=h'.1;simp only[Dr,A4]at this;exact this.1
     simp only[Cm,Ek,Cy];unfold aH at ho;split at ho
     .omega
     .split at ho
      .omega
      .simp only[Ek,Cy]at ho
       omega
    cases c
    .rw[if_neg (by decide)]
     intro l hl x hx;simp at hl;subst hl;simp at hx;subst hx;exact⟨x,h,hlf,.inl rfl⟩
    .rw[if_pos rfl]
     intro l hl x hx;simp at hl;subst hl;simp at hx;subst hx;exact⟨f,h,hlf,.inr rfl⟩
def HH {w:AG} {x:Fact} (h:C6 w x):oo x/\BM w (Ag x).1=true/\Cm (Ag x).1=true:=by
 obtain⟨g,hn,hl,rfl|rfl⟩:=h
 .have:=E3 hl
  have h5: ¬x.op=5:=by omega
  exact⟨fun e=>absurd e h5,by simp only[Ag,if_neg h5];exact⟨hn,hl⟩⟩
 .exact⟨fun _ e=>(by cases e),hn,hl⟩
def Lh {w:AG} {l:List Fact} (h: ∀x∈l,C6 w x):(∀x∈l,oo x)/\xY w l/\XX l/\fE l 2:=by
 refine⟨fun x hx=>(HH (h x hx)).1,fun x hx h2=>?_,fun x hx=>?_,fun x hx=>?_⟩
 all_goals
  obtain⟨-,hn,hl⟩:=HH (h x hx);have hlo:=E3 hl;generalize (Ag x).1=g at *;rw[CO,A4]at hn;have hn:=hn.1;simp only[Dr,A4]at hn;obtain⟨ho,-,-,-,hp,-⟩:=hn
 .unfold aH at ho
  rw[if_pos h2]at ho;simp only[XP,A4,CT]at ho;exact ho.2
 .unfold aH at ho
  split at ho
  .simp only[A4,Cy]at ho
   omega
  .split at ho
   .simp only[A4,CT]at ho
    omega
   .omega
 .simp only[Ib,A4,CT]at hp
  omega
def XG (w:AG) (f:Fact):Bool:=(BO f false).any (Ji w)
def Ud (w:AG) (a b:Fact):Bool:= !XG w (Q4 a (EL b))
def rO (a b:Fact):lv (Q4 a (EL b))=lv a+lv b:=by
 rw[Jq];simp only[aJ,Q4,Fact.op,Fact.kids,Eg,List.map_nil,List.getD_cons_zero,List.getD_cons_succ];rw[Jq (EL b)];simp[aJ,EL,Fact.op,Fact.kids]
def Vh {w:AG} {a b:Fact} (ha:BM w a=true) (hb:BM w b=true):BM w (Q4 a (EL b))=true:=by
 have hnb:BM w (EL b)=true:=by
  rw[CO];simp[EL,Dr,aH,Fact.op,Fact.kids,Fact.arg,Fact.path,Fact.cls,Fact.n,Cv,Ib,Cm,hb]
 rw[CO];simp[Q4,Dr,aH,Fact.op,Fact.kids,Fact.arg,Fact.path,Fact.cls,Fact.n,Cv,Ib,Cm,ha,hnb]
def Va {p:Prog}: ∀ {ms:List N6} {s:List Int},(runM p ms s).isSome=true-> ∀m∈ms,XB p m=true
 | [],_,_,_,h=>by cases h
 | m ::r,s,h,x,hx=>by
   rw[runM]at h;split at h
   .rename_i hok
    split at h
    .cases h
    .rcases FR.1 hx with rfl|hx
     .exact hok
     .exact Va h x hx
   .cases h
def EE {p:Prog} (h:(BZ p).isSome=true):Eh p=true/\ ∀m∈p.methods,XB p m=true:=by
 unfold BZ at h;split at h
 .rename_i hh
  refine⟨hh,?_⟩;split at h
  .cases h
  .rename_i s hs
   exact Va (by rw[hs];rfl)
 .cases h
structure ES (p:Prog):Prop where
 vB:Nr (AM p)
 AF:CU p.AQ<=As
 many0:p.AQ.length<=1000
 facts: ∀m∈p.methods,BM (AM p) m.fact=true/\lv m.fact<=12
 many:p.methods.length<=16
def look_ok {p:Prog} (h:(BZ p).isSome=true):ES p:=by
 obtain⟨hh,hm⟩:=EE h;simp only[Eh,A4,CT]at hh;have hc:=hh.1;simp only[CH,A4,CT]at hc;have hM:=Mx;refine⟨Xt hc.1 hc.2.1 hc.2.2.2.1,by have:=(HT _ _ hc.2.1).1;omega,by have:=hc.1;omega,fun m h=>?_,hh.2.2.1⟩;have:=hm m h;simp only[XB,EC,A4,CT]at this;have hn:=this.2.2.2.2.1.2.2;refine⟨hn,?_⟩;have hcn:=QD m.fact 24 (by omega) this.2.2.2.2.1.1;have:=rP m.fact (Bs _ hn);omega
def BX (p:Prog) (m:Int):Bool:=decide (0<=m)&&decide (m<(p.methods.length:Int))
def Bv (p:Prog) (m:Int):N6:=p.methods.getD m.toNat default
def Cx {p:Prog} {m:Int} (h:BX p m=true):p.methods[m.toNat]? =some (Bv p m):=by
 simp only[BX,A4,CT]at h;rw[Bv,Dh,Di (by omega)];rfl
def KM (p:Prog) (m n:Int):Bool:=(Bv p m).gen==(Bv p n).gen&&(Bv p m).kind==(Bv p n).kind
def Jj (p:Prog) (m n:Int):Bool:=Ud (AM p) (Bv p m).fact (Bv p n).fact
def Aw (p:Prog) (m n:Int):Bool:=Jj p m n&& !Jj p n m
abbrev pI (p:Int×Int):List V:=[eI p.1,eI p.2]
abbrev pP (l:List (Int×Int)):List (List V):=l.map pI
def XK (p:Prog) (g:Int):Bool:=decide (0<=g)&&decide (g<(p.Ch.length:Int))
abbrev Ob:=Int×List (Int×Int)
abbrev eOb (o:Ob):List V:=[eI o.1,.l (pP o.2) false]
end Go.Gl
namespace Go.Gl
open Go.Proofs
section
variable {H:Type} {enc:TypeId×Value->H} {W:World}
end
structure pg where
 p:Prog
 gen:Int
 ms:List Int
 cl:List Int
 st:Int
abbrev Qy (g:pg):List V:=Ba g.p++([eI g.gen]++([.l (iL g.ms) false]++([.l (iL g.cl) false]++([eI g.st]++[]))))
section
variable {H:Type} {enc:TypeId×Value->H} {W:World}
def wL:US enc Tryz.prog W 48 Qy:=fun n=>
 Ho (Fk Tryz.underlying48
  (fun n=>BE (c:=6) rfl (by kernel_rfl) (fun _=>rfl) (qg n)
   (BE (c:=1) rfl (by kernel_rfl) (fun _=>rfl) (Nw n) (BE (c:=1) rfl (by kernel_rfl) (fun _=>rfl) (Ov n)
    (BE (c:=1) rfl (by kernel_rfl) (fun _=>rfl) (Ov n) (BE (c:=1) rfl (by kernel_rfl) (fun _=>rfl) (PE Tryz.underlying34 n) Hp))))) (fun _=>(show _=10 from rfl).trans (by kernel_rfl)) n) (fun x=>⟨x.1,x.2.1,x.2.2.1,x.2.2.2.1,x.2.2.2.2.1⟩) fun _=>rfl
end
end Go.Gl
