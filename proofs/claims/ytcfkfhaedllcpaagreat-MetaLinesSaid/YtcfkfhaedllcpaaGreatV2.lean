import Derived.Laws.Cells
import Derived.Laws.Rows
import Derived.Laws.World
import Derived.Laws.Slices
import Derived.Laws.Build
import Derived.WideShapes4
import Derived.OpenShut
import Derived.Test.YtcfkfhaedllcpaaGreatV1
set_option linter.all false
set_option linter.defProp false
set_option maxHeartbeats 8000000
noncomputable section
namespace Go.Gl
def BY {H:Nat->Nat->Option Value} {g:Nat->Option Value}: ∀ {vs:List V} {o:Nat},
    BS H g o vs↔ ∀i v,vs[i]? =some v-> ∃c,g (o+i)=some c/\Aa H v c
 | [],o=>by simp[BS]
 | v ::vs,o=>by
   simp only[BS];rw[BY (vs:=vs) (o:=o+1)];constructor
   .rintro⟨h1,h2⟩ i u hu
    cases i with
    | zero=>simp at hu;subst hu;simpa using h1
    | succ i=>
      obtain⟨c,hc,hr⟩:=h2 i u (by simpa using hu);exact⟨c,by rw[<-hc];congr 1;omega,hr⟩
   .intro h
    refine⟨by simpa using h 0 v rfl,fun i u hu=>?_⟩;obtain⟨c,hc,hr⟩:=h (i+1) u (by simpa using hu);exact⟨c,by rw[<-hc];congr 1;omega,hr⟩
def BE {H:Nat->Nat->Option Value} {g:Nat->Option Value} {sz:Nat}: ∀ {es:List (List V)} {o:Nat},
    BH H g sz o es↔ ∀i e,es[i]? =some e->e.length=sz/\BS H g (o+i*sz) e
 | [],o=>by simp[BH]
 | v ::vs,o=>by
   simp only[BH];rw[BE (es:=vs) (o:=o+sz)];constructor
   .rintro⟨h1,h2,h3⟩ i u hu
    cases i with
    | zero=>simp at hu;subst hu;exact⟨h1,by simpa using h2⟩
    | succ i=>
      obtain⟨h4,h5⟩:=h3 i u (by simpa using hu);refine⟨h4,?_⟩;rw[show o+(i+1)*sz=o+sz+i*sz by rw[Nat.add_mul];omega];exact h5
   .intro h
    have h0:=h 0 v rfl;refine⟨h0.1,by simpa using h0.2,fun i u hu=>?_⟩;obtain⟨h4,h5⟩:=h (i+1) u (by simpa using hu);refine⟨h4,?_⟩;rw[show o+sz+i*sz=o+(i+1)*sz by rw[Nat.add_mul];omega];exact h5
def BC {H:Nat->Nat->Option Value} {g g':Nat->Option Value} {o o':Nat} {vs:List V} (h:BS H g o vs) (hg: ∀i,i<vs.length->g' (o'+i)=g (o+i)):BS H g' o' vs:=by
 rw[BY]at *;intro i v hv;obtain⟨c,hc,hr⟩:=h i v hv;exact⟨c,by rw[hg i (by rw[Ii]at hv;exact hv.1)];exact hc,hr⟩
def J2 {H:Nat->Nat->Option Value} {g:Nat->Option Value} {o:Nat} {vs:List V} (h:BS H g o vs) (n:Nat):BS H g (o+n) (vs.drop n):=by
 rw[BY]at *;intro i v hv;rw[w8]at hv;obtain⟨c,hc,hr⟩:=h (n+i) v hv;exact⟨c,by rw[<-hc];congr 1;omega,hr⟩
def R4 {H:Nat->Nat->Option Value} {g:Nat->Option Value} {o:Nat} {vs:List V} (h:BS H g o vs) (n:Nat):BS H g o (vs.take n):=by
 rw[BY]at *;intro i v hv;rw[List.getElem?_take]at hv;split at hv
 .exact h i v hv
 .cases hv
def OE {H:Nat->Nat->Option Value} {g:Nat->Option Value} {o:Nat} {vs us:List V} (h:BS H g o vs) (k:BS H g (o+vs.length) us):BS H g o (vs++us):=by
 rw[BY]at *;intro i v hv;rw[List.getElem?_append]at hv;split at hv
 .exact h i v hv
 .obtain⟨c,hc,hr⟩:=k _ v hv
  exact⟨c,by rw[<-hc];congr 1;omega,hr⟩
def Rel.lt {F:Nat->Prop} {Z:AE} {w:World} (h:Rel F Z w) {n:Nat} {o:O} (ho:Z n=some o):n<w.heap.size:=by
 obtain⟨_,ob,h2,_⟩:=h.own n o ho;rcases Nat.lt_or_ge n w.heap.size with h'|h'
 .exact h'
 .simp[Array.getElem?_eq_none h']at h2
def Rel.new {F:Nat->Prop} {Z:AE} {w:World} (h:Rel F Z w):Z w.heap.size=none:=by
 cases h':Z w.heap.size with
 | none=>rfl
 | some o=>exact absurd (h.lt h') (Nat.lt_irrefl _)
def Rel.step {F:Nat->Prop} {Z Z':AE} {w w':World} (h:Rel F Z w) (ha:Bw F Z w Z' w')
    (hn: ∀n o,Z' n=some o->(Z n=some o/\w'.heap[n]? =w.heap[n]?)\/(¬F n/\ ∃ob,w'.heap[n]? =some ob/\PJ (Hh F Z' w') o ob)):Rel F Z' w' where
 own n o ho:=by
  rcases hn n o ho with⟨h1,h2⟩|h1
  .obtain⟨h3,ob,h4,h5⟩:=h.own n o h1
   exact⟨h3,ob,h2.trans h4,h5.mono ha.hle⟩
  .exact h1
 lock n hl:=Nat.lt_of_lt_of_le (h.lock n hl) ha.size
def C6 (Z:AE) (n:Nat) (o:O):BV Z n o n=some o:=by simp[BV]
def CZ (Z:AE) {n m:Nat} (o:O) (h:m≠n):BV Z n o m=Z m:=by simp[BV,h]
def DQ (Z:AE) (n:Nat):del Z n n=none:=by simp[del]
def HG (Z:AE) {n m:Nat} (h:m≠n):del Z n m=Z m:=by simp[del,h]
def F3 (Z:AE) (n:Nat):Sub (del Z n) Z:=by
 intro m o h;unfold del at h;split at h
 .cases h
 .exact h
def D1 {F:Nat->Prop} {Z:AE} {w:World} (o:O) (ob:Obj):Bw F Z w (BV Z w.heap.size o) (w.alloc ob) where
 frame n hn _:=RowKit.Below.heap_alloc _ _ _ hn
 size:=by simp
 os:=rfl
 tape:=rfl
 output:=rfl
 names n h0 hn:=by rw[CZ _ _ (by omega)];exact h0
def Hs {F:Nat->Prop} {Z:AE} {w:World} (h:Rel F Z w) {o:O} {ob:Obj} (ho:PJ (Hh F Z w) o ob):Rel F (BV Z w.heap.size o) (w.alloc ob):=
 h.step (D1 o ob) fun n o' hn=>by
  by_cases e:n=w.heap.size
  .subst e
   rw[C6]at hn;cases hn;exact .inr ⟨fun hl=>absurd (h.lock _ hl) (Nat.lt_irrefl _),ob,heap_alloc_new _ _,ho.mono (D1 o ob).hle⟩
  .rw[CZ _ _ e]at hn
   exact .inl ⟨hn,RowKit.Below.heap_alloc _ _ _ (h.lt hn)⟩
def Ib {F:Nat->Prop} {Z:AE} (w:World) (ob:Obj):Bw F Z w Z (w.alloc ob) where
 frame n hn _:=RowKit.Below.heap_alloc _ _ _ hn
 size:=by simp
 os:=rfl
 tape:=rfl
 output:=rfl
 names n h0 _:=h0
def LG {F:Nat->Prop} {Z:AE} {w:World} (h:Rel F Z w) (ob:Obj):Rel F Z (w.alloc ob):=
 h.step (Ib w ob) fun _ _ hn=> .inl ⟨hn,RowKit.Below.heap_alloc _ _ _ (h.lt hn)⟩
def CO (w:World) (n:Nat) (ob:Obj):World:={w with heap:=w.heap.setIfInBounds n ob}
def OG {w:World} {n:Nat} {ob:Obj} (h:n<w.heap.size):(CO w n ob).heap[n]? =some ob:=by
 simp[CO,h]
def SH {w:World} {n m:Nat} {ob:Obj} (h:m≠n):(CO w n ob).heap[m]? =w.heap[m]? :=by
 simp only[CO];rw[Array.getElem?_setIfInBounds_ne (Ne.symm h)]
@[simp] theorem qC (w:World) (n:Nat) (ob:Obj):(CO w n ob).heap.size=w.heap.size:=by simp[CO]
def Gz {F:Nat->Prop} {Z:AE} {w:World} {n:Nat} {o:O} (hn:Z n=some o) (o':O) (ob:Obj):Bw F Z w (BV Z n o') (CO w n ob) where
 frame m _ h0:=SH (fun e=>by rw[e,hn]at h0;cases h0)
 size:=by simp
 os:=rfl
 tape:=rfl
 output:=rfl
 names m h0 _:=by rw[CZ _ _ (fun e=>by rw[e,hn]at h0;cases h0)];exact h0
def Jp {F:Nat->Prop} {Z:AE} {w:World} (h:Rel F Z w) {n:Nat} {o o':O} {ob:Obj} (hn:Z n=some o) (ho:PJ (Hh F Z w) o' ob):Rel F (BV Z n o') (CO w n ob):=
 h.step (Gz hn o' ob) fun m o'' hm=>by
  by_cases e:m=n
  .subst e
   rw[C6]at hm;cases hm;exact .inr ⟨(h.own _ _ hn).1,ob,OG (h.lt hn),ho.mono (Gz hn o' ob).hle⟩
  .rw[CZ _ _ e]at hm
   exact .inl ⟨hm,SH e⟩
def X5 {w:World} {n:Nat} {ob:Obj} (h:w.heap[n]? =some ob):n<w.heap.size:=by
 rcases Nat.lt_or_ge n w.heap.size with h'|h'
 .exact h'
 .simp[Array.getElem?_eq_none h']at h
def setCell_eq {w:World} {n i:Nat} {c:Array Value} {e:TypeId} (h:w.heap[n]? =some (.cells c e (0,0))) (v:Value) :
    w.setCell ⟨n,i,none⟩ v=CO w n (.cells (c.setIfInBounds i v) e (0,0)):=by
 unfold World.setCell CO;congr 1;apply Array.ext_getElem?;intro j;by_cases hj:n=j
 .subst hj
  rw[Array.getElem?_modify,if_pos rfl,Array.getElem?_setIfInBounds_self_of_lt (X5 h),h];rfl
 .rw[Array.getElem?_modify,if_neg hj,Array.getElem?_setIfInBounds_ne hj]
def DR {w:World} {n i:Nat} {c:Array Value} {e:TypeId} {fr:Nat×Nat} (h:w.heap[n]? =some (.cells c e fr)):w.cell? ⟨n,i,none⟩=c[i]? :=
 cell_of_row w n i c e fr h
def Qn {w:World} {n i:Nat} {c:Array Value} {e:TypeId} (h:w.heap[n]? =some (.cells c e (0,0))):w.frozen? ⟨n,i,none⟩=false:=
 frozen_of_row w n i c e h
def Ck (n o i:Nat):(⟨n,o,none⟩:Addr).add i=⟨n,o+i,none⟩:=by
 unfold Addr.add;split
 .subst_vars;rfl
 .rfl
def Cy:Array Value->Nat->List Value->Array Value
 | c,_,[]=>c
 | c,o,v::vs=>Cy (c.setIfInBounds o v) (o+1) vs
def Du: ∀(vs:List Value) (c:Array Value) (o:Nat),(Cy c o vs).size=c.size
 | [],_,_=>rfl
 | v::vs,c,o=>by simp only[Cy];rw[Du vs];simp
def cI {w:World} {n:Nat} {ob:Obj} (h:w.heap[n]? =some ob):CO w n ob=w:=by
 unfold CO
 have:w.heap.setIfInBounds n ob=w.heap:=by
  apply Array.ext_getElem?;intro j;by_cases hj:n=j
  .subst hj
   rw[Array.getElem?_setIfInBounds_self_of_lt (X5 h),h]
  .rw[Array.getElem?_setIfInBounds_ne hj]
 rw[this]
def Rf (w:World) (n:Nat) (a b:Obj):CO (CO w n a) n b=CO w n b:=by
 simp[CO]
def Cl {P:Program} {n:Nat} {e:TypeId}: ∀(vs:List Value) (w:World) (c:Array Value) (o i:Nat),w.heap[n]? =some (.cells c e (0,0))->
    o+i+vs.length<=c.size->(∀v∈vs,v.oneCell'=true)->
    (storeCells ⟨n,o,none⟩ vs i).run P w= .ok () (CO w n (.cells (Cy c (o+i) vs) e (0,0)))
 | [],w,c,o,i,h,_,_=>by
   simp only[storeCells,Ep,Cy];rw[cI h]
 | v::vs,w,c,o,i,h,hl,hv=>by
   have hlt:o+i<c.size:=by simp at hl;omega
   have h1:w.cell? ⟨n,o+i,none⟩=some c[o+i]:=by rw[DR h];rw[Array.getElem?_eq_getElem hlt]
   have hone:=hv v (by simp);simp only[storeCells,DM,Ck,run_store P w _ v _ hone,h1,Qn h,KQ,if_false,Result.andThen];rw[setCell_eq h];rw[Cl vs _ (c.setIfInBounds (o+i) v) o (i+1) (OG (X5 h)) (by simp at hl ⊢;omega) (fun u hu=>hv u (by simp[hu]))];rw[Rf];rfl
end Go.Gl
namespace Go.Gl
def lQ:Value->Option V
 | .bool b=>some (.b b)
 | .int k n=>if k.min<=n/\n<=k.max then some (.i k n)else none
 | .string s=>some (.s s)
 | .pointer none=>some .pn
 | .slice none 0 0=>some (.l [] true)
 | .map none=>some .mn
 | .nilFunc=>some .Lf
 | .nilIface=>some .De
 | _=>none
def ee:List Value->Option (List V)
 | []=>some []
 | c::cs=>match lQ c,ee cs with
   | some v,some vs=>some (v::vs)
   | _,_=>none
def qD:Value->Option V
 | .agg cs=>(ee cs.toList).map .a
 | .tuple cs=>if cs.size=0 then some (.t [])else none
 | c=>lQ c
def BT:Operand->Option Bi
 | .tmp t=>some (.t t)
 | .const v=>(qD v).map .c
 | .func f=>some (.c (.f (.func f) [] []))
 | .global _=>none
def KT:List Operand->Option (List Bi)
 | []=>some []
 | x::r=>match BT x,KT r with
   | some v,some vs=>some (v::vs)
   | _,_=>none
def bV:Option Operand->Option (Option Bi)
 | none=>some none
 | some x=>(BT x).map some
def EA (P:Program) (t:TypeId):Option Nat:=(P.info? t).map (·.size)
def Iy (P:Program) (t:TypeId):Option (Option Nat):=
 match P.underlying t with
 | some (.struct _)=>(EA P t).map some
 | some (.array _ _)=>(EA P t).map some
 | some _=>some none
 | none=>none
def zeroOf (P:Program) (t:TypeId):Option V:=(((P.info? t).bind (·.zero))).bind qD
def isInt (P:Program) (t:TypeId):Bool:=match P.underlying t with|some (.int _)=>true|_=>false
def isBool (P:Program) (t:TypeId):Bool:=match P.underlying t with|some .bool=>true|_=>false
def xa (P:Program) (op:BinOp) (t:TypeId) (x y:Bi):Option Fx:=
 if isInt P t then some (.bin op x y)
 else if isBool P t then match op with
  | .eql=>some (.lC false x y)
  | .neq=>some (.lC true x y)
  | _=>none
 else none
def Tf (fields:Array Field) (P:Program):List (Nat×Operand)->Option (List (Nat×Nat×Bi))
 | []=>some []
 | (i,x)::r=>match fields[i]?,BT x,Tf fields P r with
   | some f,some o,some ps=>(EA P f.type).map fun s=>(f.offset,s,o)::ps
   | _,_,_=>none
def Ou (sz:Nat):List (Nat×Operand)->Option (List (Nat×Nat×Bi))
 | []=>some []
 | (i,x)::r=>match BT x,Ou sz r with
   | some o,some ps=>some ((i*sz,sz,o)::ps)
   | _,_=>none
def Ot:List (Nat×Operand)->Option (List (Nat×Bi))
 | []=>some []
 | (i,x)::r=>match BT x,Ot r with
   | some o,some ps=>some ((i,o)::ps)
   | _,_=>none
def K2:Option V->Option (List V)
 | some (.a cs)=>some cs
 | some (.t _)=>none
 | some .any=>none
 | some v=>some [v]
 | none=>none
def fP (P:Program) (c:Call):Option Fx:=
 match c.callee,c.args.toList,c.argTypes.toList with
 | .builtin .len,[x],[t]=>match P.underlying t with
   | some (.slice _)=>(BT x).map .len
   | some (.map _ _)=>(BT x).map .TU
   | some (.array n _)=>if(n:Int)<=IntKind.i64.max then some (.mv (.c (.i .i64 n)))else none
   | _=>none
 | .builtin .append,[x,y],[t,u]=>match P.underlying t,P.underlying u with
   | some (.slice e),some (.slice _)=>match BT x,BT y,P.info? e with
     | some x',some y',some i=>if t=u/\i.bytes<=4096/\i.zero.map (fun z=>z.cells.size)=some i.size then some (.append i.size i.bytes x' y')else none
     | _,_,_=>none
   | _,_=>none
 | .builtin .max,[x,y],_=>match BT x,BT y with|some x',some y'=>some (.U3 x' y')|_,_=>none
 | .builtin .min,[x,y],_=>match BT x,BT y with|some x',some y'=>some (.U2 x' y')|_,_=>none
 | .value (.func f),_,_=>(KT c.args.toList).map (.call f)
 | .value x,_,_=>match BT x,KT c.args.toList with|some x',some as=>some (.Ix x' as)|_,_=>none
 | _,_,_=>none
def zq (P:Program):Op->Option Fx
 | .move x=>(BT x).map .mv
 | .assign x=>(BT x).map .mv
 | .pick c a b=>match BT c,BT a,BT b with|some c,some a,some b=>some (.pick c a b)|_,_,_=>none
 | .box _ x=>(BT x).map .box
 | .alloc e=>(K2 (zeroOf P e)).map .alloc
 | .build t parts=>match K2 (zeroOf P t),P.underlying t with
   | some z,some (.struct fields)=>if fields.toList.all (fun f=>(EA P f.type).isSome)then(Tf fields P parts.toList).map (.build z)else none
   | some z,some (.array _ e)=>(EA P e).bind fun sz=>(Ou sz parts.toList).map (.build z)
   | _,_=>none
 | .buildSlice t len parts=>match P.underlying t with
   | some (.slice e)=>match K2 (zeroOf P e),EA P e with
     | some z,some sz=>if z.length=sz/\0<sz/\0<len/\len*sz<=2 ^ 24 then(Ot parts.toList).map (.Dm sz len z)else none
     | _,_=>none
   | _=>none
 | .load t x=>match Iy P t,BT x with|some a,some x=>some (.load a x)|_,_=>none
 | .store t a x=>match EA P t,BT a,BT x with|some s,some a,some x=>some (.store s a x)|_,_,_=>none
 | .binOp op t x y _=>match BT x,BT y with|some x,some y=>xa P op t x y|_,_=>none
 | .unOp .not _ x=>(BT x).map .not
 | .unOp .neg t x=>if isInt P t then(BT x).map (.neg false)else none
 | .unOp .xor t x=>if isInt P t then(BT x).map (.neg true)else none
 | .convert s d x=>match P.underlying s,P.underlying d with
   | some (.int _),some (.int k)=>(BT x).map (.conv k)
   | _,_=>none
 | .makeInterface t x=>match P.underlying t with
   | some (.interface _)=>none
   | some _=>(BT x).map (.N6 t)
   | none=>none
 | .makeFunc (.func f) first cap=>match KT first.toList,KT cap.toList with|some a,some b=>some (.Y6 (.func f) a b)|_,_=>none
 | .slice t x lo hi mx=>match P.underlying t with
   | some (.slice e)=>match EA P e,BT x,bV lo,bV hi,bV mx with
     | some s,some x,some l,some h,some m=>if 0<s/\(m.isSome->h.isSome)then some (.slice s x l h m)else none
     | _,_,_,_,_=>none
   | _=>none
 | .fieldAddr s x f=>match P.underlying s with
   | some (.struct fields)=>match fields[f]? with
     | some fd=>match EA P fd.type with
       | some sz=>if sz=0 then none else(BT x).map (.Ba fd.offset)
       | none=>none
     | none=>none
   | _=>none
 | .field t x f=>match P.underlying t with
   | some (.struct fields)=>match fields[f]? with
     | some fd=>match Iy P fd.type,BT x with|some a,some x=>some (.field a fd.offset x)|_,_=>none
     | none=>none
   | _=>none
 | .indexAddr t x i=>match P.underlying t with
   | some (.slice e)=>match EA P e,BT x,BT i with|some s,some x,some i=>some (.JU s none x i)|_,_,_=>none
   | some (.array n e)=>match EA P e,BT x,BT i with|some s,some x,some i=>some (.JU s (some n) x i)|_,_,_=>none
   | _=>none
 | .index t x i=>match P.underlying t with
   | some (.array n e)=>match EA P e,Iy P e,BT x,BT i with|some s,some a,some x,some i=>some (.index n s a x i)|_,_,_,_=>none
   | _=>none
 | .extract x i=>(BT x).map (.extract i)
 | .nilCheck x=>(BT x).map .Ec
 | .typeAssert x _ t ok=>match P.underlying t with
   | some (.interface _)=>none
   | some _=>match BT x,zeroOf P t with|some x,some z=>some (.bM t z ok x)|_,_=>none
   | none=>none
 | .panic x=>(BT x).map .panic
 | .call c=>fP P c
 | _=>none
def CX (F:Nat->Prop) (Z:AE) (w:World) (k kp:V->AE->Prop):Result Value->Prop
 | .ok c w'=> ∃v Z',k v Z'/\Aa (Hh F Z' w') v c/\Rel F Z' w'/\Bw F Z w Z' w'
 | .halt (.panic c) w'=> ∃v Z',kp v Z'/\Aa (Hh F Z' w') v c/\Rel F Z' w'/\Bw F Z w Z' w'
 | _=>False
def Good (P:Program) (F:Nat->Prop) (Z:AE) (w:World) (k kp:V->AE->Prop):Result Next->Prop
 | .ok (.value c) w'=> ∃v Z',k v Z'/\Aa (Hh F Z' w') v c/\Rel F Z' w'/\Bw F Z w Z' w'
 | .ok .skip w'=> ∃Z',k (.t []) Z'/\Rel F Z' w'/\Bw F Z w Z' w'
 | .ok (.enter f args) w'=>Calls P f args w' fun e w''=> ∃r Z',qk k kp r Z'/\VI (Hh F Z' w'') r e/\Rel F Z' w''/\Bw F Z w Z' w''
 | .ok (.round l f tmps assign body) w'=>RoundIn Fence.wide 0 P l f tmps assign body w' fun e w''=> ∃r Z',qk k kp r Z'/\VI (Hh F Z' w'') r e/\Rel F Z' w''/\Bw F Z w Z' w''
 | .halt (.panic c) w'=> ∃v Z',kp v Z'/\Aa (Hh F Z' w') v c/\Rel F Z' w'/\Bw F Z w Z' w'
 | _=>False
def Az {P:Program} {F:Nat->Prop} {Z:AE} {w:World} {k kp:V->AE->Prop} {s:Sem Value} (h:CX F Z w k kp (s.run P w)) :
    Good P F Z w k kp ((do pure (.value (<-s)):Sem Next).run P w):=by
 simp only[DM];generalize s.run P w=r at *;cases r with
 | ok c w'=>exact h
 | halt x w'=>cases x<;>first|exact h|exact h.elim
def FY {F:Nat->Prop} {Z:AE} {w:World} {k kp:V->AE->Prop} (hR:Rel F Z w) {v:V} {c:Value} (hv:Aa (Hh F Z w) v c) (hk:k v Z):CX F Z w k kp (.ok c w):=
 ⟨v,Z,hk,hv,hR,Bw.refl _ _ _⟩
def Au {F:Nat->Prop} {Z:AE} {w:World} {k kp:V->AE->Prop} (hR:Rel F Z w) {v:V} {c:Value} (hk:k v Z) (hv:Aa (Hh F Z w) v c):CX F Z w k kp (.ok c w):=
 FY hR hv hk
def CG (H:Nat->Nat->Option Value) (env:Env) (tmps:Array Value):Prop:= ∀k v,get k env=some v-> ∃c,tmps[k]? =some c/\Aa H v c
def CG.mono {H H':Nat->Nat->Option Value} (hle:ZB H H') {env:Env} {tmps:Array Value} (h:CG H env tmps):CG H' env tmps:=
 fun k v hv=>let⟨c,h1,h2⟩:=h k v hv;⟨c,h1,h2.mono hle⟩
def Vr {H:Nat->Nat->Option Value} {c:Value} {v:V} (h:lQ c=some v):Aa H v c:=by
 unfold lQ at h
 split at h<;>first
  | (cases h;simp[Aa];done)
  | (split at h<;>first|(rename_i hc;cases h;simpa[Aa]using hc)|cases h)
  | cases h
 .exact⟨none,0,rfl,by simp,by simp,by simp,by simp,by simp⟩
def Vq {H:Nat->Nat->Option Value}: ∀ {cs:List Value} {vs:List V},ee cs=some vs->cs.length=vs.length/\BS H (fun i=>cs[i]?) 0 vs
 | [],vs,h=>by cases h;exact⟨rfl,trivial⟩
 | c ::cs,vs,h=>by
   simp only[ee]at h;split at h
   .rename_i v vs' h1 h2
    cases h;obtain⟨h3,h4⟩:=Vq (H:=H) h2;refine⟨by simp[h3],⟨c,by simp,Vr h1⟩,?_⟩;exact BC h4 (fun i _=>by rw[show 0+1+i=i+1 by omega];simp)
   .cases h
def Gu {H:Nat->Nat->Option Value} {c:Value} {v:V} (h:qD c=some v):Aa H v c:=by
 unfold qD at h;split at h
 .rename_i cs
  cases hq:ee cs.toList with
  | none=>rw[hq]at h;cases h
  | some vs=>
    rw[hq]at h;cases h;obtain⟨h1,h2⟩:=Vq (H:=H) hq;refine⟨cs,rfl,by simpa using h1,BC h2 (fun i _=>by simp)⟩
 .rename_i cs
  split at h
  .rename_i h0
   cases h;exact⟨cs,rfl,by simpa using h0,trivial⟩
  .cases h
 .exact Vr h
def Aq {H:Nat->Nat->Option Value} {env:Env} {a:Act} (he:CG H env a.tmps) {x:Operand} {o:Bi} (ho:BT x=some o) {v:V} (hv:ev env o=some v):Aa H v (a.eval x):=by
 cases x with
 | tmp t=>
   cases ho;obtain⟨c,h1,h2⟩:=he t v hv;simp only[Act.eval,Array.getD_eq_getD_getElem?,h1,Option.getD_some];exact h2
 | const c=>
   simp only[BT]at ho;cases hq:qD c with
   | none=>rw[hq]at ho;cases ho
   | some u=>
     rw[hq]at ho;cases ho;cases hv;exact Gu hq
 | func f=>
   cases ho;cases hv;exact⟨#[],#[],rfl,rfl,trivial,rfl,trivial⟩
 | global g=>cases ho
def aP {H:Nat->Nat->Option Value} {env:Env} {a:Act} (he:CG H env a.tmps): ∀ {xs:List Operand} {os:List Bi},KT xs=some os-> ∀ {vs:List V},Uu env os=some vs->
    xs.length=vs.length/\BS H (fun i=>(xs.map a.eval)[i]?) 0 vs
 | [],os,ho,vs,hv=>by cases ho;cases hv;exact⟨rfl,trivial⟩
 | x ::xs,os,ho,vs,hv=>by
   simp only[KT]at ho;split at ho
   .rename_i o os' h1 h2
    cases ho;simp only[Uu]at hv;split at hv
    .rename_i v vs' h3 h4
     cases hv;obtain⟨h5,h6⟩:=aP he h2 h4;refine⟨by simp[h5],⟨a.eval x,by simp,Aq he h1 h3⟩,?_⟩;exact BC h6 (fun i _=>by rw[show 0+1+i=i+1 by omega];simp)
    .cases hv
   .cases ho
def Aj {o:Option V} {k:V->Prop} (h:wv o k): ∃v,o=some v/\k v:=by
 cases o with
 | none=>exact h.elim
 | some v=>exact⟨v,rfl,h⟩
def IE {o:Option (List V)} {k:List V->Prop} (h:ws o k): ∃v,o=some v/\k v:=by
 cases o with
 | none=>exact h.elim
 | some v=>exact⟨v,rfl,h⟩
def ZW {o:Option (List (List V))} {k:List (List V)->Prop} (h:wr o k): ∃v,o=some v/\k v:=by
 cases o with
 | none=>exact h.elim
 | some v=>exact⟨v,rfl,h⟩
def T4 {o:Option (Option V)} {k:Option V->Prop} (h:wo o k): ∃v,o=some v/\k v:=by
 cases o with
 | none=>exact h.elim
 | some v=>exact⟨v,rfl,h⟩
end Go.Gl
namespace Go.Gl
variable {P:Program} {F:Nat->Prop} {Z:AE} {w:World} {k kp:V->AE->Prop}
def Mk {t:TypeId} {n:Nat} (h:EA P t=some n): ∃i,P.info? t=some i/\i.size=n:=by
 unfold EA at h;cases hi:P.info? t with
 | none=>rw[hi]at h;cases h
 | some i=>rw[hi]at h;cases h;exact⟨i,rfl,rfl⟩
def ED {t:TypeId} {n:Nat} (h:EA P t=some n) (w:World):(sizeOf t).run P w= .ok n w:=by
 obtain⟨i,h1,h2⟩:=Mk h;simp[sizeOf,typeInfo,h1,h2]
def BI {t:TypeId} {d:TypeDesc} (h:P.underlying t=some d) (w:World):(underlying t).run P w= .ok d w:=by
 simp[underlying,h]
def ET {t:TypeId} {z:V} (h:zeroOf P t=some z) (w:World): ∃c,(zeroValue t).run P w= .ok c w/\qD c=some z:=by
 unfold zeroOf at h;cases hi:P.info? t with
 | none=>rw[hi]at h;cases h
 | some i=>
   rw[hi]at h;cases hz:i.zero with
   | none=>simp[hz]at h
   | some c=>
     refine⟨c,by simp[zeroValue,typeInfo,hi,hz],?_⟩;simpa[hz]using h
def Wm {t:TypeId} {z:V} (h:zeroOf P t=some z): ∃i c,P.info? t=some i/\i.zero=some c/\qD c=some z:=by
 unfold zeroOf at h;cases hi:P.info? t with
 | none=>rw[hi]at h;cases h
 | some i=>
   rw[hi]at h;cases hz:i.zero with
   | none=>simp[hz]at h
   | some c=>exact⟨i,c,rfl,hz,by simpa[hz]using h⟩
def SI {t:TypeId} {a:Option Nat} (h:Iy P t=some a) (w:World):(isAgg t).run P w= .ok a.isSome w/\ ∀n,a=some n->(sizeOf t).run P w= .ok n w:=by
 unfold Iy at h;cases hu:P.underlying t with
 | none=>rw[hu]at h;cases h
 | some d=>
   rw[hu]at h;unfold isAgg;simp only[DM,BI hu,Result.andThen]
   cases d<;>simp only at h ⊢ <;>first
    | (cases h;exact⟨rfl,fun n e=>by cases e⟩)
    | (cases hs:EA P t with
       | none=>rw[hs]at h;cases h
       | some n=>rw[hs]at h;cases h;exact⟨rfl,fun n e=>by cases e;exact ED hs w⟩)
def Ud {g:Nat->Option Value} {b o n:Nat} {vs:List V} {H:Nat->Nat->Option Value} (hg: ∀i c,g i=some c->w.cell? ⟨b,i,none⟩=some c) (hv:BS H g o vs) (hn:vs.length=n) :
    ∃cs:Array Value,(loadCells ⟨b,o,none⟩ n).run P w= .ok cs w/\cs.size=n/\BS H (fun i=>cs[i]?) 0 vs:=by
 rw[BY]at hv
 have hch: ∀i,i<n-> ∃c,g (o+i)=some c:=fun i hi=>by
  obtain⟨c,hc,_⟩:=hv i vs[i] (Cw (by omega));exact⟨c,hc⟩
 let f:Nat->Value:=fun i=>(g (o+i)).getD undef
 refine⟨((List.range n).map f).toArray,?_,by simp,?_⟩
 .rw[run_loadCells w _ n f (fun j hj=>by
   obtain⟨c,hc⟩:=hch j hj;rw[Ck,hg _ _ hc]
   simp[f,hc])]
 .rw[BY]
  intro i v hi;obtain⟨c,hc,hr⟩:=hv i v hi;have hlt:i<n:=by rw[<-hn];exact(Ii.1 hi).1
  refine⟨c,?_,hr⟩;simp[f,hc,hlt]
def FW {t:TypeId} {agg:Option Nat} (hA:Iy P t=some agg) {g:Nat->Option Value} {b o off:Nat} {vs:List V} {H:Nat->Nat->Option Value} (hg: ∀i c,g i=some c->w.cell? ⟨b,i,none⟩=some c) (hv:BS H g o vs)
    {K:V->Prop} (hk:cut agg vs off K): ∃v c,(loadVar t ⟨b,o+off,none⟩).run P w= .ok c w/\Aa H v c/\K v:=by
 obtain⟨h1,h2⟩:=SI hA w;unfold loadVar;simp only[DM,h1,Result.andThen];cases agg with
 | none=>
   simp only[cut]at hk;split at hk
   .rename_i v hv'
    obtain⟨c,hc,hr⟩:=BY.1 hv off v hv';refine⟨v,c,?_,hr,hk⟩;simp[hg _ _ hc]
   .exact hk.elim
 | some n=>
   simp only[cut]at hk;obtain⟨cs,h3,h4,h5⟩:=Ud (P:=P) (n:=n) hg (R4 (J2 hv off) n) (by simp;omega);refine⟨.a ((vs.drop off).take n),.agg cs,?_,⟨cs,rfl,by simp[h4];omega,h5⟩,hk.2⟩;simp[h2 n rfl,h3]
def KA (hR:Rel F Z w) {n:Nat} {vs:List V} (h:Z n=some (.cs vs)): ∃c e,w.heap[n]? =some (.cells c e (0,0))/\c.size=vs.length/\BS (Hh F Z w) (fun i=>c[i]?) 0 vs:=by
 obtain⟨_,ob,h2,c,e,rfl,h4,h5⟩:=hR.own n _ h;exact⟨c,e,h2,h4,h5⟩
def E2 (hR:Rel F Z w) {n sz cap:Nat} {es:List (List V)} (h:Z n=some (.arr sz es cap)): ∃c e,w.heap[n]? =some (.cells c e (0,0))/\cap*sz<=c.size/\es.length<=cap/\es.length<=AX/\BH (Hh F Z w) (fun i=>c[i]?) sz 0 es:=by
 obtain⟨_,ob,h2,c,e,rfl,h4,h5⟩:=hR.own n _ h;exact⟨c,e,h2,h4,h5⟩
def Yb {t:TypeId} {agg:Option Nat} (hA:Iy P t=some agg) (hR:Rel F Z w) {vx:V} {c:Value} (hx:Aa (Hh F Z w) vx c) (h:AY Z agg vx fun v=>k v Z) :
    CX F Z w k kp ((Instr.loadAt t c).run P w):=by
 unfold Instr.loadAt;unfold AY at h;split at h
 .rename_i cs
  obtain⟨b,o,rfl,hv⟩:=hx;obtain⟨v,c,h1,h2,h3⟩:=FW (P:=P) (w:=w) (b:=b) (off:=0) hA (fun i c hc=>(F8 hc).2.2) hv h;simp only[DM,Instr.sureAddr,Ep,Result.andThen,Nat.add_zero]at h1 ⊢;rw[h1];exact FY hR h2 h3
 .rename_i n off
  simp only[Aa]at hx;subst hx;unfold PM at h;split at h
  .rename_i vs hs
   obtain⟨c,e,h1,h2,h3⟩:=KA hR hs;obtain⟨v,c',h4,h5,h6⟩:=FW (P:=P) (w:=w) (b:=n) (off:=off) hA (fun i c hc=>by rw[DR h1];exact hc) h3 h;simp only[DM,Instr.sureAddr,Ep,Result.andThen,G3]at h4 ⊢;rw[h4];exact FY hR h5 h6
  .exact h.elim
 .rename_i n sz i off
  simp only[Aa]at hx;subst hx;unfold PN at h;split at h
  .rename_i sz' es cap hs
   obtain⟨rfl,h⟩:=h;split at h
   .rename_i e he
    obtain⟨c,e',h1,_,_,_,h3⟩:=E2 hR hs;obtain⟨h7,h8⟩:=BE.1 h3 i e he;obtain⟨v,c',h4,h5,h6⟩:=FW (P:=P) (w:=w) (b:=n) (off:=off) hA (fun i c hc=>by rw[DR h1];exact hc) h8 h;simp only[DM,Instr.sureAddr,Ep,Result.andThen,G3]at h4 ⊢;rw[h4];exact FY hR h5 h6
   .exact h.elim
  .exact h.elim
 .exact h.elim
def Cv {H:Nat->Nat->Option Value} {v:V} {c:Value} (hv:Aa H v c) {vs:List V} (h:cellsOf v=some vs):c.cells.size=vs.length/\BS H (fun i=>c.cells[i]?) 0 vs:=by
 cases v<;>simp only[cellsOf]at h<;>first
  | (cases h;done)
  | (cases h
     have hc:c.cells= #[c]:=by
      first
       | (simp only[Aa]at hv;subst hv;rfl)
       | (simp only[Aa]at hv;obtain⟨rfl,_⟩:=hv;rfl)
       | (simp only[Aa]at hv;obtain⟨_,rfl,_⟩:=hv;rfl)
       | (simp only[Aa]at hv;obtain⟨_,_,rfl,_⟩:=hv;rfl)
     rw[hc]
     exact⟨rfl,⟨c,rfl,hv⟩,trivial⟩)
  | skip
 rename_i cs;cases h;obtain⟨c',rfl,h2,h3⟩:=hv;exact⟨h2,h3⟩
def Ps {H:Nat->Nat->Option Value} {v:V} {c:Value} (hv:Aa H v c) (h:CE v=true):c.oneCell'=true:=by
 cases v<;>first
  | (simp[CE]at h;done)
  | (simp only[Aa]at hv;subst hv;rfl)
  | (simp only[Aa]at hv;obtain⟨rfl,_⟩:=hv;rfl)
  | (simp only[Aa]at hv;obtain⟨_,rfl,_⟩:=hv;rfl)
  | (simp only[Aa]at hv;obtain⟨_,_,rfl,_⟩:=hv;rfl)
def jG {H:Nat->Nat->Option Value} {vs:List V} {c:Array Value} (hs:c.size=vs.length) (hv:BS H (fun i=>c[i]?) 0 vs) (h:vs.all CE=true): ∀u∈c.toList,u.oneCell'=true:=by
 intro u hu;obtain⟨i,hi⟩:=List.mem_iff_getElem?.1 hu;have hlt:i<vs.length:=by rw[<-hs];have:=(Ii.1 hi).1;simpa using this
 obtain⟨d,hd,hr⟩:=BY.1 hv i vs[i] (Cw hlt);have:d=u:=by simp only[G3]at hd;rw[Array.getElem?_toList]at hi;rw[hi]at hd;cases hd;rfl
 subst this;exact Ps hr (Er.1 h _ (List.getElem_mem hlt))
def E5: ∀(us cs:List V) (o:Nat),(putAt cs o us).length=cs.length
 | [],_,_=>rfl
 | u::us,cs,o=>by simp only[putAt];rw[E5 us];simp
def iY {H:Nat->Nat->Option Value} {c:Array Value} {vs:List V} {i:Nat} {v:V} {d:Value} (hs:c.size=vs.length) (h:BS H (fun i=>c[i]?) 0 vs) (hv:Aa H v d) :
    BS H (fun j=>(c.setIfInBounds i d)[j]?) 0 (vs.set i v):=by
 rw[BY]at *;intro j u hu;simp only[G3]at h ⊢;rw[List.getElem?_set]at hu;split at hu
 .rename_i e
  subst e;split at hu
  .rename_i hlt
   cases hu;exact⟨d,by rw[Array.getElem?_setIfInBounds_self_of_lt (by omega)],hv⟩
  .cases hu
 .rename_i e
  obtain⟨c',h1,h2⟩:=h j u hu;exact⟨c',by rw[Array.getElem?_setIfInBounds_ne e];exact h1,h2⟩
def MB {H:Nat->Nat->Option Value}: ∀ {us:List V} {ds:List Value} {c:Array Value} {vs:List V} {o:Nat},c.size=vs.length->BS H (fun i=>c[i]?) 0 vs->ds.length=us.length->BS H (fun i=>ds[i]?) 0 us->
    BS H (fun i=>(Cy c o ds)[i]?) 0 (putAt vs o us)
 | [],[],c,vs,o,_,h,_,_=>h
 | u::us,d::ds,c,vs,o,hs,h,hl,hu=>by
   simp only[Cy,putAt];obtain⟨⟨d',hd,hr⟩,hu'⟩:=hu;have e:d'=d:=by simp at hd;exact hd.symm
   subst e;exact MB (by simpa using hs) (iY hs h hr) (by simpa using hl) (BC hu' (fun i _=>by rw[show 0+1+i=i+1 by omega];simp))
 | [],_::_,_,_,_,_,_,hl,_=>by simp at hl
 | _::_,[],_,_,_,_,_,hl,_=>by simp at hl
def DI: ∀(ds:List Value) (c:Array Value) (o i:Nat),(i<o\/o+ds.length<=i)->(Cy c o ds)[i]? =c[i]?
 | [],_,_,_,_=>rfl
 | d::ds,c,o,i,h=>by
   simp only[Cy];rw[DI ds _ _ _ (by simp at h;omega),Array.getElem?_setIfInBounds_ne (by simp at h;omega)]
def GH: ∀(ds:List Value) (c:Array Value) (o i:Nat),i<ds.length->o+ds.length<=c.size->(Cy c o ds)[o+i]? =ds[i]?
 | d ::ds,c,o,i,h,hs=>by
   simp only[Cy];cases i with
   | zero=>
     simp at hs;rw[DI ds _ _ _ (by omega),Nat.add_zero,Array.getElem?_setIfInBounds_self_of_lt (by omega)];rfl
   | succ i=>
     rw[show o+(i+1)=o+1+i by omega,GH ds _ _ i (by simpa using h) (by simp at hs ⊢;omega)];simp
 | [],_,_,_,h,_=>by simp at h
def XA {t : TypeId} {sz:Nat} (hS:EA P t=some sz) (hR:Rel F Z w) {va vx:V} {ca cx:Value} (ha:Aa (Hh F Z w) va ca) (hx:Aa (Hh F Z w) vx cx)
    (h:AT Z sz va vx fun Z'=>k (.t []) Z'): ∃Z' w',(Instr.storeAt t ca cx).run P w= .ok () w'/\k (.t []) Z'/\Rel F Z' w'/\Bw F Z w Z' w':=by
 unfold AT at h;split at h
 .rename_i vc hc
  obtain⟨hlen,hone,h⟩:=h;obtain⟨hcs,hcv⟩:=Cv hx hc;have h1s:=jG hcs hcv hone;have hcv':BS (Hh F Z w) (fun i=>cx.cells.toList[i]?) 0 vc:=BC hcv (fun i _=>by simp)
  have hrun: ∀n o,ca= .pointer (some ⟨n,o,none⟩)->(Instr.storeAt t ca cx).run P w=(storeCells ⟨n,o,none⟩ cx.cells.toList).run P w:=by
   rintro n o rfl;have:cx.cells.size=sz:=by omega
   simp[Instr.storeAt,Instr.sureAddr,storeVar,ED hS,this]
  split at h
  .rename_i n off
   split at h
   .rename_i vs hs
    obtain⟨hle,hk⟩:=h;simp only[Aa]at ha;obtain⟨c,e,h1,h2,h3⟩:=KA hR hs;refine⟨_,CO w n (.cells (Cy c off cx.cells.toList) e (0,0)),?_,hk,?_,Gz hs _ _⟩
    .rw[hrun n off ha,Cl cx.cells.toList w c off 0 h1 (by simp;omega) h1s]
     rfl
    .exact Jp hR hs ⟨_,e,rfl,by rw[Du,E5];exact h2,MB h2 h3 (by simp;omega) hcv'⟩
   .exact h.elim
  .rename_i n s i off
   split at h
   .rename_i s' es cap hs
    obtain⟨rfl,h⟩:=h;split at h
    .rename_i e he
     obtain⟨hle,hk⟩:=h;simp only[Aa]at ha;obtain⟨c,et,h1,h2,h3,h4,h5⟩:=E2 hR hs;obtain⟨h6,h7⟩:=BE.1 h5 i e he;have hi:i<es.length:=(Ii.1 he).1
     have hb:i*s+s<=c.size:=by
      rw[<-Nat.succ_mul];exact Nat.le_trans (Uo _ (by omega)) h2
     refine⟨_,CO w n (.cells (Cy c (i*s+off) cx.cells.toList) et (0,0)),?_,hk,?_,Gz hs _ _⟩
     .rw[hrun n _ ha,Cl cx.cells.toList w c _ 0 h1 (by simp;omega) h1s]
      rfl
     .refine Jp hR hs ⟨_,et,rfl,by rw[Du];exact h2,by simpa using h3,by simpa using h4,?_⟩
      rw[BE];intro j u hu;rw[List.getElem?_set]at hu;split at hu
      .rename_i ej
       subst ej;cases hu;refine⟨by rw[E5];exact h6,?_⟩
       have hrow:BS (Hh F Z w) (fun q=>(c.extract (i*s) (i*s+s))[q]?) 0 e:=by
        refine BC h7 (fun q hq=>?_);simp only[G3];rw[Array.getElem?_extract_of_lt (by omega)];exact(Array.getElem?_eq_getElem (by omega)).symm
       have:=MB (o:=off) (by simp;omega) hrow (by simp;omega) hcv';refine BC this (fun q hq=>?_);rw[E5]at hq;simp only[G3];by_cases hin:off<=q/\q<off+cx.cells.toList.length
       .obtain⟨r,rfl⟩: ∃r,q=off+r:=⟨q - off,by omega⟩
        rw[show i*s+(off+r)=i*s+off+r by omega,GH _ _ _ _ (by omega) (by simp;omega),GH _ _ _ _ (by omega) (by simp;omega)]
       .rw[DI _ _ _ _ (by omega),DI _ _ _ _ (by omega),Array.getElem?_extract_of_lt (by omega)]
        exact Array.getElem?_eq_getElem (by omega)
      .rename_i ej
       obtain⟨h8,h9⟩:=BE.1 h5 j u hu;refine⟨h8,BC h9 (fun q hq=>?_)⟩;rw[DI];rcases Nat.lt_or_ge j i with hji|hji
       .left
        have:(j+1)*s<=i*s:=Uo _ hji;rw[Nat.succ_mul]at this;omega
       .right
        have:(i+1)*s<=j*s:=Uo _ (by omega);rw[Nat.succ_mul]at this;simp;omega
    .exact h.elim
   .exact h.elim
  .exact h.elim
 .exact h.elim
end Go.Gl
namespace Go.Gl
variable {P:Program} {F:Nat->Prop} {Z:AE} {w:World} {k kp:V->AE->Prop}
def Sk (hR:Rel F Z w) {cells:Array Value} {e:TypeId} {cs:List V} (hs:cells.size=cs.length) (hv:BS (Hh F Z w) (fun i=>cells[i]?) 0 cs)
    (h: ∀n,Z n=none->k (.p n 0) (BV Z n (.cs cs))):CX F Z w k kp ((do pure (.pointer (some (<-newRow e cells))):Sem Value).run P w):=by
 simp only[newRow,DM,run_newObj,Ep,Result.andThen,World.alloc_eq];exact⟨.p w.heap.size 0,_,h _ hR.new,rfl,Hs hR ⟨cells,e,rfl,hs,hv⟩,D1 _ _⟩
def dI (e:TypeId) (hR:Rel F Z w) {vx:V} {c:Value} (hx:Aa (Hh F Z w) vx c) {cs:List V} (hc:cellsOf vx=some cs) (h: ∀n,Z n=none->k (.p n 0) (BV Z n (.cs cs))) :
    CX F Z w k kp ((Instr.box e c).run P w):=by
 obtain⟨h1,h2⟩:=Cv hx hc;exact Sk hR h1 h2 h
def Ge {z:Option V} {cs:List V} (h:K2 z=some cs): ∃v,z=some v/\cellsOf v=some cs:=by
 cases z with
 | none=>cases h
 | some v=>cases v<;>first|(cases h;done)|(cases h;exact⟨_,rfl,rfl⟩)
def XF {e:TypeId} {z:List V} (hz:K2 (zeroOf P e)=some z) (hR:Rel F Z w) (h: ∀n,Z n=none->k (.p n 0) (BV Z n (.cs z))) :
    CX F Z w k kp ((Instr.alloc e true (.tuple #[])).run P w):=by
 obtain⟨v,h1,h2⟩:=Ge hz;obtain⟨c,h3,h4⟩:=ET h1 w;obtain⟨h5,h6⟩:=Cv (Gu (H:=Hh F Z w) h4) h2;have:=Sk (P:=P) (kp:=kp) (e:=e) hR h5 h6 h;unfold Instr.alloc;simp only[DM,h3,Result.andThen]at this ⊢;simpa[newVar,newRow]using this
def XE {s:TypeId} {fields:Array Field} {f:Nat} {fd:Field} {sz:Nat} (hu:P.underlying s=some (.struct fields)) (hf:fields[f]? =some fd) (hs:EA P fd.type=some sz) (h0:sz≠0)
    (hR:Rel F Z w) {vx:V} {c:Value} (hx:Aa (Hh F Z w) vx c) (h:Kx fd.offset vx fun v=>k v Z):CX F Z w k kp ((Instr.fieldAt s c f).run P w):=by
 have hrun: ∀b o,c= .pointer (some ⟨b,o,none⟩)->(Instr.fieldAt s c f).run P w= .ok (.pointer (some ⟨b,o+fd.offset,none⟩)) w:=by
  rintro b o rfl;simp[Instr.fieldAt,BI hu,hf,Instr.sureAddr,fieldPlace,ED hs,h0,Ck]
 unfold Kx at h;split at h
 .obtain⟨b,o,hc,hv⟩:=hx
  rw[hrun b o hc];exact Au hR h ⟨b,_,rfl,J2 hv _⟩
 .rw[hrun _ _ hx]
  exact Au hR h rfl
 .simp only[Aa]at hx
  rw[hrun _ _ hx,Nat.add_assoc];exact Au hR h rfl
 .exact h.elim
def Zs {t:TypeId} {agg:Option Nat} (hA:Iy P t=some agg) {H:Nat->Nat->Option Value} {c:Array Value} {off:Nat} {vs:List V} (hs:c.size=vs.length) (hv:BS H (fun i=>c[i]?) 0 vs)
    {K:V->Prop} (hk:cut agg vs off K) (w:World): ∃v d,(part t c off).run P w= .ok d w/\Aa H v d/\K v:=by
 obtain⟨h1,h2⟩:=SI hA w;unfold part;simp only[DM,h1,Result.andThen];cases agg with
 | none=>
   simp only[cut]at hk;split at hk
   .rename_i v hv'
    obtain⟨d,hd,hr⟩:=BY.1 hv off v hv';refine⟨v,d,?_,hr,hk⟩;simp only[G3]at hd;simp[hd]
   .exact hk.elim
 | some n=>
   simp only[cut]at hk;refine⟨.a ((vs.drop off).take n),.agg (c.extract off (off+n)),by simp[h2 n rfl],⟨_,rfl,by simp;omega,?_⟩,hk.2⟩;refine BC (R4 (J2 hv off) n) (fun i hi=>?_);simp at hi;rw[Array.getElem?_extract_of_lt (by omega)];rw[show 0+off+i=off+(0+i) by omega];exact(Array.getElem?_eq_getElem (by omega)).symm
def XD {s:TypeId} {fields:Array Field} {f:Nat} {fd:Field} {agg:Option Nat} (hu:P.underlying s=some (.struct fields)) (hf:fields[f]? =some fd) (hA:Iy P fd.type=some agg)
    (hR:Rel F Z w) {cs:List V} {c:Value} (hx:Aa (Hh F Z w) (.a cs) c) (h:cut agg cs fd.offset fun v=>k v Z):CX F Z w k kp ((Instr.field s c f).run P w):=by
 obtain⟨c',rfl,h1,h2⟩:=hx;obtain⟨v,d,h3,h4,h5⟩:=Zs hA h1 h2 h w;simp only[Instr.field,DM,BI hu,Result.andThen,hf,asAgg,Ep,h3];exact FY hR h4 h5
def XC {t e:TypeId} {len sz:Nat} {agg:Option Nat} (hu:P.underlying t=some (.array len e)) (hs:EA P e=some sz) (hA:Iy P e=some agg)
    (hR:Rel F Z w) {vx vi:V} {cx ci:Value} (hx:Aa (Hh F Z w) vx cx) (hi:Aa (Hh F Z w) vi ci) (h:Kw len sz agg vx vi fun v=>k v Z):CX F Z w k kp ((Instr.index t cx ci).run P w):=by
 unfold Kw at h;split at h
 .rename_i cs ki j
  obtain⟨h0,h1,h⟩:=h;obtain⟨c',rfl,h2,h3⟩:=hx;obtain⟨rfl,_⟩:=hi;obtain⟨v,d,h4,h5,h6⟩:=Zs hA h2 h3 h w;simp only[Instr.index,DM,asIntOf,Ep,Result.andThen,BI hu,h0,h1,and_self,if_true,ED hs,h4];exact FY hR h5 h6
 .exact h.elim
def run_indexAt_slice {t e:TypeId} {sz:Nat} (hu:P.underlying t=some (.slice e)) (hs:EA P e=some sz) {b o:Nat} {n cap:Nat} {j:Int} {ki:IntKind} (h0:0<=j) (h1:j<n) :
    (Instr.indexAt t (.slice (some ⟨b,o,none⟩) n cap) (.int ki j)).run P w= .ok (.pointer (some ⟨b,o+j.toNat*sz,none⟩)) w:=by
 simp[Instr.indexAt,asIntOf,BI hu,h0,h1,ED hs,Ck]
def run_indexAt_array {t e:TypeId} {sz m:Nat} (hu:P.underlying t=some (.array m e)) (hs:EA P e=some sz) {b o:Nat} {j:Int} {ki:IntKind} (h0:0<=j) (h1:j<m) :
    (Instr.indexAt t (.pointer (some ⟨b,o,none⟩)) (.int ki j)).run P w= .ok (.pointer (some ⟨b,o+j.toNat*sz,none⟩)) w:=by
 simp[Instr.indexAt,asIntOf,BI hu,h0,h1,ED hs,Ck,Instr.sureAddr]
def Mr {t e:TypeId} {sz:Nat} (hu:P.underlying t=some (.slice e)) (hs:EA P e=some sz)
    (hR:Rel F Z w) {vx vi:V} {cx ci:Value} (hx:Aa (Hh F Z w) vx cx) (hi:Aa (Hh F Z w) vi ci) (h:AR sz none vx vi fun v=>k v Z):CX F Z w k kp ((Instr.indexAt t cx ci).run P w):=by
 cases vi<;>simp only[AR]at h
 rename_i ki j;obtain⟨rfl,_⟩:=hi;cases vx<;>simp only at h
 .rename_i es full
  obtain⟨h0,e',he,hl,h⟩:=h;obtain⟨a,cap,rfl,_,_,_,_,h6⟩:=hx;have hlt:=(Ii.1 he).1;obtain⟨b,o,s,rfl,h7⟩:=h6 (by rintro rfl;simp at he);obtain⟨h8,h9⟩:=BE.1 h7 _ _ he;have:s=sz:=by omega
  subst this;rw[run_indexAt_slice hu hs h0 (by omega)];exact Au hR h ⟨b,_,rfl,h9⟩
 .rename_i n len cap
  obtain⟨h0,h1,h⟩:=h;obtain⟨rfl,_⟩:=hx;rw[run_indexAt_slice hu hs h0 h1];exact Au hR h (by simp[Aa])
 .rename_i n s off len
  obtain⟨rfl,h0,h1,h⟩:=h;obtain⟨a,cap,rfl,_,h3⟩:=hx;obtain rfl:=h3 (by omega);rw[run_indexAt_slice hu hs h0 h1];exact Au hR h (by simp[Aa,Nat.add_mul])
def Ms {t e:TypeId} {sz m:Nat} (hu:P.underlying t=some (.array m e)) (hs:EA P e=some sz)
    (hR:Rel F Z w) {vx vi:V} {cx ci:Value} (hx:Aa (Hh F Z w) vx cx) (hi:Aa (Hh F Z w) vi ci) (h:AR sz (some m) vx vi fun v=>k v Z):CX F Z w k kp ((Instr.indexAt t cx ci).run P w):=by
 cases vi<;>simp only[AR]at h
 rename_i ki j;obtain⟨rfl,_⟩:=hi;cases vx<;>simp only at h
 .rename_i n o
  obtain⟨h0,h1,h⟩:=h;simp only[Aa]at hx;subst hx;rw[run_indexAt_array hu hs h0 h1];exact Au hR h rfl
 .rename_i cs
  obtain⟨h0,h1,h⟩:=h;obtain⟨b,o,rfl,hv⟩:=hx;rw[run_indexAt_array hu hs h0 h1];exact Au hR h ⟨b,_,rfl,J2 hv _⟩
 .rename_i n s q o
  obtain⟨h0,h1,h⟩:=h;simp only[Aa]at hx;subst hx;rw[run_indexAt_array hu hs h0 h1,Nat.add_assoc];exact Au hR h rfl
end Go.Gl
