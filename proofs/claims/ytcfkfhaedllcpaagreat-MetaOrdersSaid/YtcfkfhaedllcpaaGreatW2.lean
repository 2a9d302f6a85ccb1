import Derived.Laws.Cells
import Derived.Laws.Rows
import Derived.Laws.World
import Derived.Laws.Slices
import Derived.Laws.Build
import Derived.WideShapes4
import Derived.OpenShut
import Derived.Test.YtcfkfhaedllcpaaGreatW1
set_option linter.all false
set_option linter.defProp false
set_option maxHeartbeats 8000000
noncomputable section
namespace Go.Gl
def BW {H:Nat->Nat->Option Value} {g:Nat->Option Value}: ∀ {vs:List V} {o:Nat},
    BT H g o vs↔ ∀i v,vs[i]? =some v-> ∃c,g (o+i)=some c/\Ab H v c
 | [],o=>by simp[BT]
 | v ::vs,o=>by
   simp only[BT];rw[BW (vs:=vs) (o:=o+1)];constructor
   .rintro⟨h1,h2⟩ i u hu
    cases i with
    | zero=>simp at hu;subst hu;simpa using h1
    | succ i=>
      obtain⟨c,hc,hr⟩:=h2 i u (by simpa using hu);exact⟨c,by rw[<-hc];congr 1;omega,hr⟩
   .intro h
    refine⟨by simpa using h 0 v rfl,fun i u hu=>?_⟩;obtain⟨c,hc,hr⟩:=h (i+1) u (by simpa using hu);exact⟨c,by rw[<-hc];congr 1;omega,hr⟩
def BE {H:Nat->Nat->Option Value} {g:Nat->Option Value} {sz:Nat}: ∀ {es:List (List V)} {o:Nat},
    BH H g sz o es↔ ∀i e,es[i]? =some e->e.length=sz/\BT H g (o+i*sz) e
 | [],o=>by simp[BH]
 | v ::vs,o=>by
   simp only[BH];rw[BE (es:=vs) (o:=o+sz)];constructor
   .rintro⟨h1,h2,h3⟩ i u hu
    cases i with
    | zero=>simp at hu;subst hu;exact⟨h1,by simpa using h2⟩
    | succ i=>
      obtain⟨h4,h5⟩:=h3 i u (by simpa using hu);refine⟨h4,?_⟩;rw[show o+(i+1)*sz=o+sz+i*sz by rw[Nat.add_mul];omega];exact h5
   .intro h
    have h0:=h 0 v rfl;refine⟨h0.1,by simpa using h0.2,fun i u hu=>?_⟩;obtain⟨h4,h5⟩:=h (i+1) u (by simpa using hu);refine⟨h4,?_⟩;rw[show o+sz+i*sz=o+(i+1)*sz by rw[Nat.add_mul];omega];exact h5
def BA {H:Nat->Nat->Option Value} {g g':Nat->Option Value} {o o':Nat} {vs:List V} (h:BT H g o vs) (hg: ∀i,i<vs.length->g' (o'+i)=g (o+i)):BT H g' o' vs:=by
 rw[BW]at *;intro i v hv;obtain⟨c,hc,hr⟩:=h i v hv;exact⟨c,by rw[hg i (by rw[IN]at hv;exact hv.1)];exact hc,hr⟩
def Jl {H:Nat->Nat->Option Value} {g:Nat->Option Value} {o:Nat} {vs:List V} (h:BT H g o vs) (n:Nat):BT H g (o+n) (vs.drop n):=by
 rw[BW]at *;intro i v hv;rw[vS]at hv;obtain⟨c,hc,hr⟩:=h (n+i) v hv;exact⟨c,by rw[<-hc];congr 1;omega,hr⟩
def Rn {H:Nat->Nat->Option Value} {g:Nat->Option Value} {o:Nat} {vs:List V} (h:BT H g o vs) (n:Nat):BT H g o (vs.take n):=by
 rw[BW]at *;intro i v hv;rw[List.getElem?_take]at hv;split at hv
 .exact h i v hv
 .cases hv
def N1 {H:Nat->Nat->Option Value} {g:Nat->Option Value} {o:Nat} {vs us:List V} (h:BT H g o vs) (k:BT H g (o+vs.length) us):BT H g o (vs++us):=by
 rw[BW]at *;intro i v hv;rw[List.getElem?_append]at hv;split at hv
 .exact h i v hv
 .obtain⟨c,hc,hr⟩:=k _ v hv
  exact⟨c,by rw[<-hc];congr 1;omega,hr⟩
def Rel.lt {F:Nat->Prop} {Z:AE} {w:World} (h:Rel F Z w) {n:Nat} {o:O} (ho:Z n=some o):n<w.heap.size:=by
 obtain⟨_,ob,h2,_⟩:=h.own n o ho;rcases Nat.lt_or_ge n w.heap.size with h'|h'
 .exact h'
 .simp[Array.getElem?_eq_none h']at h2
def Rel.new {F:Nat->Prop} {Z:AE} {w:World} (h:Rel F Z w):Z w.heap.size=none:=by
 cases h':Z w.heap.size with
 | none=>rfl
 | some o=>exact absurd (h.lt h') (Nat.lt_irrefl _)
def Rel.step {F:Nat->Prop} {Z Z':AE} {w w':World} (h:Rel F Z w) (ha:Bu F Z w Z' w')
    (hn: ∀n o,Z' n=some o->(Z n=some o/\w'.heap[n]? =w.heap[n]?)\/(¬F n/\ ∃ob,w'.heap[n]? =some ob/\O8 (Hh F Z' w') o ob)):Rel F Z' w' where
 own n o ho:=by
  rcases hn n o ho with⟨h1,h2⟩|h1
  .obtain⟨h3,ob,h4,h5⟩:=h.own n o h1
   exact⟨h3,ob,h2.trans h4,h5.mono ha.hle⟩
  .exact h1
 lock n hl:=Nat.lt_of_lt_of_le (h.lock n hl) ha.size
def C2 (Z:AE) (n:Nat) (o:O):Bd Z n o n=some o:=by simp[Bd]
def CY (Z:AE) {n m:Nat} (o:O) (h:m≠n):Bd Z n o m=Z m:=by simp[Bd,h]
def DL (Z:AE) (n:Nat):del Z n n=none:=by simp[del]
def G0 (Z:AE) {n m:Nat} (h:m≠n):del Z n m=Z m:=by simp[del,h]
def Fo (Z:AE) (n:Nat):Sub (del Z n) Z:=by
 intro m o h;unfold del at h;split at h
 .cases h
 .exact h
def Dw {F:Nat->Prop} {Z:AE} {w:World} (o:O) (ob:Obj):Bu F Z w (Bd Z w.heap.size o) (w.alloc ob) where
 frame n hn _:=RowKit.Below.heap_alloc _ _ _ hn
 size:=by simp
 os:=rfl
 tape:=rfl
 output:=rfl
 names n h0 hn:=by rw[CY _ _ (by omega)];exact h0
def HZ {F:Nat->Prop} {Z:AE} {w:World} (h:Rel F Z w) {o:O} {ob:Obj} (ho:O8 (Hh F Z w) o ob):Rel F (Bd Z w.heap.size o) (w.alloc ob):=
 h.step (Dw o ob) fun n o' hn=>by
  by_cases e:n=w.heap.size
  .subst e
   rw[C2]at hn;cases hn;exact .inr ⟨fun hl=>absurd (h.lock _ hl) (Nat.lt_irrefl _),ob,heap_alloc_new _ _,ho.mono (Dw o ob).hle⟩
  .rw[CY _ _ e]at hn
   exact .inl ⟨hn,RowKit.Below.heap_alloc _ _ _ (h.lt hn)⟩
def II {F:Nat->Prop} {Z:AE} (w:World) (ob:Obj):Bu F Z w Z (w.alloc ob) where
 frame n hn _:=RowKit.Below.heap_alloc _ _ _ hn
 size:=by simp
 os:=rfl
 tape:=rfl
 output:=rfl
 names n h0 _:=h0
def Ku {F:Nat->Prop} {Z:AE} {w:World} (h:Rel F Z w) (ob:Obj):Rel F Z (w.alloc ob):=
 h.step (II w ob) fun _ _ hn=> .inl ⟨hn,RowKit.Below.heap_alloc _ _ _ (h.lt hn)⟩
def CO (w:World) (n:Nat) (ob:Obj):World:={w with heap:=w.heap.setIfInBounds n ob}
def N3 {w:World} {n:Nat} {ob:Obj} (h:n<w.heap.size):(CO w n ob).heap[n]? =some ob:=by
 simp[CO,h]
def Rz {w:World} {n m:Nat} {ob:Obj} (h:m≠n):(CO w n ob).heap[m]? =w.heap[m]? :=by
 simp only[CO];rw[Array.getElem?_setIfInBounds_ne (Ne.symm h)]
@[simp] theorem pD (w:World) (n:Nat) (ob:Obj):(CO w n ob).heap.size=w.heap.size:=by simp[CO]
def Gf {F:Nat->Prop} {Z:AE} {w:World} {n:Nat} {o:O} (hn:Z n=some o) (o':O) (ob:Obj):Bu F Z w (Bd Z n o') (CO w n ob) where
 frame m _ h0:=Rz (fun e=>by rw[e,hn]at h0;cases h0)
 size:=by simp
 os:=rfl
 tape:=rfl
 output:=rfl
 names m h0 _:=by rw[CY _ _ (fun e=>by rw[e,hn]at h0;cases h0)];exact h0
def JV {F:Nat->Prop} {Z:AE} {w:World} (h:Rel F Z w) {n:Nat} {o o':O} {ob:Obj} (hn:Z n=some o) (ho:O8 (Hh F Z w) o' ob):Rel F (Bd Z n o') (CO w n ob):=
 h.step (Gf hn o' ob) fun m o'' hm=>by
  by_cases e:m=n
  .subst e
   rw[C2]at hm;cases hm;exact .inr ⟨(h.own _ _ hn).1,ob,N3 (h.lt hn),ho.mono (Gf hn o' ob).hle⟩
  .rw[CY _ _ e]at hm
   exact .inl ⟨hm,Rz e⟩
def Xh {w:World} {n:Nat} {ob:Obj} (h:w.heap[n]? =some ob):n<w.heap.size:=by
 rcases Nat.lt_or_ge n w.heap.size with h'|h'
 .exact h'
 .simp[Array.getElem?_eq_none h']at h
def setCell_eq {w:World} {n i:Nat} {c:Array Value} {e:TypeId} (h:w.heap[n]? =some (.cells c e (0,0))) (v:Value) :
    w.setCell ⟨n,i,none⟩ v=CO w n (.cells (c.setIfInBounds i v) e (0,0)):=by
 unfold World.setCell CO;congr 1;apply Array.ext_getElem?;intro j;by_cases hj:n=j
 .subst hj
  rw[Array.getElem?_modify,if_pos rfl,Array.getElem?_setIfInBounds_self_of_lt (Xh h),h];rfl
 .rw[Array.getElem?_modify,if_neg hj,Array.getElem?_setIfInBounds_ne hj]
def DM {w:World} {n i:Nat} {c:Array Value} {e:TypeId} {fr:Nat×Nat} (h:w.heap[n]? =some (.cells c e fr)):w.cell? ⟨n,i,none⟩=c[i]? :=
 cell_of_row w n i c e fr h
def QY {w:World} {n i:Nat} {c:Array Value} {e:TypeId} (h:w.heap[n]? =some (.cells c e (0,0))):w.frozen? ⟨n,i,none⟩=false:=
 frozen_of_row w n i c e h
def Ch (n o i:Nat):(⟨n,o,none⟩:Addr).add i=⟨n,o+i,none⟩:=by
 unfold Addr.add;split
 .subst_vars;rfl
 .rfl
def Cu:Array Value->Nat->List Value->Array Value
 | c,_,[]=>c
 | c,o,v::vs=>Cu (c.setIfInBounds o v) (o+1) vs
def Dq: ∀(vs:List Value) (c:Array Value) (o:Nat),(Cu c o vs).size=c.size
 | [],_,_=>rfl
 | v::vs,c,o=>by simp only[Cu];rw[Dq vs];simp
def bT {w:World} {n:Nat} {ob:Obj} (h:w.heap[n]? =some ob):CO w n ob=w:=by
 unfold CO
 have:w.heap.setIfInBounds n ob=w.heap:=by
  apply Array.ext_getElem?;intro j;by_cases hj:n=j
  .subst hj
   rw[Array.getElem?_setIfInBounds_self_of_lt (Xh h),h]
  .rw[Array.getElem?_setIfInBounds_ne hj]
 rw[this]
def RF (w:World) (n:Nat) (a b:Obj):CO (CO w n a) n b=CO w n b:=by
 simp[CO]
def Ci {P:Program} {n:Nat} {e:TypeId}: ∀(vs:List Value) (w:World) (c:Array Value) (o i:Nat),w.heap[n]? =some (.cells c e (0,0))->
    o+i+vs.length<=c.size->(∀v∈vs,v.oneCell'=true)->
    (storeCells ⟨n,o,none⟩ vs i).run P w= .ok () (CO w n (.cells (Cu c (o+i) vs) e (0,0)))
 | [],w,c,o,i,h,_,_=>by
   simp only[storeCells,Ej,Cu];rw[bT h]
 | v::vs,w,c,o,i,h,hl,hv=>by
   have hlt:o+i<c.size:=by simp at hl;omega
   have h1:w.cell? ⟨n,o+i,none⟩=some c[o+i]:=by rw[DM h];rw[Array.getElem?_eq_getElem hlt]
   have hone:=hv v (by simp);simp only[storeCells,DG,Ch,run_store P w _ v _ hone,h1,QY h,LG,if_false,Result.andThen];rw[setCell_eq h];rw[Ci vs _ (c.setIfInBounds (o+i) v) o (i+1) (N3 (Xh h)) (by simp at hl ⊢;omega) (fun u hu=>hv u (by simp[hu]))];rw[RF];rfl
end Go.Gl
namespace Go.Gl
def kG:Value->Option V
 | .bool b=>some (.b b)
 | .int k n=>if k.min<=n/\n<=k.max then some (.i k n)else none
 | .string s=>some (.s s)
 | .pointer none=>some .pn
 | .slice none 0 0=>some (.l [] true)
 | .map none=>some .mn
 | .nilFunc=>some .LN
 | .nilIface=>some .DZ
 | _=>none
def di:List Value->Option (List V)
 | []=>some []
 | c::cs=>match kG c,di cs with
   | some v,some vs=>some (v::vs)
   | _,_=>none
def pG:Value->Option V
 | .agg cs=>(di cs.toList).map .a
 | .tuple cs=>if cs.size=0 then some (.t [])else none
 | c=>kG c
def BR:Operand->Option Bf
 | .tmp t=>some (.t t)
 | .const v=>(pG v).map .c
 | .func f=>some (.c (.f (.func f) [] []))
 | .global _=>none
def J2:List Operand->Option (List Bf)
 | []=>some []
 | x::r=>match BR x,J2 r with
   | some v,some vs=>some (v::vs)
   | _,_=>none
def ah:Option Operand->Option (Option Bf)
 | none=>some none
 | some x=>(BR x).map some
def D6 (P:Program) (t:TypeId):Option Nat:=(P.info? t).map (·.size)
def Ii (P:Program) (t:TypeId):Option (Option Nat):=
 match P.underlying t with
 | some (.struct _)=>(D6 P t).map some
 | some (.array _ _)=>(D6 P t).map some
 | some _=>some none
 | none=>none
def zeroOf (P:Program) (t:TypeId):Option V:=(((P.info? t).bind (·.zero))).bind pG
def isInt (P:Program) (t:TypeId):Bool:=match P.underlying t with|some (.int _)=>true|_=>false
def isBool (P:Program) (t:TypeId):Bool:=match P.underlying t with|some .bool=>true|_=>false
def wI (P:Program) (op:BinOp) (t:TypeId) (x y:Bf):Option Fh:=
 if isInt P t then some (.bin op x y)
 else if isBool P t then match op with
  | .eql=>some (.kD false x y)
  | .neq=>some (.kD true x y)
  | _=>none
 else none
def TN (fields:Array Field) (P:Program):List (Nat×Operand)->Option (List (Nat×Nat×Bf))
 | []=>some []
 | (i,x)::r=>match fields[i]?,BR x,TN fields P r with
   | some f,some o,some ps=>(D6 P f.type).map fun s=>(f.offset,s,o)::ps
   | _,_,_=>none
def Oe (sz:Nat):List (Nat×Operand)->Option (List (Nat×Nat×Bf))
 | []=>some []
 | (i,x)::r=>match BR x,Oe sz r with
   | some o,some ps=>some ((i*sz,sz,o)::ps)
   | _,_=>none
def Od:List (Nat×Operand)->Option (List (Nat×Bf))
 | []=>some []
 | (i,x)::r=>match BR x,Od r with
   | some o,some ps=>some ((i,o)::ps)
   | _,_=>none
def Kh:Option V->Option (List V)
 | some (.a cs)=>some cs
 | some (.t _)=>none
 | some .any=>none
 | some v=>some [v]
 | none=>none
def eP (P:Program) (c:Call):Option Fh:=
 match c.callee,c.args.toList,c.argTypes.toList with
 | .builtin .len,[x],[t]=>match P.underlying t with
   | some (.slice _)=>(BR x).map .len
   | some (.map _ _)=>(BR x).map .TC
   | some (.array n _)=>if(n:Int)<=IntKind.i64.max then some (.mv (.c (.i .i64 n)))else none
   | _=>none
 | .builtin .append,[x,y],[t,u]=>match P.underlying t,P.underlying u with
   | some (.slice e),some (.slice _)=>match BR x,BR y,P.info? e with
     | some x',some y',some i=>if t=u/\i.bytes<=4096/\i.zero.map (fun z=>z.cells.size)=some i.size then some (.append i.size i.bytes x' y')else none
     | _,_,_=>none
   | _,_=>none
 | .builtin .max,[x,y],_=>match BR x,BR y with|some x',some y'=>some (.Um x' y')|_,_=>none
 | .builtin .min,[x,y],_=>match BR x,BR y with|some x',some y'=>some (.Ul x' y')|_,_=>none
 | .value (.func f),_,_=>(J2 c.args.toList).map (.call f)
 | .value x,_,_=>match BR x,J2 c.args.toList with|some x',some as=>some (.Ih x' as)|_,_=>none
 | _,_,_=>none
def yH (P:Program):Op->Option Fh
 | .move x=>(BR x).map .mv
 | .assign x=>(BR x).map .mv
 | .pick c a b=>match BR c,BR a,BR b with|some c,some a,some b=>some (.pick c a b)|_,_,_=>none
 | .box _ x=>(BR x).map .box
 | .alloc e=>(Kh (zeroOf P e)).map .alloc
 | .build t parts=>match Kh (zeroOf P t),P.underlying t with
   | some z,some (.struct fields)=>if fields.toList.all (fun f=>(D6 P f.type).isSome)then(TN fields P parts.toList).map (.build z)else none
   | some z,some (.array _ e)=>(D6 P e).bind fun sz=>(Oe sz parts.toList).map (.build z)
   | _,_=>none
 | .buildSlice t len parts=>match P.underlying t with
   | some (.slice e)=>match Kh (zeroOf P e),D6 P e with
     | some z,some sz=>if z.length=sz/\0<sz/\0<len/\len*sz<=2 ^ 24 then(Od parts.toList).map (.Di sz len z)else none
     | _,_=>none
   | _=>none
 | .load t x=>match Ii P t,BR x with|some a,some x=>some (.load a x)|_,_=>none
 | .store t a x=>match D6 P t,BR a,BR x with|some s,some a,some x=>some (.store s a x)|_,_,_=>none
 | .binOp op t x y _=>match BR x,BR y with|some x,some y=>wI P op t x y|_,_=>none
 | .unOp .not _ x=>(BR x).map .not
 | .unOp .neg t x=>if isInt P t then(BR x).map (.neg false)else none
 | .unOp .xor t x=>if isInt P t then(BR x).map (.neg true)else none
 | .convert s d x=>match P.underlying s,P.underlying d with
   | some (.int _),some (.int k)=>(BR x).map (.conv k)
   | _,_=>none
 | .makeInterface t x=>match P.underlying t with
   | some (.interface _)=>none
   | some _=>(BR x).map (.Nq t)
   | none=>none
 | .makeFunc (.func f) first cap=>match J2 first.toList,J2 cap.toList with|some a,some b=>some (.Yi (.func f) a b)|_,_=>none
 | .slice t x lo hi mx=>match P.underlying t with
   | some (.slice e)=>match D6 P e,BR x,ah lo,ah hi,ah mx with
     | some s,some x,some l,some h,some m=>if 0<s/\(m.isSome->h.isSome)then some (.slice s x l h m)else none
     | _,_,_,_,_=>none
   | _=>none
 | .fieldAddr s x f=>match P.underlying s with
   | some (.struct fields)=>match fields[f]? with
     | some fd=>match D6 P fd.type with
       | some sz=>if sz=0 then none else(BR x).map (.Bs fd.offset)
       | none=>none
     | none=>none
   | _=>none
 | .field t x f=>match P.underlying t with
   | some (.struct fields)=>match fields[f]? with
     | some fd=>match Ii P fd.type,BR x with|some a,some x=>some (.field a fd.offset x)|_,_=>none
     | none=>none
   | _=>none
 | .indexAddr t x i=>match P.underlying t with
   | some (.slice e)=>match D6 P e,BR x,BR i with|some s,some x,some i=>some (.I7 s none x i)|_,_,_=>none
   | some (.array n e)=>match D6 P e,BR x,BR i with|some s,some x,some i=>some (.I7 s (some n) x i)|_,_,_=>none
   | _=>none
 | .index t x i=>match P.underlying t with
   | some (.array n e)=>match D6 P e,Ii P e,BR x,BR i with|some s,some a,some x,some i=>some (.index n s a x i)|_,_,_,_=>none
   | _=>none
 | .extract x i=>(BR x).map (.extract i)
 | .nilCheck x=>(BR x).map .EX
 | .typeAssert x _ t ok=>match P.underlying t with
   | some (.interface _)=>none
   | some _=>match BR x,zeroOf P t with|some x,some z=>some (.aT t z ok x)|_,_=>none
   | none=>none
 | .panic x=>(BR x).map .panic
 | .call c=>eP P c
 | _=>none
def CW (F:Nat->Prop) (Z:AE) (w:World) (k kp:V->AE->Prop):Result Value->Prop
 | .ok c w'=> ∃v Z',k v Z'/\Ab (Hh F Z' w') v c/\Rel F Z' w'/\Bu F Z w Z' w'
 | .halt (.panic c) w'=> ∃v Z',kp v Z'/\Ab (Hh F Z' w') v c/\Rel F Z' w'/\Bu F Z w Z' w'
 | _=>False
def Good (P:Program) (F:Nat->Prop) (Z:AE) (w:World) (k kp:V->AE->Prop):Result Next->Prop
 | .ok (.value c) w'=> ∃v Z',k v Z'/\Ab (Hh F Z' w') v c/\Rel F Z' w'/\Bu F Z w Z' w'
 | .ok .skip w'=> ∃Z',k (.t []) Z'/\Rel F Z' w'/\Bu F Z w Z' w'
 | .ok (.enter f args) w'=>Calls P f args w' fun e w''=> ∃r Z',qk k kp r Z'/\U1 (Hh F Z' w'') r e/\Rel F Z' w''/\Bu F Z w Z' w''
 | .ok (.round l f tmps assign body) w'=>RoundIn Fence.wide 0 P l f tmps assign body w' fun e w''=> ∃r Z',qk k kp r Z'/\U1 (Hh F Z' w'') r e/\Rel F Z' w''/\Bu F Z w Z' w''
 | .halt (.panic c) w'=> ∃v Z',kp v Z'/\Ab (Hh F Z' w') v c/\Rel F Z' w'/\Bu F Z w Z' w'
 | _=>False
def Az {P:Program} {F:Nat->Prop} {Z:AE} {w:World} {k kp:V->AE->Prop} {s:Sem Value} (h:CW F Z w k kp (s.run P w)) :
    Good P F Z w k kp ((do pure (.value (<-s)):Sem Next).run P w):=by
 simp only[DG];generalize s.run P w=r at *;cases r with
 | ok c w'=>exact h
 | halt x w'=>cases x<;>first|exact h|exact h.elim
def FN {F:Nat->Prop} {Z:AE} {w:World} {k kp:V->AE->Prop} (hR:Rel F Z w) {v:V} {c:Value} (hv:Ab (Hh F Z w) v c) (hk:k v Z):CW F Z w k kp (.ok c w):=
 ⟨v,Z,hk,hv,hR,Bu.refl _ _ _⟩
def As {F:Nat->Prop} {Z:AE} {w:World} {k kp:V->AE->Prop} (hR:Rel F Z w) {v:V} {c:Value} (hk:k v Z) (hv:Ab (Hh F Z w) v c):CW F Z w k kp (.ok c w):=
 FN hR hv hk
def CD (H:Nat->Nat->Option Value) (env:Env) (tmps:Array Value):Prop:= ∀k v,get k env=some v-> ∃c,tmps[k]? =some c/\Ab H v c
def CD.mono {H H':Nat->Nat->Option Value} (hle:Ym H H') {env:Env} {tmps:Array Value} (h:CD H env tmps):CD H' env tmps:=
 fun k v hv=>let⟨c,h1,h2⟩:=h k v hv;⟨c,h1,h2.mono hle⟩
def VV {H:Nat->Nat->Option Value} {c:Value} {v:V} (h:kG c=some v):Ab H v c:=by
 unfold kG at h
 split at h<;>first
  | (cases h;simp[Ab];done)
  | (split at h<;>first|(rename_i hc;cases h;simpa[Ab]using hc)|cases h)
  | cases h
 .exact⟨none,0,rfl,by simp,by simp,by simp,by simp,by simp⟩
def VU {H:Nat->Nat->Option Value}: ∀ {cs:List Value} {vs:List V},di cs=some vs->cs.length=vs.length/\BT H (fun i=>cs[i]?) 0 vs
 | [],vs,h=>by cases h;exact⟨rfl,trivial⟩
 | c ::cs,vs,h=>by
   simp only[di]at h;split at h
   .rename_i v vs' h1 h2
    cases h;obtain⟨h3,h4⟩:=VU (H:=H) h2;refine⟨by simp[h3],⟨c,by simp,VV h1⟩,?_⟩;exact BA h4 (fun i _=>by rw[show 0+1+i=i+1 by omega];simp)
   .cases h
def Ga {H:Nat->Nat->Option Value} {c:Value} {v:V} (h:pG c=some v):Ab H v c:=by
 unfold pG at h;split at h
 .rename_i cs
  cases hq:di cs.toList with
  | none=>rw[hq]at h;cases h
  | some vs=>
    rw[hq]at h;cases h;obtain⟨h1,h2⟩:=VU (H:=H) hq;refine⟨cs,rfl,by simpa using h1,BA h2 (fun i _=>by simp)⟩
 .rename_i cs
  split at h
  .rename_i h0
   cases h;exact⟨cs,rfl,by simpa using h0,trivial⟩
  .cases h
 .exact VV h
def An {H:Nat->Nat->Option Value} {env:Env} {a:Act} (he:CD H env a.tmps) {x:Operand} {o:Bf} (ho:BR x=some o) {v:V} (hv:ev env o=some v):Ab H v (a.eval x):=by
 cases x with
 | tmp t=>
   cases ho;obtain⟨c,h1,h2⟩:=he t v hv;simp only[Act.eval,Array.getD_eq_getD_getElem?,h1,Option.getD_some];exact h2
 | const c=>
   simp only[BR]at ho;cases hq:pG c with
   | none=>rw[hq]at ho;cases ho
   | some u=>
     rw[hq]at ho;cases ho;cases hv;exact Ga hq
 | func f=>
   cases ho;cases hv;exact⟨#[],#[],rfl,rfl,trivial,rfl,trivial⟩
 | global g=>cases ho
def Zu {H:Nat->Nat->Option Value} {env:Env} {a:Act} (he:CD H env a.tmps): ∀ {xs:List Operand} {os:List Bf},J2 xs=some os-> ∀ {vs:List V},Ud env os=some vs->
    xs.length=vs.length/\BT H (fun i=>(xs.map a.eval)[i]?) 0 vs
 | [],os,ho,vs,hv=>by cases ho;cases hv;exact⟨rfl,trivial⟩
 | x ::xs,os,ho,vs,hv=>by
   simp only[J2]at ho;split at ho
   .rename_i o os' h1 h2
    cases ho;simp only[Ud]at hv;split at hv
    .rename_i v vs' h3 h4
     cases hv;obtain⟨h5,h6⟩:=Zu he h2 h4;refine⟨by simp[h5],⟨a.eval x,by simp,An he h1 h3⟩,?_⟩;exact BA h6 (fun i _=>by rw[show 0+1+i=i+1 by omega];simp)
    .cases hv
   .cases ho
def Ai {o:Option V} {k:V->Prop} (h:wv o k): ∃v,o=some v/\k v:=by
 cases o with
 | none=>exact h.elim
 | some v=>exact⟨v,rfl,h⟩
def Hy {o:Option (List V)} {k:List V->Prop} (h:ws o k): ∃v,o=some v/\k v:=by
 cases o with
 | none=>exact h.elim
 | some v=>exact⟨v,rfl,h⟩
def Y5 {o:Option (List (List V))} {k:List (List V)->Prop} (h:wr o k): ∃v,o=some v/\k v:=by
 cases o with
 | none=>exact h.elim
 | some v=>exact⟨v,rfl,h⟩
def Tl {o:Option (Option V)} {k:Option V->Prop} (h:wo o k): ∃v,o=some v/\k v:=by
 cases o with
 | none=>exact h.elim
 | some v=>exact⟨v,rfl,h⟩
end Go.Gl
namespace Go.Gl
variable {P:Program} {F:Nat->Prop} {Z:AE} {w:World} {k kp:V->AE->Prop}
def MT {t:TypeId} {n:Nat} (h:D6 P t=some n): ∃i,P.info? t=some i/\i.size=n:=by
 unfold D6 at h;cases hi:P.info? t with
 | none=>rw[hi]at h;cases h
 | some i=>rw[hi]at h;cases h;exact⟨i,rfl,rfl⟩
def EA {t:TypeId} {n:Nat} (h:D6 P t=some n) (w:World):(sizeOf t).run P w= .ok n w:=by
 obtain⟨i,h1,h2⟩:=MT h;simp[sizeOf,typeInfo,h1,h2]
def BI {t:TypeId} {d:TypeDesc} (h:P.underlying t=some d) (w:World):(underlying t).run P w= .ok d w:=by
 simp[underlying,h]
def EM {t:TypeId} {z:V} (h:zeroOf P t=some z) (w:World): ∃c,(zeroValue t).run P w= .ok c w/\pG c=some z:=by
 unfold zeroOf at h;cases hi:P.info? t with
 | none=>rw[hi]at h;cases h
 | some i=>
   rw[hi]at h;cases hz:i.zero with
   | none=>simp[hz]at h
   | some c=>
     refine⟨c,by simp[zeroValue,typeInfo,hi,hz],?_⟩;simpa[hz]using h
def WN {t:TypeId} {z:V} (h:zeroOf P t=some z): ∃i c,P.info? t=some i/\i.zero=some c/\pG c=some z:=by
 unfold zeroOf at h;cases hi:P.info? t with
 | none=>rw[hi]at h;cases h
 | some i=>
   rw[hi]at h;cases hz:i.zero with
   | none=>simp[hz]at h
   | some c=>exact⟨i,c,rfl,hz,by simpa[hz]using h⟩
def R0 {t:TypeId} {a:Option Nat} (h:Ii P t=some a) (w:World):(isAgg t).run P w= .ok a.isSome w/\ ∀n,a=some n->(sizeOf t).run P w= .ok n w:=by
 unfold Ii at h;cases hu:P.underlying t with
 | none=>rw[hu]at h;cases h
 | some d=>
   rw[hu]at h;unfold isAgg;simp only[DG,BI hu,Result.andThen]
   cases d<;>simp only at h ⊢ <;>first
    | (cases h;exact⟨rfl,fun n e=>by cases e⟩)
    | (cases hs:D6 P t with
       | none=>rw[hs]at h;cases h
       | some n=>rw[hs]at h;cases h;exact⟨rfl,fun n e=>by cases e;exact EA hs w⟩)
def UK {g:Nat->Option Value} {b o n:Nat} {vs:List V} {H:Nat->Nat->Option Value} (hg: ∀i c,g i=some c->w.cell? ⟨b,i,none⟩=some c) (hv:BT H g o vs) (hn:vs.length=n) :
    ∃cs:Array Value,(loadCells ⟨b,o,none⟩ n).run P w= .ok cs w/\cs.size=n/\BT H (fun i=>cs[i]?) 0 vs:=by
 rw[BW]at hv
 have hch: ∀i,i<n-> ∃c,g (o+i)=some c:=fun i hi=>by
  obtain⟨c,hc,_⟩:=hv i vs[i] (Cy (by omega));exact⟨c,hc⟩
 let f:Nat->Value:=fun i=>(g (o+i)).getD undef
 refine⟨((List.range n).map f).toArray,?_,by simp,?_⟩
 .rw[run_loadCells w _ n f (fun j hj=>by
   obtain⟨c,hc⟩:=hch j hj;rw[Ch,hg _ _ hc]
   simp[f,hc])]
 .rw[BW]
  intro i v hi;obtain⟨c,hc,hr⟩:=hv i v hi;have hlt:i<n:=by rw[<-hn];exact(IN.1 hi).1
  refine⟨c,?_,hr⟩;simp[f,hc,hlt]
def FL {t:TypeId} {agg:Option Nat} (hA:Ii P t=some agg) {g:Nat->Option Value} {b o off:Nat} {vs:List V} {H:Nat->Nat->Option Value} (hg: ∀i c,g i=some c->w.cell? ⟨b,i,none⟩=some c) (hv:BT H g o vs)
    {K:V->Prop} (hk:cut agg vs off K): ∃v c,(loadVar t ⟨b,o+off,none⟩).run P w= .ok c w/\Ab H v c/\K v:=by
 obtain⟨h1,h2⟩:=R0 hA w;unfold loadVar;simp only[DG,h1,Result.andThen];cases agg with
 | none=>
   simp only[cut]at hk;split at hk
   .rename_i v hv'
    obtain⟨c,hc,hr⟩:=BW.1 hv off v hv';refine⟨v,c,?_,hr,hk⟩;simp[hg _ _ hc]
   .exact hk.elim
 | some n=>
   simp only[cut]at hk;obtain⟨cs,h3,h4,h5⟩:=UK (P:=P) (n:=n) hg (Rn (Jl hv off) n) (by simp;omega);refine⟨.a ((vs.drop off).take n),.agg cs,?_,⟨cs,rfl,by simp[h4];omega,h5⟩,hk.2⟩;simp[h2 n rfl,h3]
def Js (hR:Rel F Z w) {n:Nat} {vs:List V} (h:Z n=some (.cs vs)): ∃c e,w.heap[n]? =some (.cells c e (0,0))/\c.size=vs.length/\BT (Hh F Z w) (fun i=>c[i]?) 0 vs:=by
 obtain⟨_,ob,h2,c,e,rfl,h4,h5⟩:=hR.own n _ h;exact⟨c,e,h2,h4,h5⟩
def Er (hR:Rel F Z w) {n sz cap:Nat} {es:List (List V)} (h:Z n=some (.arr sz es cap)): ∃c e,w.heap[n]? =some (.cells c e (0,0))/\cap*sz<=c.size/\es.length<=cap/\es.length<=AY/\BH (Hh F Z w) (fun i=>c[i]?) sz 0 es:=by
 obtain⟨_,ob,h2,c,e,rfl,h4,h5⟩:=hR.own n _ h;exact⟨c,e,h2,h4,h5⟩
def YD {t:TypeId} {agg:Option Nat} (hA:Ii P t=some agg) (hR:Rel F Z w) {vx:V} {c:Value} (hx:Ab (Hh F Z w) vx c) (h:AX Z agg vx fun v=>k v Z) :
    CW F Z w k kp ((Instr.loadAt t c).run P w):=by
 unfold Instr.loadAt;unfold AX at h;split at h
 .rename_i cs
  obtain⟨b,o,rfl,hv⟩:=hx;obtain⟨v,c,h1,h2,h3⟩:=FL (P:=P) (w:=w) (b:=b) (off:=0) hA (fun i c hc=>(Fu hc).2.2) hv h;simp only[DG,Instr.sureAddr,Ej,Result.andThen,Nat.add_zero]at h1 ⊢;rw[h1];exact FN hR h2 h3
 .rename_i n off
  simp only[Ab]at hx;subst hx;unfold PA at h;split at h
  .rename_i vs hs
   obtain⟨c,e,h1,h2,h3⟩:=Js hR hs;obtain⟨v,c',h4,h5,h6⟩:=FL (P:=P) (w:=w) (b:=n) (off:=off) hA (fun i c hc=>by rw[DM h1];exact hc) h3 h;simp only[DG,Instr.sureAddr,Ej,Result.andThen,Gj]at h4 ⊢;rw[h4];exact FN hR h5 h6
  .exact h.elim
 .rename_i n sz i off
  simp only[Ab]at hx;subst hx;unfold PB at h;split at h
  .rename_i sz' es cap hs
   obtain⟨rfl,h⟩:=h;split at h
   .rename_i e he
    obtain⟨c,e',h1,_,_,_,h3⟩:=Er hR hs;obtain⟨h7,h8⟩:=BE.1 h3 i e he;obtain⟨v,c',h4,h5,h6⟩:=FL (P:=P) (w:=w) (b:=n) (off:=off) hA (fun i c hc=>by rw[DM h1];exact hc) h8 h;simp only[DG,Instr.sureAddr,Ej,Result.andThen,Gj]at h4 ⊢;rw[h4];exact FN hR h5 h6
   .exact h.elim
  .exact h.elim
 .exact h.elim
def Cs {H:Nat->Nat->Option Value} {v:V} {c:Value} (hv:Ab H v c) {vs:List V} (h:cellsOf v=some vs):c.cells.size=vs.length/\BT H (fun i=>c.cells[i]?) 0 vs:=by
 cases v<;>simp only[cellsOf]at h<;>first
  | (cases h;done)
  | (cases h
     have hc:c.cells= #[c]:=by
      first
       | (simp only[Ab]at hv;subst hv;rfl)
       | (simp only[Ab]at hv;obtain⟨rfl,_⟩:=hv;rfl)
       | (simp only[Ab]at hv;obtain⟨_,rfl,_⟩:=hv;rfl)
       | (simp only[Ab]at hv;obtain⟨_,_,rfl,_⟩:=hv;rfl)
     rw[hc]
     exact⟨rfl,⟨c,rfl,hv⟩,trivial⟩)
  | skip
 rename_i cs;cases h;obtain⟨c',rfl,h2,h3⟩:=hv;exact⟨h2,h3⟩
def Pc {H:Nat->Nat->Option Value} {v:V} {c:Value} (hv:Ab H v c) (h:CC v=true):c.oneCell'=true:=by
 cases v<;>first
  | (simp[CC]at h;done)
  | (simp only[Ab]at hv;subst hv;rfl)
  | (simp only[Ab]at hv;obtain⟨rfl,_⟩:=hv;rfl)
  | (simp only[Ab]at hv;obtain⟨_,rfl,_⟩:=hv;rfl)
  | (simp only[Ab]at hv;obtain⟨_,_,rfl,_⟩:=hv;rfl)
def iJ {H:Nat->Nat->Option Value} {vs:List V} {c:Array Value} (hs:c.size=vs.length) (hv:BT H (fun i=>c[i]?) 0 vs) (h:vs.all CC=true): ∀u∈c.toList,u.oneCell'=true:=by
 intro u hu;obtain⟨i,hi⟩:=List.mem_iff_getElem?.1 hu;have hlt:i<vs.length:=by rw[<-hs];have:=(IN.1 hi).1;simpa using this
 obtain⟨d,hd,hr⟩:=BW.1 hv i vs[i] (Cy hlt);have:d=u:=by simp only[Gj]at hd;rw[Array.getElem?_toList]at hi;rw[hi]at hd;cases hd;rfl
 subst this;exact Pc hr (E3.1 h _ (List.getElem_mem hlt))
def Eu: ∀(us cs:List V) (o:Nat),(putAt cs o us).length=cs.length
 | [],_,_=>rfl
 | u::us,cs,o=>by simp only[putAt];rw[Eu us];simp
def gj {H:Nat->Nat->Option Value} {c:Array Value} {vs:List V} {i:Nat} {v:V} {d:Value} (hs:c.size=vs.length) (h:BT H (fun i=>c[i]?) 0 vs) (hv:Ab H v d) :
    BT H (fun j=>(c.setIfInBounds i d)[j]?) 0 (vs.set i v):=by
 rw[BW]at *;intro j u hu;simp only[Gj]at h ⊢;rw[List.getElem?_set]at hu;split at hu
 .rename_i e
  subst e;split at hu
  .rename_i hlt
   cases hu;exact⟨d,by rw[Array.getElem?_setIfInBounds_self_of_lt (by omega)],hv⟩
  .cases hu
 .rename_i e
  obtain⟨c',h1,h2⟩:=h j u hu;exact⟨c',by rw[Array.getElem?_setIfInBounds_ne e];exact h1,h2⟩
def Ls {H:Nat->Nat->Option Value}: ∀ {us:List V} {ds:List Value} {c:Array Value} {vs:List V} {o:Nat},c.size=vs.length->BT H (fun i=>c[i]?) 0 vs->ds.length=us.length->BT H (fun i=>ds[i]?) 0 us->
    BT H (fun i=>(Cu c o ds)[i]?) 0 (putAt vs o us)
 | [],[],c,vs,o,_,h,_,_=>h
 | u::us,d::ds,c,vs,o,hs,h,hl,hu=>by
   simp only[Cu,putAt];obtain⟨⟨d',hd,hr⟩,hu'⟩:=hu;have e:d'=d:=by simp at hd;exact hd.symm
   subst e;exact Ls (by simpa using hs) (gj hs h hr) (by simpa using hl) (BA hu' (fun i _=>by rw[show 0+1+i=i+1 by omega];simp))
 | [],_::_,_,_,_,_,_,hl,_=>by simp at hl
 | _::_,[],_,_,_,_,_,hl,_=>by simp at hl
def DD: ∀(ds:List Value) (c:Array Value) (o i:Nat),(i<o\/o+ds.length<=i)->(Cu c o ds)[i]? =c[i]?
 | [],_,_,_,_=>rfl
 | d::ds,c,o,i,h=>by
   simp only[Cu];rw[DD ds _ _ _ (by simp at h;omega),Array.getElem?_setIfInBounds_ne (by simp at h;omega)]
def F3: ∀(ds:List Value) (c:Array Value) (o i:Nat),i<ds.length->o+ds.length<=c.size->(Cu c o ds)[o+i]? =ds[i]?
 | d ::ds,c,o,i,h,hs=>by
   simp only[Cu];cases i with
   | zero=>
     simp at hs;rw[DD ds _ _ _ (by omega),Nat.add_zero,Array.getElem?_setIfInBounds_self_of_lt (by omega)];rfl
   | succ i=>
     rw[show o+(i+1)=o+1+i by omega,F3 ds _ _ i (by simpa using h) (by simp at hs ⊢;omega)];simp
 | [],_,_,_,h,_=>by simp at h
def Wk {t : TypeId} {sz:Nat} (hS:D6 P t=some sz) (hR:Rel F Z w) {va vx:V} {ca cx:Value} (ha:Ab (Hh F Z w) va ca) (hx:Ab (Hh F Z w) vx cx)
    (h:AT Z sz va vx fun Z'=>k (.t []) Z'): ∃Z' w',(Instr.storeAt t ca cx).run P w= .ok () w'/\k (.t []) Z'/\Rel F Z' w'/\Bu F Z w Z' w':=by
 unfold AT at h;split at h
 .rename_i vc hc
  obtain⟨hlen,hone,h⟩:=h;obtain⟨hcs,hcv⟩:=Cs hx hc;have h1s:=iJ hcs hcv hone;have hcv':BT (Hh F Z w) (fun i=>cx.cells.toList[i]?) 0 vc:=BA hcv (fun i _=>by simp)
  have hrun: ∀n o,ca= .pointer (some ⟨n,o,none⟩)->(Instr.storeAt t ca cx).run P w=(storeCells ⟨n,o,none⟩ cx.cells.toList).run P w:=by
   rintro n o rfl;have:cx.cells.size=sz:=by omega
   simp[Instr.storeAt,Instr.sureAddr,storeVar,EA hS,this]
  split at h
  .rename_i n off
   split at h
   .rename_i vs hs
    obtain⟨hle,hk⟩:=h;simp only[Ab]at ha;obtain⟨c,e,h1,h2,h3⟩:=Js hR hs;refine⟨_,CO w n (.cells (Cu c off cx.cells.toList) e (0,0)),?_,hk,?_,Gf hs _ _⟩
    .rw[hrun n off ha,Ci cx.cells.toList w c off 0 h1 (by simp;omega) h1s]
     rfl
    .exact JV hR hs ⟨_,e,rfl,by rw[Dq,Eu];exact h2,Ls h2 h3 (by simp;omega) hcv'⟩
   .exact h.elim
  .rename_i n s i off
   split at h
   .rename_i s' es cap hs
    obtain⟨rfl,h⟩:=h;split at h
    .rename_i e he
     obtain⟨hle,hk⟩:=h;simp only[Ab]at ha;obtain⟨c,et,h1,h2,h3,h4,h5⟩:=Er hR hs;obtain⟨h6,h7⟩:=BE.1 h5 i e he;have hi:i<es.length:=(IN.1 he).1
     have hb:i*s+s<=c.size:=by
      rw[<-Nat.succ_mul];exact Nat.le_trans (UW _ (by omega)) h2
     refine⟨_,CO w n (.cells (Cu c (i*s+off) cx.cells.toList) et (0,0)),?_,hk,?_,Gf hs _ _⟩
     .rw[hrun n _ ha,Ci cx.cells.toList w c _ 0 h1 (by simp;omega) h1s]
      rfl
     .refine JV hR hs ⟨_,et,rfl,by rw[Dq];exact h2,by simpa using h3,by simpa using h4,?_⟩
      rw[BE];intro j u hu;rw[List.getElem?_set]at hu;split at hu
      .rename_i ej
       subst ej;cases hu;refine⟨by rw[Eu];exact h6,?_⟩
       have hrow:BT (Hh F Z w) (fun q=>(c.extract (i*s) (i*s+s))[q]?) 0 e:=by
        refine BA h7 (fun q hq=>?_);simp only[Gj];rw[Array.getElem?_extract_of_lt (by omega)];exact(Array.getElem?_eq_getElem (by omega)).symm
       have:=Ls (o:=off) (by simp;omega) hrow (by simp;omega) hcv';refine BA this (fun q hq=>?_);rw[Eu]at hq;simp only[Gj];by_cases hin:off<=q/\q<off+cx.cells.toList.length
       .obtain⟨r,rfl⟩: ∃r,q=off+r:=⟨q - off,by omega⟩
        rw[show i*s+(off+r)=i*s+off+r by omega,F3 _ _ _ _ (by omega) (by simp;omega),F3 _ _ _ _ (by omega) (by simp;omega)]
       .rw[DD _ _ _ _ (by omega),DD _ _ _ _ (by omega),Array.getElem?_extract_of_lt (by omega)]
        exact Array.getElem?_eq_getElem (by omega)
      .rename_i ej
       obtain⟨h8,h9⟩:=BE.1 h5 j u hu;refine⟨h8,BA h9 (fun q hq=>?_)⟩;rw[DD];rcases Nat.lt_or_ge j i with hji|hji
       .left
        have:(j+1)*s<=i*s:=UW _ hji;rw[Nat.succ_mul]at this;omega
       .right
        have:(i+1)*s<=j*s:=UW _ (by omega);rw[Nat.succ_mul]at this;simp;omega
    .exact h.elim
   .exact h.elim
  .exact h.elim
 .exact h.elim
end Go.Gl
namespace Go.Gl
variable {P:Program} {F:Nat->Prop} {Z:AE} {w:World} {k kp:V->AE->Prop}
def SU (hR:Rel F Z w) {cells:Array Value} {e:TypeId} {cs:List V} (hs:cells.size=cs.length) (hv:BT (Hh F Z w) (fun i=>cells[i]?) 0 cs)
    (h: ∀n,Z n=none->k (.p n 0) (Bd Z n (.cs cs))):CW F Z w k kp ((do pure (.pointer (some (<-newRow e cells))):Sem Value).run P w):=by
 simp only[newRow,DG,run_newObj,Ej,Result.andThen,World.alloc_eq];exact⟨.p w.heap.size 0,_,h _ hR.new,rfl,HZ hR ⟨cells,e,rfl,hs,hv⟩,Dw _ _⟩
def cQ (e:TypeId) (hR:Rel F Z w) {vx:V} {c:Value} (hx:Ab (Hh F Z w) vx c) {cs:List V} (hc:cellsOf vx=some cs) (h: ∀n,Z n=none->k (.p n 0) (Bd Z n (.cs cs))) :
    CW F Z w k kp ((Instr.box e c).run P w):=by
 obtain⟨h1,h2⟩:=Cs hx hc;exact SU hR h1 h2 h
def GM {z:Option V} {cs:List V} (h:Kh z=some cs): ∃v,z=some v/\cellsOf v=some cs:=by
 cases z with
 | none=>cases h
 | some v=>cases v<;>first|(cases h;done)|(cases h;exact⟨_,rfl,rfl⟩)
def Wp {e:TypeId} {z:List V} (hz:Kh (zeroOf P e)=some z) (hR:Rel F Z w) (h: ∀n,Z n=none->k (.p n 0) (Bd Z n (.cs z))) :
    CW F Z w k kp ((Instr.alloc e true (.tuple #[])).run P w):=by
 obtain⟨v,h1,h2⟩:=GM hz;obtain⟨c,h3,h4⟩:=EM h1 w;obtain⟨h5,h6⟩:=Cs (Ga (H:=Hh F Z w) h4) h2;have:=SU (P:=P) (kp:=kp) (e:=e) hR h5 h6 h;unfold Instr.alloc;simp only[DG,h3,Result.andThen]at this ⊢;simpa[newVar,newRow]using this
def Wo {s:TypeId} {fields:Array Field} {f:Nat} {fd:Field} {sz:Nat} (hu:P.underlying s=some (.struct fields)) (hf:fields[f]? =some fd) (hs:D6 P fd.type=some sz) (h0:sz≠0)
    (hR:Rel F Z w) {vx:V} {c:Value} (hx:Ab (Hh F Z w) vx c) (h:Kb fd.offset vx fun v=>k v Z):CW F Z w k kp ((Instr.fieldAt s c f).run P w):=by
 have hrun: ∀b o,c= .pointer (some ⟨b,o,none⟩)->(Instr.fieldAt s c f).run P w= .ok (.pointer (some ⟨b,o+fd.offset,none⟩)) w:=by
  rintro b o rfl;simp[Instr.fieldAt,BI hu,hf,Instr.sureAddr,fieldPlace,EA hs,h0,Ch]
 unfold Kb at h;split at h
 .obtain⟨b,o,hc,hv⟩:=hx
  rw[hrun b o hc];exact As hR h ⟨b,_,rfl,Jl hv _⟩
 .rw[hrun _ _ hx]
  exact As hR h rfl
 .simp only[Ab]at hx
  rw[hrun _ _ hx,Nat.add_assoc];exact As hR h rfl
 .exact h.elim
def ZR {t:TypeId} {agg:Option Nat} (hA:Ii P t=some agg) {H:Nat->Nat->Option Value} {c:Array Value} {off:Nat} {vs:List V} (hs:c.size=vs.length) (hv:BT H (fun i=>c[i]?) 0 vs)
    {K:V->Prop} (hk:cut agg vs off K) (w:World): ∃v d,(part t c off).run P w= .ok d w/\Ab H v d/\K v:=by
 obtain⟨h1,h2⟩:=R0 hA w;unfold part;simp only[DG,h1,Result.andThen];cases agg with
 | none=>
   simp only[cut]at hk;split at hk
   .rename_i v hv'
    obtain⟨d,hd,hr⟩:=BW.1 hv off v hv';refine⟨v,d,?_,hr,hk⟩;simp only[Gj]at hd;simp[hd]
   .exact hk.elim
 | some n=>
   simp only[cut]at hk;refine⟨.a ((vs.drop off).take n),.agg (c.extract off (off+n)),by simp[h2 n rfl],⟨_,rfl,by simp;omega,?_⟩,hk.2⟩;refine BA (Rn (Jl hv off) n) (fun i hi=>?_);simp at hi;rw[Array.getElem?_extract_of_lt (by omega)];rw[show 0+off+i=off+(0+i) by omega];exact(Array.getElem?_eq_getElem (by omega)).symm
def Wn {s:TypeId} {fields:Array Field} {f:Nat} {fd:Field} {agg:Option Nat} (hu:P.underlying s=some (.struct fields)) (hf:fields[f]? =some fd) (hA:Ii P fd.type=some agg)
    (hR:Rel F Z w) {cs:List V} {c:Value} (hx:Ab (Hh F Z w) (.a cs) c) (h:cut agg cs fd.offset fun v=>k v Z):CW F Z w k kp ((Instr.field s c f).run P w):=by
 obtain⟨c',rfl,h1,h2⟩:=hx;obtain⟨v,d,h3,h4,h5⟩:=ZR hA h1 h2 h w;simp only[Instr.field,DG,BI hu,Result.andThen,hf,asAgg,Ej,h3];exact FN hR h4 h5
def Wm {t e:TypeId} {len sz:Nat} {agg:Option Nat} (hu:P.underlying t=some (.array len e)) (hs:D6 P e=some sz) (hA:Ii P e=some agg)
    (hR:Rel F Z w) {vx vi:V} {cx ci:Value} (hx:Ab (Hh F Z w) vx cx) (hi:Ab (Hh F Z w) vi ci) (h:Ka len sz agg vx vi fun v=>k v Z):CW F Z w k kp ((Instr.index t cx ci).run P w):=by
 unfold Ka at h;split at h
 .rename_i cs ki j
  obtain⟨h0,h1,h⟩:=h;obtain⟨c',rfl,h2,h3⟩:=hx;obtain⟨rfl,_⟩:=hi;obtain⟨v,d,h4,h5,h6⟩:=ZR hA h2 h3 h w;simp only[Instr.index,DG,asIntOf,Ej,Result.andThen,BI hu,h0,h1,and_self,if_true,EA hs,h4];exact FN hR h5 h6
 .exact h.elim
def run_indexAt_slice {t e:TypeId} {sz:Nat} (hu:P.underlying t=some (.slice e)) (hs:D6 P e=some sz) {b o:Nat} {n cap:Nat} {j:Int} {ki:IntKind} (h0:0<=j) (h1:j<n) :
    (Instr.indexAt t (.slice (some ⟨b,o,none⟩) n cap) (.int ki j)).run P w= .ok (.pointer (some ⟨b,o+j.toNat*sz,none⟩)) w:=by
 simp[Instr.indexAt,asIntOf,BI hu,h0,h1,EA hs,Ch]
def run_indexAt_array {t e:TypeId} {sz m:Nat} (hu:P.underlying t=some (.array m e)) (hs:D6 P e=some sz) {b o:Nat} {j:Int} {ki:IntKind} (h0:0<=j) (h1:j<m) :
    (Instr.indexAt t (.pointer (some ⟨b,o,none⟩)) (.int ki j)).run P w= .ok (.pointer (some ⟨b,o+j.toNat*sz,none⟩)) w:=by
 simp[Instr.indexAt,asIntOf,BI hu,h0,h1,EA hs,Ch,Instr.sureAddr]
def Ma {t e:TypeId} {sz:Nat} (hu:P.underlying t=some (.slice e)) (hs:D6 P e=some sz)
    (hR:Rel F Z w) {vx vi:V} {cx ci:Value} (hx:Ab (Hh F Z w) vx cx) (hi:Ab (Hh F Z w) vi ci) (h:AR sz none vx vi fun v=>k v Z):CW F Z w k kp ((Instr.indexAt t cx ci).run P w):=by
 cases vi<;>simp only[AR]at h
 rename_i ki j;obtain⟨rfl,_⟩:=hi;cases vx<;>simp only at h
 .rename_i es full
  obtain⟨h0,e',he,hl,h⟩:=h;obtain⟨a,cap,rfl,_,_,_,_,h6⟩:=hx;have hlt:=(IN.1 he).1;obtain⟨b,o,s,rfl,h7⟩:=h6 (by rintro rfl;simp at he);obtain⟨h8,h9⟩:=BE.1 h7 _ _ he;have:s=sz:=by omega
  subst this;rw[run_indexAt_slice hu hs h0 (by omega)];exact As hR h ⟨b,_,rfl,h9⟩
 .rename_i n len cap
  obtain⟨h0,h1,h⟩:=h;obtain⟨rfl,_⟩:=hx;rw[run_indexAt_slice hu hs h0 h1];exact As hR h (by simp[Ab])
 .rename_i n s off len
  obtain⟨rfl,h0,h1,h⟩:=h;obtain⟨a,cap,rfl,_,h3⟩:=hx;obtain rfl:=h3 (by omega);rw[run_indexAt_slice hu hs h0 h1];exact As hR h (by simp[Ab,Nat.add_mul])
def Mb {t e:TypeId} {sz m:Nat} (hu:P.underlying t=some (.array m e)) (hs:D6 P e=some sz)
    (hR:Rel F Z w) {vx vi:V} {cx ci:Value} (hx:Ab (Hh F Z w) vx cx) (hi:Ab (Hh F Z w) vi ci) (h:AR sz (some m) vx vi fun v=>k v Z):CW F Z w k kp ((Instr.indexAt t cx ci).run P w):=by
 cases vi<;>simp only[AR]at h
 rename_i ki j;obtain⟨rfl,_⟩:=hi;cases vx<;>simp only at h
 .rename_i n o
  obtain⟨h0,h1,h⟩:=h;simp only[Ab]at hx;subst hx;rw[run_indexAt_array hu hs h0 h1];exact As hR h rfl
 .rename_i cs
  obtain⟨h0,h1,h⟩:=h;obtain⟨b,o,rfl,hv⟩:=hx;rw[run_indexAt_array hu hs h0 h1];exact As hR h ⟨b,_,rfl,Jl hv _⟩
 .rename_i n s q o
  obtain⟨h0,h1,h⟩:=h;simp only[Ab]at hx;subst hx;rw[run_indexAt_array hu hs h0 h1,Nat.add_assoc];exact As hR h rfl
end Go.Gl
