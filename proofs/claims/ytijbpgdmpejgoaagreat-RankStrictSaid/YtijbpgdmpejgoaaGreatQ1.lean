import Derived.OrdersIn
import Derived.Below
import Derived.Laws.Cells
import Derived.Laws.Rows
import Derived.Laws.World
import Derived.Laws.Slices
import Derived.Laws.Build
import Derived.WideShapes4
import Derived.OpenShut
set_option linter.all false
set_option linter.unusedVariables false
set_option linter.unusedSimpArgs false
namespace Go.Gl
theorem nb {n m:Nat} (h:Nat.ble n m=true:=by exact rfl):n≤m:=Nat.le_of_ble_eq_true h
abbrev Fs:=@List.getElem?_eq_getElem
abbrev Fo:=@List.mem_of_getElem?
abbrev Ce:=@List.length_map
abbrev FA:=@List.getD_eq_getElem?_getD
abbrev DU:=@decide_eq_true_eq
abbrev BO:=@Bool.and_eq_true
abbrev Rv:=@List.getElem?_map
abbrev Ha:=@Option.some.injEq
abbrev Ru:=@List.mem_append_left
abbrev US:=@List.mem_append_right
abbrev qv:=@List.getElem?_append_left
abbrev FQ:=@List.mem_append
abbrev GL:=@List.all_eq_true
abbrev Ls:=@Bool.false_eq_true
abbrev UE:=@List.length_append
abbrev Mu:=@List.length_cons
abbrev Oe:=@List.mem_map
abbrev ZB:=@Option.map_some
abbrev qu:=@List.getElem?_cons_zero
abbrev wQ:=@List.getElem?_cons_succ
abbrev qt:=@Array.getElem?_eq_some_iff
abbrev UD:=@List.length_take
abbrev wF:=@List.getElem?_drop
abbrev G3:=@List.mem_cons
abbrev UR:=@List.append_assoc
abbrev Mt:=@List.mem_filter
abbrev Dp:=@beq_iff_eq
end Go.Gl
namespace Go.Gl
def Ax:Nat:=17592186044416
inductive V where
 | b (x:Bool)
 | i (k:IntKind) (n:Int)
 | s (x:ByteArray)
 | pn
 | p (n off:Nat)
 | rp (cs:List V)
 | l (es:List (List V)) (full:Bool)
 | sl (n len cap:Nat)
 | sv (n sz off len:Nat)
 | pe (n sz i off:Nat)
 | m (n:Nat)
 | mn
 | f (fn:Fn) (first cap:List V)
 | GP
 | ET (t:TypeId) (v:V)
 | DN
 | a (cs:List V)
 | t (vs:List V)
 | any
 deriving Inhabited
mutual
def AZ (H:Nat→Nat→Option Value):V→Value→Prop
 | .b x,c=>c= .bool x
 | .i k n,c=>c= .int k n∧k.min≤n∧n≤k.max
 | .s x,c=>c= .string x
 | .pn,c=>c= .pointer none
 | .p n off,c=>c= .pointer (some ⟨n,off,none⟩)
 | .rp cs,c=> ∃b o,c= .pointer (some ⟨b,o,none⟩)∧BV H (H b) o cs
 | .l es full,c=> ∃a cap,c= .slice a es.length cap∧es.length≤cap∧(full=true→cap=es.length)∧es.length≤Ax∧(a=none→cap=0)∧
  (es≠[]→ ∃b o sz,a=some ⟨b,o,none⟩∧BH H (H b) sz o es)
 | .sl n len cap,c=>c= .slice (some ⟨n,0,none⟩) len cap∧len≤cap
 | .sv n sz off len,c=> ∃a cap,c= .slice a len cap∧len≤cap∧(len≠0→a=some ⟨n,off*sz,none⟩)
 | .pe n sz i off,c=>c= .pointer (some ⟨n,i*sz+off,none⟩)
 | .m n,c=>c= .map (some n)
 | .mn,c=>c= .map none
 | .f fn first cap,c=> ∃f' c',c= .func fn f' c'∧f'.size=first.length∧BV H (fun i=>f'[i]?) 0 first∧c'.size=cap.length∧BV H (fun i=>c'[i]?) 0 cap
 | .GP,c=>c= .nilFunc
 | .ET t v,c=> ∃c',c= .iface t c'∧AZ H v c'
 | .DN,c=>c= .nilIface
 | .a cs,c=> ∃c',c= .agg c'∧c'.size=cs.length∧BV H (fun i=>c'[i]?) 0 cs
 | .t vs,c=> ∃c',c= .tuple c'∧c'.size=vs.length∧BV H (fun i=>c'[i]?) 0 vs
 | .any,_=>True
def BV (H:Nat→Nat→Option Value) (g:Nat→Option Value):Nat→List V→Prop
 | _,[]=>True
 | o,v::vs=>(∃c,g o=some c∧AZ H v c)∧BV H g (o+1) vs
def BH (H:Nat→Nat→Option Value) (g:Nat→Option Value) (sz:Nat):Nat→List (List V)→Prop
 | _,[]=>True
 | o,e::es=>e.length=sz∧BV H g o e∧BH H g sz (o+sz) es
end
inductive wO where
 | ready
 | ret
 | exit (id:Nat)
inductive O where
 | cs (vs:List V)
 | arr (sz:Nat) (es:List (List V)) (cap:Nat)
 | map (kvs:List (V×V))
 | loop (st:wO) (env:List (Nat×V)) (ok:FuncId→Array Tmp→Code→Code→Nat→Prop)
 deriving Inhabited
def rB:wO→Loop→Prop
 | .ready,lp=>lp.state= .ready∧lp.pending=none
 | .ret,lp=>lp.state= .done∧lp.pending=some .ret
 | .exit id,lp=>lp.state= .done∧lp.pending=some (.exit id)
def Ev (H:Nat→Nat→Option Value):List (V×V)→List MapEntry→Prop
 | [],[]=>True
 | (k,v)::r,e::es=>AZ H k e.key∧AZ H v e.val∧Ev H r es
 | _,_=>False
def Ou (H:Nat→Nat→Option Value):O→Obj→Prop
 | .cs vs,o=> ∃c e,o= .cells c e (0,0)∧c.size=vs.length∧BV H (fun i=>c[i]?) 0 vs
 | .arr sz es cap,o=> ∃c e,o= .cells c e (0,0)∧cap*sz≤c.size∧es.length≤cap∧es.length≤Ax∧BH H (fun i=>c[i]?) sz 0 es
 | .map kvs,o=> ∃es clk,o= .map es clk∧Ev H kvs es.toList∧es.toList.Pairwise (fun a b=>a.key≠b.key)
 | .loop st env ok,o=> ∃lp,o= .loop lp∧rB st lp∧(∀k v,(k,v)∈env→ ∃c,lp.tmps[k]? =some c∧AZ H v c)∧ok lp.fn lp.params lp.assign lp.body lp.tmps.size
abbrev AG:=Nat→Option O
noncomputable def Hh (Λ:Nat→Prop) (σ:AG) (w:World) (b o:Nat):Option Value:=
 open Classical in if Λ b∨(σ b).isSome=true then none else w.cell? ⟨b,o,none⟩
structure Rel (Λ:Nat→Prop) (σ:AG) (w:World):Prop where
 own: ∀n o,σ n=some o→ ¬Λ n∧ ∃ob,w.heap[n]? =some ob∧Ou (Hh Λ σ w) o ob
 lock: ∀n,Λ n→n<w.heap.size
structure B5 (Λ:Nat→Prop) (σ:AG) (w:World) (σ':AG) (w':World):Prop where
 frame: ∀n,n<w.heap.size→σ n=none→w'.heap[n]? =w.heap[n]?
 size:w.heap.size≤w'.heap.size
 os:w'.os=w.os
 tape:w'.tape=w.tape
 output:w'.output=w.output
 names: ∀n,σ n=none→n<w.heap.size→σ' n=none
theorem B5.refl (Λ:Nat→Prop) (σ:AG) (w:World):B5 Λ σ w σ w:=
 ⟨fun _ _ _=>rfl,Nat.le_refl _,rfl,rfl,rfl,fun _ h _=>h⟩
theorem B5.trans {Λ:Nat→Prop} {σ σ' σ'':AG} {w w' w'':World} (h:B5 Λ σ w σ' w') (k:B5 Λ σ' w' σ'' w''):B5 Λ σ w σ'' w'' where
 frame n hn h0:=(k.frame n (Nat.lt_of_lt_of_le hn h.size) (h.names n h0 hn)).trans (h.frame n hn h0)
 size:=Nat.le_trans h.size k.size
 os:=k.os.trans h.os
 tape:=k.tape.trans h.tape
 output:=k.output.trans h.output
 names n h0 hn:=k.names n (h.names n h0 hn) (Nat.lt_of_lt_of_le hn h.size)
def V7 (H H':Nat→Nat→Option Value):Prop:= ∀b o c,H b o=some c→H' b o=some c
mutual
theorem AZ.mono {H H':Nat→Nat→Option Value} (hle:V7 H H'): ∀(v:V) (c:Value),AZ H v c→AZ H' v c
 | .b _,_,h| .i _ _,_,h| .s _,_,h| .pn,_,h| .p _ _,_,h| .sl _ _ _,_,h| .sv _ _ _ _,_,h| .pe _ _ _ _,_,h| .m _,_,h| .mn,_,h| .GP,_,h| .DN,_,h| .any,_,h=>by
   simp only[AZ]at h ⊢
   try exact h
 | .rp cs,_,h=>by
   simp only[AZ]at h ⊢;obtain⟨b,o,rfl,h⟩:=h;exact⟨b,o,rfl,BV.mono hle (fun i c e=>hle b i c e) cs o h⟩
 | .l es full,_,h=>by
   simp only[AZ]at h ⊢;obtain⟨a,cap,h1,h2,h3,h4,h5,h6⟩:=h;refine⟨a,cap,h1,h2,h3,h4,h5,fun hne=>?_⟩;obtain⟨b,o,sz,h7,h8⟩:=h6 hne;exact⟨b,o,sz,h7,BH.mono hle (fun i c e=>hle b i c e) sz es o h8⟩
 | .f fn first cap,_,h=>by
   simp only[AZ]at h ⊢;obtain⟨f',c',h1,h2,h3,h4,h5⟩:=h;exact⟨f',c',h1,h2,BV.mono hle (fun _ _ e=>e) first 0 h3,h4,BV.mono hle (fun _ _ e=>e) cap 0 h5⟩
 | .ET t v,_,h=>by
   simp only[AZ]at h ⊢;obtain⟨c',h1,h2⟩:=h;exact⟨c',h1,AZ.mono hle v c' h2⟩
 | .a cs,_,h=>by
   simp only[AZ]at h ⊢;obtain⟨c',h1,h2,h3⟩:=h;exact⟨c',h1,h2,BV.mono hle (fun _ _ e=>e) cs 0 h3⟩
 | .t cs,_,h=>by
   simp only[AZ]at h ⊢;obtain⟨c',h1,h2,h3⟩:=h;exact⟨c',h1,h2,BV.mono hle (fun _ _ e=>e) cs 0 h3⟩
theorem BV.mono {H H':Nat→Nat→Option Value} (hle:V7 H H') {g g':Nat→Option Value} (hg: ∀i c,g i=some c→g' i=some c) :
 ∀(vs:List V) (o:Nat),BV H g o vs→BV H' g' o vs
 | [],_,_=>trivial
 | v::vs,o,h=>by
   simp only[BV]at h ⊢;obtain⟨⟨c,h1,h2⟩,h3⟩:=h;exact⟨⟨c,hg _ _ h1,AZ.mono hle v c h2⟩,BV.mono hle hg vs (o+1) h3⟩
theorem BH.mono {H H':Nat→Nat→Option Value} (hle:V7 H H') {g g':Nat→Option Value} (hg: ∀i c,g i=some c→g' i=some c) (sz:Nat) :
 ∀(es:List (List V)) (o:Nat),BH H g sz o es→BH H' g' sz o es
 | [],_,_=>trivial
 | e::es,o,h=>by
   simp only[BH]at h ⊢;obtain⟨h1,h2,h3⟩:=h;exact⟨h1,BV.mono hle hg e o h2,BH.mono hle hg sz es (o+sz) h3⟩
end
theorem Ev.mono {H H':Nat→Nat→Option Value} (hle:V7 H H'): ∀(r:List (V×V)) (es:List MapEntry),Ev H r es→Ev H' r es
 | [],[],_=>trivial
 | (k,v)::r,e::es,h=>by
   simp only[Ev]at h ⊢;exact⟨AZ.mono hle _ _ h.1,AZ.mono hle _ _ h.2.1,Ev.mono hle r es h.2.2⟩
 | [],_::_,h=>h.elim
 | _::_,[],h=>h.elim
theorem Ou.mono {H H':Nat→Nat→Option Value} (hle:V7 H H') {o:O} {ob:Obj} (h:Ou H o ob):Ou H' o ob:=by
 cases o with
 | cs vs=>obtain⟨c,e,h1,h2,h3⟩:=h;exact⟨c,e,h1,h2,BV.mono hle (fun _ _ e=>e) _ _ h3⟩
 | arr sz es cap=>obtain⟨c,e,h1,h2,h3,h4,h5⟩:=h;exact⟨c,e,h1,h2,h3,h4,BH.mono hle (fun _ _ e=>e) _ _ _ h5⟩
 | map kvs=>obtain⟨es,clk,h1,h2,h3⟩:=h;exact⟨es,clk,h1,Ev.mono hle _ _ h2,h3⟩
 | loop st env ok=>obtain⟨lp,h1,h2,h3,h4⟩:=h;exact⟨lp,h1,h2,fun k v hm=>let⟨c,h5,h6⟩:=h3 k v hm;⟨c,h5,h6.mono hle⟩,h4⟩
theorem FM {Λ:Nat→Prop} {σ:AG} {w:World} {b o:Nat} {c:Value} (h:Hh Λ σ w b o=some c) :
 ¬Λ b∧σ b=none∧w.cell? ⟨b,o,none⟩=some c:=by
 unfold Hh at h;split at h
 ·cases h
 ·rename_i hn
  refine⟨fun hl=>hn (.inl hl),?_,h⟩;cases hs:σ b with
  | none=>rfl
  | some o=>exact absurd (.inr (by simp[hs])) hn
theorem L2 {Λ:Nat→Prop} {σ:AG} {w:World} {b o:Nat} (h1: ¬Λ b) (h2:σ b=none):Hh Λ σ w b o=w.cell? ⟨b,o,none⟩:=by
 unfold Hh;rw[if_neg];simp[h1,h2]
theorem j4 {w:World} {b o:Nat} {c:Value} (h:w.cell? ⟨b,o,none⟩=some c):b<w.heap.size:=by
 unfold World.cell? at h;rcases Nat.lt_or_ge b w.heap.size with h'|h'
 ·exact h'
 ·simp[Array.getElem?_eq_none h']at h
theorem B5.hle {Λ:Nat→Prop} {σ σ':AG} {w w':World} (h:B5 Λ σ w σ' w'):V7 (Hh Λ σ w) (Hh Λ σ' w'):=by
 intro b o c hc;obtain⟨h1,h2,h3⟩:=FM hc;have hb:=j4 h3;rw[L2 h1 (h.names b h2 hb),World.cell?_of_block (w:=w) (h.frame b hb h2)];exact h3
theorem El {Λ:Nat→Prop} {σ σ':AG} {w:World} (hs: ∀n,σ n=none→σ' n=none):V7 (Hh Λ σ w) (Hh Λ σ' w):=by
 intro b o c hc;obtain⟨h1,h2,h3⟩:=FM hc;rw[L2 h1 (hs b h2)];exact h3
def Sub (σ' σ:AG):Prop:= ∀n o,σ' n=some o→σ n=some o
theorem Sub.none {σ' σ:AG} (h:Sub σ' σ) {n:Nat} (hn:σ n=none):σ' n=none:=by
 cases h':σ' n with
 | none=>rfl
 | some o=>rw[h n o h']at hn;cases hn
theorem Sub.refl (σ:AG):Sub σ σ:=fun _ _ h=>h
theorem Sub.trans {a b c:AG} (h:Sub a b) (k:Sub b c):Sub a c:=fun n o e=>k n o (h n o e)
theorem Rel.drop {Λ:Nat→Prop} {σ σ':AG} {w:World} (h:Rel Λ σ w) (hs:Sub σ' σ):Rel Λ σ' w where
 own n o ho:=by
  obtain⟨h1,ob,h2,h3⟩:=h.own n o (hs n o ho);exact⟨h1,ob,h2,Ou.mono (El fun n hn=>hs.none hn) h3⟩
 lock:=h.lock
theorem B5.drop {Λ:Nat→Prop} {σ σ':AG} (w:World) (hs:Sub σ' σ):B5 Λ σ w σ' w:=
 ⟨fun _ _ _=>rfl,Nat.le_refl _,rfl,rfl,rfl,fun _ hn _=>hs.none hn⟩
end Go.Gl
namespace Go.Gl
abbrev Env:=List (Nat×V)
def get (k:Nat):Env→Option V
 | []=>none
 | (j,v)::r=>bif Nat.beq j k then some v else get k r
inductive Bj where
 | t (n:Nat)
 | c (v:V)
 deriving Inhabited
def ev (env:Env):Bj→Option V
 | .t n=>get n env
 | .c v=>some v
def Rt (env:Env):List Bj→Option (List V)
 | []=>some []
 | x::r=>match ev env x,Rt env r with
   | some v,some vs=>some (v::vs)
   | _,_=>none
def BI (σ:AG) (n:Nat) (o:O):AG:=fun k=>if k=n then some o else σ k
def del (σ:AG) (n:Nat):AG:=fun k=>if k=n then none else σ k
mutual
inductive F6 (σ σ':AG):V→V→Prop
 | refl (v:V):F6 σ σ' v v
 | arr {n sz cap len:Nat} {es es':List (List V)}:σ n=some (.arr sz es cap)→σ' n=none→len=es.length→Fq σ σ' es es'→F6 σ σ' (.sl n len cap) (.l es' false)
 | cs {n:Nat} {vs vs':List V}:σ n=some (.cs vs)→σ' n=none→EE σ σ' vs vs'→F6 σ σ' (.p n 0) (.rp vs')
 | a {vs vs':List V}:EE σ σ' vs vs'→F6 σ σ' (.a vs) (.a vs')
 | t {vs vs':List V}:EE σ σ' vs vs'→F6 σ σ' (.t vs) (.t vs')
 | ET {t:TypeId} {v v':V}:F6 σ σ' v v'→F6 σ σ' (.ET t v) (.ET t v')
 | l {es es':List (List V)} {f f':Bool}:(f'=true→f=true)→Fq σ σ' es es'→F6 σ σ' (.l es f) (.l es' f')
 | rp {vs vs':List V}:EE σ σ' vs vs'→F6 σ σ' (.rp vs) (.rp vs')
 | f {fn:Fn} {a a' b b':List V}:EE σ σ' a a'→EE σ σ' b b'→F6 σ σ' (.f fn a b) (.f fn a' b')
 | any {v:V}:F6 σ σ' v .any
inductive EE (σ σ':AG):List V→List V→Prop
 | nil:EE σ σ' [] []
 | cons {v v':V} {vs vs':List V}:F6 σ σ' v v'→EE σ σ' vs vs'→EE σ σ' (v::vs) (v'::vs')
inductive Fq (σ σ':AG):List (List V)→List (List V)→Prop
 | nil:Fq σ σ' [] []
 | cons {v v':List V} {vs vs':List (List V)}:EE σ σ' v v'→Fq σ σ' vs vs'→Fq σ σ' (v::vs) (v'::vs')
end
inductive KS where
 | i (k:IntKind)
 | a (l:List IntKind)
 | s
 deriving Inhabited
inductive EW where
 | mv (x:Bj)
 | ZF (x:Bj)
 | pick (c a b:Bj)
 | bin (op:BinOp) (x y:Bj)
 | V5 (neg:Bool) (x y:Bj)
 | ZG (len:Nat) (neg:Bool) (x y:Bj)
 | UN (kind:Nat) (neg:Bool) (x:Bj)
 | not (x:Bj)
 | neg (xor:Bool) (x:Bj)
 | conv(k:IntKind) (x:Bj)
 | box (x:Bj)
 | MS (x:Bj)
 | Oq (sz bytes:Nat) (x y:Bj)
 | alloc (zero:List V)
 | build (zero:List V) (parts:List (Nat×Nat×Bj))
 | Am (sz len:Nat) (zero:List V) (parts:List (Nat×Bj))
 | load (agg:Option Nat) (x:Bj)
 | store (sz:Nat) (a x:Bj)
 | GZ (off:Nat) (x:Bj)
 | field (agg:Option Nat) (off:Nat) (x:Bj)
 | BG (sz:Nat) (arr:Option Nat) (x i:Bj)
 | index (len sz:Nat) (agg:Option Nat) (x i:Bj)
 | slice (sz:Nat) (x:Bj) (lo hi mx:Option Bj)
 | len (x:Bj)
 | QP (x:Bj)
 | str (x:Bj)
 | Oj (x i:Bj)
 | append (sz bytes:Nat) (x y:Bj)
 | copy (sz:Nat) (x y:Bj)
 | MP (x y:Bj)
 | Om (x y:Bj)
 | extract (i:Nat) (x:Bj)
 | D5 (x:Bj)
 | GN (f:Fn) (first cap:List Bj)
 | Fw
 | EK (sz bytes:Nat) (zero:List V) (len cap:Bj)
 | lookup (ks:KS) (zero:V) (ok:Bool) (m k:Bj)
 | Cw (ks:KS) (m k v:Bj)
 | Ep (t:TypeId) (x:Bj)
 | V2 (t:TypeId) (zero:V) (ok:Bool) (x:Bj)
 | panic (x:Bj)
 | call (f:FuncId) (args:List Bj)
 | Iy (f:FuncId) (args:List Bj)
 | Bs (x:Bj) (args:List Bj)
 | U6 (x:Bj) (args:List Bj)
 | inv (tab:List (TypeId×FuncId)) (x:Bj) (args:List Bj)
 deriving Inhabited
abbrev wv (o:Option V) (k:V→Prop):Prop:=match o with|some v=>k v|none=>False
@[simp] theorem EJ (v:V) (k:V→Prop):wv (some v) k=k v:=rfl
@[simp] theorem ABF (k:V→Prop):wv none k=False:=rfl
def bits (op:BinOp) (k:IntKind) (x y:Int):Int:=
 let a:=BitVec.ofInt k.bits x
 let b:=BitVec.ofInt k.bits y
 k.wrap (match op with
  | .and=>a&&&b
  | .or=>a|||b
  | .xor=>a ^^^ b
  | _=>a&&& ~~~b:BitVec k.bits).toNat
def R3 (op:BinOp) (x y:V) (k:V→Prop):Prop:=
 match x,y with
 | .i ka a,.i kb b=>
   match op with
   | .add=>ka=kb∧k (.i ka (ka.wrap (a+b)))
   | .sub=>ka=kb∧k (.i ka (ka.wrap (a - b)))
   | .mul=>ka=kb∧k (.i ka (ka.wrap (a*b)))
   | .quo=>ka=kb∧b≠0∧k (.i ka (ka.wrap (a.tdiv b)))
   | .rem=>ka=kb∧b≠0∧k (.i ka (a.tmod b))
   | .eql=>ka=kb∧k (.b (a==b))
   | .neq=>ka=kb∧k (.b (a != b))
   | .lss=>ka=kb∧k (.b (decide (a<b)))
   | .leq=>ka=kb∧k (.b (decide (a≤b)))
   | .gtr=>ka=kb∧k (.b (decide (a > b)))
   | .geq=>ka=kb∧k (.b (decide (a≥b)))
   | .shl=>0≤b∧k (.i ka (ka.wrap (a*2 ^ (min b.toNat ka.bits))))
   | .shr=>0≤b∧k (.i ka (a.fdiv (2 ^ (min b.toNat ka.bits))))
   | op=>ka=kb∧k (.i ka (bits op ka a b))
 | _,_=>False
def cellsOf:V→Option (List V)
 | .a cs=>some cs
 | .t _=>none
 | .any=>none
 | v=>some [v]
def B7:V→Bool
 | .a _=>false
 | .t _=>false
 | .any=>false
 | _=>true
def putAt:List V→Nat→List V→List V
 | cs,_,[]=>cs
 | cs,o,v::vs=>putAt (cs.set o v) (o+1) vs
def Iw (env:Env):List V→List (Nat×Nat×Bj)→Option (List V)
 | cs,[]=>some cs
 | cs,(off,sz,x)::r=>
   match ev env x with
   | some v=>match cellsOf v with
     | some vc=>bif Nat.beq vc.length sz&&Nat.ble (off+sz) cs.length then Iw env (putAt cs off vc) r else none
     | none=>none
   | none=>none
def Hn (env:Env) (sz:Nat):List (List V)→List (Nat×Bj)→Option (List (List V))
 | es,[]=>some es
 | es,(i,x)::r=>
   match ev env x with
   | some v=>match cellsOf v with
     | some vc=>bif Nat.beq vc.length sz&&Nat.blt i es.length then Hn env sz (es.set i vc) r else none
     | none=>none
   | none=>none
def cut (agg:Option Nat) (cs:List V) (off:Nat) (k:V→Prop):Prop:=
 match agg with
 | none=>match cs[off]? with|some v=>k v|none=>False
 | some n=>off+n≤cs.length∧k (.a ((cs.drop off).take n))
def NG (σ:AG) (n off:Nat) (agg:Option Nat) (k:V→Prop):Prop:=
 match σ n with
 | some (.cs vs)=>cut agg vs off k
 | _=>False
def NH (σ:AG) (n sz i off:Nat) (agg:Option Nat) (k:V→Prop):Prop:=
 match σ n with
 | some (.arr sz' es _)=>sz=sz'∧match es[i]? with|some e=>cut agg e off k|none=>False
 | _=>False
def An (σ:AG) (agg:Option Nat) (x:V) (k:V→Prop):Prop:=
 match x with
 | .rp cs=>cut agg cs 0 k
 | .p n off=>NG σ n off agg k
 | .pe n sz i off=>NH σ n sz i off agg k
 | _=>False
def Af (σ:AG) (sz:Nat) (a x:V) (k:AG→Prop):Prop:=
 match cellsOf x with
 | some vc=>
   vc.length=sz∧vc.all B7=true∧match a with
   | .p n off=>match σ n with
     | some (.cs vs)=>off+sz≤vs.length∧k (BI σ n (.cs (putAt vs off vc)))
     | _=>False
   | .pe n s i off=>match σ n with
     | some (.arr s' es cap)=>s=s'∧match es[i]? with
       | some e=>off+sz≤s∧k (BI σ n (.arr s (es.set i (putAt e off vc)) cap))
       | none=>False
     | _=>False
   | _=>False
 | none=>False
def JH (off:Nat) (x:V) (k:V→Prop):Prop:=
 match x with
 | .rp cs=>k (.rp (cs.drop off))
 | .p n o=>k (.p n (o+off))
 | .pe n sz i o=>k (.pe n sz i (o+off))
 | _=>False
def Ab (sz:Nat) (arr:Option Nat) (x i:V) (k:V→Prop):Prop:=
 match i with
 | .i _ j=>match arr,x with
   | none,.l es _=>0≤j∧ ∃e,es[j.toNat]? =some e∧e.length=sz∧k (.rp e)
   | none,.sl n len _=>0≤j∧j<len∧k (.pe n sz j.toNat 0)
   | none,.sv n s off len=>s=sz∧0≤j∧j<len∧k (.pe n sz (off+j.toNat) 0)
   | some m,.rp cs=>0≤j∧j<m∧k (.rp (cs.drop (j.toNat*sz)))
   | some m,.p n o=>0≤j∧j<m∧k (.p n (o+j.toNat*sz))
   | some m,.pe n s q o=>0≤j∧j<m∧k (.pe n s q (o+j.toNat*sz))
   | _,_=>False
 | _=>False
def JG (len sz:Nat) (agg:Option Nat) (x i:V) (k:V→Prop):Prop:=
 match x,i with
 | .a cs,.i _ j=>0≤j∧j<len∧cut agg cs (j.toNat*sz) k
 | _,_=>False
def NL (x i:V) (k:V→Prop):Prop:=
 match x,i with
 | .s b,.i _ j=>0≤j∧match b.data.toList[j.toNat]? with|some c=>k (.i .u8 c.toNat)|none=>False
 | _,_=>False
def BZ (x:V) (k:V→Prop):Prop:=
 match x with
 | .l es _=>k (.i .i64 es.length)
 | .sl _ len _=>len≤Ax∧k (.i .i64 len)
 | .sv _ _ _ len=>len≤Ax∧k (.i .i64 len)
 | _=>False
def It (σ:AG) (x:V) (k:V→Prop):Prop:=
 match x with
 | .m n=>match σ n with
   | some (.map kvs)=>kvs.length≤Ax∧k (.i .i64 kvs.length)
   | _=>False
 | .mn=>k (.i .i64 0)
 | _=>False
def rowsOf (σ:AG) (sz:Nat) (y:V) (k:List (List V)→Prop):Prop:=
 match y with
 | .l ys _=>(∀e∈ys,e.length=sz)∧k ys
 | .sl m len _=>match σ m with
   | some (.arr s ys _)=>s=sz∧len≤ys.length∧k (ys.take len)
   | _=>False
 | .sv m s off len=>match σ m with
   | some (.arr s' ys _)=>s=sz∧s'=sz∧off+len≤ys.length∧k ((ys.drop off).take len)
   | _=>False
 | _=>False
def Ea:List (List V)→Option (List Int)
 | []=>some []
 | [.i .u8 n]::r=>match Ea r with|some l=>some (n::l)|none=>none
 | _=>none
def ZU (σ:AG) (x:V) (k:V→Prop):Prop:=rowsOf σ 1 x fun ys=>match Ea ys with|some ns=>k (.s ⟨(ns.map fun n=>UInt8.ofNat n.toNat).toArray⟩)|none=>False
def AQ (b : Nat) (σ:AG) (sz:Nat) (x y:V) (k:V→AG→Prop):Prop:=
 rowsOf σ sz y fun ys=>
 (∀e∈ys,∀v∈e,B7 v=true)∧match x with
 | .l es full=>(∀e∈es,e.length=sz)∧(es.length+ys.length≤Ax∧(es.length+ys.length)*b≤140737488355328)∧(ys= []→k (.l es full) σ)∧
  (ys≠[]→full=true∧ ∀n cap,σ n=none→es.length+ys.length≤cap→k (.sl n (es.length+ys.length) cap) (BI σ n (.arr sz (es++ys) cap)))
 | .sl n len cap=>match σ n with
   | some (.arr s es c)=>s=sz∧c=cap∧len=es.length∧(es.length+ys.length≤Ax∧(es.length+ys.length)*b≤140737488355328)∧
    ∀ n' cap',del σ n n'=none→es.length+ys.length≤cap'→
      k (.sl n' (es.length+ys.length) cap') (BI (del σ n) n' (.arr sz (es++ys) cap'))
   | _=>False
 | _=>False
def M4 (σ:AG) (sz:Nat) (ys:List (List V)) (n off len:Nat) (k:V→AG→Prop):Prop:=
 match σ n with
 | some (.arr s es c)=>s=sz∧off+len≤es.length∧k (.i .i64 (min ys.length len:Nat)) (BI σ n (.arr s (es.take off++(ys.take (min ys.length len)++es.drop (off+min ys.length len))) c))
 | _=>False
def Az (σ:AG) (sz:Nat) (x y:V) (k:V→AG→Prop):Prop:=
 rowsOf σ sz y fun ys=>(∀e∈ys,∀v∈e,B7 v=true)∧match x with
 | .sl n len _=>M4 σ sz ys n 0 len k
 | .sv n s off len=>s=sz∧M4 σ sz ys n off len k
 | _=>False
def A4 (b:Nat) (σ:AG) (sz:Nat) (x y:V) (k:V→Prop):Prop:=
 rowsOf σ sz y fun ys=>
 (∀e∈ys,∀v∈e,B7 v=true)∧match x with
 | .l es full=>(∀e∈es,e.length=sz)∧(es.length+ys.length≤Ax∧(es.length+ys.length)*b≤140737488355328)∧(ys≠[]→full=true)∧k (.l (es++ys) false)
 | _=>False
def Oh (o:Option V) (d:Int) (k:Int→Prop):Prop:=
 match o with
 | none=>k d
 | some (.i _ n)=>k n
 | _=>False
def Ac (σ:AG) (sz:Nat) (x:V) (lo hi mx:Option V) (k:V→AG→Prop):Prop:=
 match x with
 | .l es full=>(∀e∈es,e.length=sz)∧Oh hi es.length fun h=>Oh lo 0 fun l=>0≤l∧l≤h∧h≤es.length∧
  match mx with
  | none=>k (.l ((es.take h.toNat).drop l.toNat) (full&&decide (h=es.length))) σ
  | some (.i _ m)=>m=h∧k (.l ((es.take h.toNat).drop l.toNat) true) σ
  | _=>False
 | .sl n len cap=>Oh hi len fun h=>Oh lo 0 fun l=>0≤l∧l≤h∧h≤len∧
  match mx with
  | none=>k (.sv n sz l.toNat (h - l).toNat) σ
  | some (.i _ m)=>m=h∧h=len∧l=0∧match σ n with
    | some (.arr s es c)=>s=sz∧c=cap∧len=es.length∧(k (.l es true) (del σ n)∨k (.sl n len len) (BI σ n (.arr s es len)))
    | _=>False
  | _=>False
 | .sv n s off len=>Oh hi len fun h=>Oh lo 0 fun l=>0≤l∧l≤h∧h≤len∧s=sz∧mx=none∧k (.sv n sz (off+l.toNat) (h - l).toNat) σ
 | _=>False
def GV (env:Env):Option Bj→Option (Option V)
 | none=>some none
 | some x=>match ev env x with|some v=>some (some v)|none=>none
abbrev wo (o:Option (Option V)) (k:Option V→Prop):Prop:=match o with|some v=>k v|none=>False
@[simp] theorem WS (v:Option V) (k:Option V→Prop):wo (some v) k=k v:=rfl
abbrev ws (o:Option (List V)) (k:List V→Prop):Prop:=match o with|some v=>k v|none=>False
@[simp] theorem ABG (v:List V) (k:List V→Prop):ws (some v) k=k v:=rfl
abbrev wr (o:Option (List (List V))) (k:List (List V)→Prop):Prop:=match o with|some v=>k v|none=>False
@[simp] theorem ABH (v:List (List V)) (k:List (List V)→Prop):wr (some v) k=k v:=rfl
def Bn:List V→List V→Option Bool
 | [],[]=>some true
 | .i k a::r,.i k' b::s=>if k=k' then(Bn r s).map ((a==b)&& ·)else none
 | _,_=>none
def QR (len:Nat) (neg:Bool) (x y:V) (k:V→Prop):Prop:=
 match x,y with
 | .a cs,.a ds=>match Nat.beq cs.length len,Bn cs ds with|true,some t=>k (.b (bif neg then !t else t))|_,_=>False
 | _,_=>False
def Hj (kind:Nat) (neg:Bool) (x:V) (k:V→Prop):Prop:=
 match kind,x with
 | 0,.pn=>k (.b (!neg))
 | 0,.rp _|0,.p _ _|0,.pe _ _ _ _=>k (.b neg)
 | 1,.sl _ _ _=>k (.b neg)
 | 1,.l es _=>(es= []→ ∀t,k (.b t))∧(es≠[]→k (.b neg))
 | 2,.DN=>k (.b (!neg))
 | 2,.ET _ _=>k (.b neg)
 | 3,.mn=>k (.b (!neg))
 | 3,.m _=>k (.b neg)
 | 4,.GP=>k (.b (!neg))
 | 4,.f _ _ _=>k (.b neg)
 | _,_=>False
def AR (σ:AG) (sz:Nat) (z:List V) (x y:V) (k:V→AG→Prop):Prop:=
 match x,y with
 | .i _ n,.i _ m=>0≤n∧n≤m∧m≤1073741824∧ ∀id,σ id=none→k (.sl id n.toNat m.toNat) (BI σ id (.arr sz (List.replicate n.toNat z) m.toNat))
 | _,_=>False
def DP:List IntKind→List V→Bool
 | [],[]=>true
 | q::l,.i q' _::cs=>decide (q=q')&&DP l cs
 | _,_=>false
def BM (ks:KS) (v:V):Bool:=
 match ks,v with
 | .i k,.i k' _=>decide (k=k')
 | .a l,.a cs=>DP l cs
 | .s,.s b=>Nat.ble b.size 1048576
 | _,_=>false
def DX (x y:V):Bool:=
 match x,y with
 | .i _ a,.i _ b=>a==b
 | .s b,.s c=>decide (b=c)
 | .a cs,.a ds=>(Bn cs ds).getD false
 | _,_=>false
def CR (key:V):List (V×V)→Option V
 | []=>none
 | (k,v)::r=>bif DX key k then some v else CR key r
def DW (key val:V):List (V×V)→List (V×V)
 | []=>[(key,val)]
 | (k,v)::r=>bif DX key k then(key,val)::r else(k,v)::DW key val r
def found (z:V) (ok:Bool) (o:Option V):V:=match o with|some v=>bif ok then .t [v,.b true]else v|none=>bif ok then .t [z,.b false]else z
def AW (σ:AG) (ks:KS) (z:V) (ok:Bool) (vm vk:V) (k:V→Prop):Prop:=
 BM ks vk=true∧match vm with
 | .m n=>match σ n with
   | some (.map kvs)=>(∀kv∈kvs,BM ks kv.1=true)∧k (found z ok (CR vk kvs))
   | _=>False
 | .mn=>k (found z ok none)
 | _=>False
def Aa (σ:AG) (ks:KS) (vm vk vv:V) (k:AG→Prop):Prop:=
 BM ks vk=true∧match vm with
 | .m n=>match σ n with
   | some (.map kvs)=>(∀kv∈kvs,BM ks kv.1=true)∧k (BI σ n (.map (DW vk vv kvs)))
   | _=>False
 | _=>False
inductive R where
 | ret (v:V)
 | Bi (v:V)
def SH (H:Nat→Nat→Option Value):R→Ending→Prop
 | .ret v,e=> ∃c,e= .returned c∧AZ H v c
 | .Bi v,e=> ∃c,e= .panicked [{v:=c,recovered:=false}]∧AZ H v c
def okF (P:Program) (f:FuncId):Bool:=
 match P.funcs[f]? with
 | some fn=>fn.body.isSome&&fn.name != "runtime.NumGoroutine"
 | none=>false
def ZH (H:Nat→Nat→Option Value) (vs:List V) (cs:Array Value):Prop:=cs.size=vs.length∧BV H (fun i=>cs[i]?) 0 vs
def BQ (P:Program) (f:FuncId) (args:List V) (σ:AG) (Q:R→AG→Prop):Prop:=
 okF P f=true∧ ∀(Λ:Nat→Prop) (w:World) (cs:Array Value),Rel Λ σ w→ZH (Hh Λ σ w) args cs→
  Calls P f cs w fun e w'=> ∃r σ',Q r σ'∧SH (Hh Λ σ' w') r e∧Rel Λ σ' w'∧B5 Λ σ w σ' w'
def MV (P:Program) (l:Nat) (args:List V) (σ:AG) (Q:R→AG→Prop):Prop:=
 ∀ (Λ:Nat→Prop) (w:World) (cs:Array Value),Rel Λ σ w→ZH (Hh Λ σ w) args cs→
   ∃ f tmps assign body,(Instr.yield l cs).run P w= .ok (.round l f tmps assign body) w∧
     RoundIn Fence.wide 0 P l f tmps assign body w fun e w'=> ∃r σ',Q r σ'∧SH (Hh Λ σ' w') r e∧Rel Λ σ' w'∧B5 Λ σ w σ' w'
def BT (P:Program) (x:V) (args:List V) (σ:AG) (Q:R→AG→Prop):Prop:=
 match x with
 | .f (.func f) first cap=>BQ P f (first++args++cap) σ Q
 | .f (.yield l) [] []=>MV P l args σ Q
 | _=>False
def look (t:TypeId):List (TypeId×FuncId)→Option FuncId
 | []=>none
 | (u,f)::r=>bif Nat.beq u t then some f else look t r
def Bf (P:Program) (tab:List (TypeId×FuncId)) (x:V) (args:List V) (σ:AG) (Q:R→AG→Prop):Prop:=
 match x with
 | .ET t v=>match look t tab with
   | some f=>BQ P f (v::args) σ Q
   | none=>False
 | _=>False
def qk (k kp:V→AG→Prop):R→AG→Prop
 | .ret v,σ=>k v σ
 | .Bi v,σ=>kp v σ
def Ei (P:Program) (o:EW) (env:Env) (σ:AG) (k kp:V→AG→Prop):Prop:=
 match o with
 | .mv x=>wv (ev env x) fun v=>k v σ
 | .ZF x=>wv (ev env x) fun v=> ∃vf σ2,Sub σ2 σ∧F6 σ σ2 v vf∧k vf σ2
 | .pick c a b=>wv (ev env c) fun vc=>wv (ev env a) fun va=>wv (ev env b) fun vb=>
  match vc with| .b t=>(match va,vb with| .b x,.b y=>k (.b (bif t then x else y)) σ|_,_=>k (bif t then va else vb) σ)|_=>False
 | .bin op x y=>wv (ev env x) fun vx=>wv (ev env y) fun vy=>R3 op vx vy fun v=>k v σ
 | .V5 neg x y=>wv (ev env x) fun vx=>wv (ev env y) fun vy=>
  match vx,vy with| .b p,.b q=>k (.b (bif neg then p != q else p==q)) σ|_,_=>False
 | .not x=>wv (ev env x) fun vx=>match vx with| .b p=>k (.b (!p)) σ|_=>False
 | .neg xor x=>wv (ev env x) fun vx=>match vx with
  | .i ka a=>k (.i ka (bif xor then bits .xor ka (bif ka.signed then -1 else ka.max) a else ka.wrap (0 - a))) σ
  | _=>False
 | .conv ka x=>wv (ev env x) fun vx=>match vx with| .i _ a=>k (.i ka (ka.wrap a)) σ|_=>False
 | .box x=>wv (ev env x) fun vx=>match cellsOf vx with
  | some cs=> ∀n,σ n=none→k (.p n 0) (BI σ n (.cs cs))
  | none=>False
 | .MS x=>wv (ev env x) fun vx=>match cellsOf vx with
  | some cs=>k (.rp cs) σ
  | none=>False
 | .Oq sz b x y=>wv (ev env x) fun vx=>wv (ev env y) fun vy=>A4 b σ sz vx vy fun v=>k v σ
 | .alloc z=> ∀n,σ n=none→k (.p n 0) (BI σ n (.cs z))
 | .build z parts=>ws (Iw env z parts) fun cs=>k (.a cs) σ
 | .Am _ len z parts=>wr (Hn env z.length (List.replicate len z) parts) fun es=>k (.l es true) σ
 | .load agg x=>wv (ev env x) fun vx=>An σ agg vx fun v=>k v σ
 | .store sz a x=>wv (ev env a) fun va=>wv (ev env x) fun vx=>Af σ sz va vx fun σ'=>k (.t []) σ'
 | .GZ off x=>wv (ev env x) fun vx=>JH off vx fun v=>k v σ
 | .field agg off x=>wv (ev env x) fun vx=>match vx with| .a cs=>cut agg cs off fun v=>k v σ|_=>False
 | .BG sz arr x i=>wv (ev env x) fun vx=>wv (ev env i) fun vi=>Ab sz arr vx vi fun v=>k v σ
 | .index len sz agg x i=>wv (ev env x) fun vx=>wv (ev env i) fun vi=>JG len sz agg vx vi fun v=>k v σ
 | .slice sz x lo hi mx=>wv (ev env x) fun vx=>wo (GV env lo) fun l=>wo (GV env hi) fun h=>wo (GV env mx) fun m=>Ac σ sz vx l h m k
 | .len x=>wv (ev env x) fun vx=>BZ vx fun v=>k v σ
 | .QP x=>wv (ev env x) fun vx=>It σ vx fun v=>k v σ
 | .Oj x i=>wv (ev env x) fun vx=>wv (ev env i) fun vi=>NL vx vi fun v=>k v σ
 | .str x=>wv (ev env x) fun vx=>ZU σ vx fun v=>k v σ
 | .append sz b x y=>wv (ev env x) fun vx=>wv (ev env y) fun vy=>AQ b σ sz vx vy k
 | .copy sz x y=>wv (ev env x) fun vx=>wv (ev env y) fun vy=>Az σ sz vx vy k
 | .MP x y=>wv (ev env x) fun vx=>wv (ev env y) fun vy=>match vx,vy with
  | .i ka a,.i kb b=>ka=kb∧k (.i ka (if b > a then b else a)) σ
  | _,_=>False
 | .Om x y=>wv (ev env x) fun vx=>wv (ev env y) fun vy=>match vx,vy with
  | .i ka a,.i kb b=>ka=kb∧k (.i ka (if b<a then b else a)) σ
  | _,_=>False
 | .extract i x=>wv (ev env x) fun vx=>match vx with| .t vs=>(match vs[i]? with|some v=>k v σ|none=>False)|_=>False
 | .D5 x=>wv (ev env x) fun vx=>match vx with
  | .p n off=>k (.p n off) σ
  | .rp cs=>k (.rp cs) σ
  | .pe n sz i off=>k (.pe n sz i off) σ
  | .f (.func f) first cap=>k (.f (.func f) first cap) σ
  | .f (.yield l) first cap=>k (.f (.yield l) first cap) σ
  | _=>False
 | .GN f first cap=>ws (Rt env first) fun vf=>ws (Rt env cap) fun vc=>k (.f f vf vc) σ
 | .Ep t x=>wv (ev env x) fun vx=>k (.ET t vx) σ
 | .V2 t z ok x=>wv (ev env x) fun vx=>match vx with
  | .ET t' v=>(t'=t→k (bif ok then .t [v,.b true]else v) σ)∧(t'≠t→ok=true∧k (.t [z,.b false]) σ)
  | .DN=>ok=true∧k (.t [z,.b false]) σ
  | _=>False
 | .panic x=>wv (ev env x) fun vx=>match vx with| .ET t v=>kp (.ET t v) σ|_=>False
 | .call f args=>ws (Rt env args) fun vs=>BQ P f vs σ (qk k kp)
 | .ZG len neg x y=>wv (ev env x) fun vx=>wv (ev env y) fun vy=>QR len neg vx vy fun v=>k v σ
 | .UN kind neg x=>wv (ev env x) fun vx=>Hj kind neg vx fun v=>k v σ
 | .EK sz _ z x y=>wv (ev env x) fun vx=>wv (ev env y) fun vy=>AR σ sz z vx vy k
 | .Fw=> ∀n,σ n=none→k (.m n) (BI σ n (.map []))
 | .lookup ks z ok m key=>wv (ev env m) fun vm=>wv (ev env key) fun vk=>AW σ ks z ok vm vk fun v=>k v σ
 | .Cw ks m key x=>wv (ev env m) fun vm=>wv (ev env key) fun vk=>wv (ev env x) fun vx=>Aa σ ks vm vk vx fun σ'=>k (.t []) σ'
 | .Iy f args=>ws (Rt env args) fun vs=> ∃v,BQ P f vs (fun _=>none) (fun r σ'=>r= .ret v∧σ'=fun _=>none)∧k v σ
 | .Bs x args=>wv (ev env x) fun vx=>ws (Rt env args) fun vs=>BT P vx vs σ (qk k kp)
 | .inv tab x args=>wv (ev env x) fun vx=>ws (Rt env args) fun vs=>Bf P tab vx vs σ (qk k kp)
 | _=>False
end Go.Gl
namespace Go.Gl
theorem Bb {H:Nat→Nat→Option Value} {g:Nat→Option Value}: ∀ {vs:List V} {o:Nat},
 BV H g o vs↔ ∀i v,vs[i]? =some v→ ∃c,g (o+i)=some c∧AZ H v c
 | [],o=>by simp[BV]
 | v ::vs,o=>by
   simp only[BV];rw[Bb (vs:=vs) (o:=o+1)];constructor
   ·rintro⟨h1,h2⟩ i u hu
    cases i with
    | zero=>simp at hu;subst hu;simpa using h1
    | succ i=>
      obtain⟨c,hc,hr⟩:=h2 i u (by simpa using hu);exact⟨c,by rw[←hc];congr 1;omega,hr⟩
   ·intro h
    refine⟨by simpa using h 0 v rfl,fun i u hu=>?_⟩;obtain⟨c,hc,hr⟩:=h (i+1) u (by simpa using hu);exact⟨c,by rw[←hc];congr 1;omega,hr⟩
theorem A7 {H:Nat→Nat→Option Value} {g:Nat→Option Value} {sz:Nat}: ∀ {es:List (List V)} {o:Nat},
 BH H g sz o es↔ ∀i e,es[i]? =some e→e.length=sz∧BV H g (o+i*sz) e
 | [],o=>by simp[BH]
 | v ::vs,o=>by
   simp only[BH];rw[A7 (es:=vs) (o:=o+sz)];constructor
   ·rintro⟨h1,h2,h3⟩ i u hu
    cases i with
    | zero=>simp at hu;subst hu;exact⟨h1,by simpa using h2⟩
    | succ i=>
      obtain⟨h4,h5⟩:=h3 i u (by simpa using hu);refine⟨h4,?_⟩;rw[show o+(i+1)*sz=o+sz+i*sz by rw[Nat.add_mul];omega];exact h5
   ·intro h
    have h0:=h 0 v rfl;refine⟨h0.1,by simpa using h0.2,fun i u hu=>?_⟩;obtain⟨h4,h5⟩:=h (i+1) u (by simpa using hu);refine⟨h4,?_⟩;rw[show o+sz+i*sz=o+(i+1)*sz by rw[Nat.add_mul];omega];exact h5
theorem A3 {H:Nat→Nat→Option Value} {g g':Nat→Option Value} {o o':Nat} {vs:List V} (h:BV H g o vs) (hg: ∀i,i<vs.length→g' (o'+i)=g (o+i)):BV H g' o' vs:=by
 rw[Bb]at *;intro i v hv;obtain⟨c,hc,hr⟩:=h i v hv;exact⟨c,by rw[hg i (by rw[List.getElem?_eq_some_iff]at hv;exact hv.1)];exact hc,hr⟩
theorem IT {H:Nat→Nat→Option Value} {g:Nat→Option Value} {o:Nat} {vs:List V} (h:BV H g o vs) (n:Nat):BV H g (o+n) (vs.drop n):=by
 rw[Bb]at *;intro i v hv;rw[wF]at hv;obtain⟨c,hc,hr⟩:=h (n+i) v hv;exact⟨c,by rw[←hc];congr 1;omega,hr⟩
theorem PL {H:Nat→Nat→Option Value} {g:Nat→Option Value} {o:Nat} {vs:List V} (h:BV H g o vs) (n:Nat):BV H g o (vs.take n):=by
 rw[Bb]at *;intro i v hv;rw[List.getElem?_take]at hv;split at hv
 ·exact h i v hv
 ·cases hv
theorem L3 {H:Nat→Nat→Option Value} {g:Nat→Option Value} {o:Nat} {vs us:List V} (h:BV H g o vs) (k:BV H g (o+vs.length) us):BV H g o (vs++us):=by
 rw[Bb]at *;intro i v hv;rw[List.getElem?_append]at hv;split at hv
 ·exact h i v hv
 ·obtain⟨c,hc,hr⟩:=k _ v hv
  exact⟨c,by rw[←hc];congr 1;omega,hr⟩
theorem Rel.lt {Λ:Nat→Prop} {σ:AG} {w:World} (h:Rel Λ σ w) {n:Nat} {o:O} (ho:σ n=some o):n<w.heap.size:=by
 obtain⟨_,ob,h2,_⟩:=h.own n o ho;rcases Nat.lt_or_ge n w.heap.size with h'|h'
 ·exact h'
 ·simp[Array.getElem?_eq_none h']at h2
theorem Rel.new {Λ:Nat→Prop} {σ:AG} {w:World} (h:Rel Λ σ w):σ w.heap.size=none:=by
 cases h':σ w.heap.size with
 | none=>rfl
 | some o=>exact absurd (h.lt h') (Nat.lt_irrefl _)
theorem Rel.step {Λ:Nat→Prop} {σ σ':AG} {w w':World} (h:Rel Λ σ w) (ha:B5 Λ σ w σ' w')
 (hn: ∀n o,σ' n=some o→(σ n=some o∧w'.heap[n]? =w.heap[n]?)∨(¬Λ n∧ ∃ob,w'.heap[n]? =some ob∧Ou (Hh Λ σ' w') o ob)):Rel Λ σ' w' where
 own n o ho:=by
  rcases hn n o ho with⟨h1,h2⟩|h1
  ·obtain⟨h3,ob,h4,h5⟩:=h.own n o h1
   exact⟨h3,ob,h2.trans h4,h5.mono ha.hle⟩
  ·exact h1
 lock n hl:=Nat.lt_of_lt_of_le (h.lock n hl) ha.size
theorem DE (σ:AG) (n:Nat) (o:O):BI σ n o n=some o:=by simp[BI]
theorem Cf (σ:AG) {n m:Nat} (o:O) (h:m≠n):BI σ n o m=σ m:=by simp[BI,h]
theorem DI (σ:AG) (n:Nat):del σ n n=none:=by simp[del]
theorem GF (σ:AG) {n m:Nat} (h:m≠n):del σ n m=σ m:=by simp[del,h]
theorem FI (σ:AG) (n:Nat):Sub (del σ n) σ:=by
 intro m o h;unfold del at h;split at h
 ·cases h
 ·exact h
theorem Di {Λ:Nat→Prop} {σ:AG} {w:World} (o:O) (ob:Obj):B5 Λ σ w (BI σ w.heap.size o) (w.alloc ob) where
 frame n hn _:=RowKit.Below.heap_alloc _ _ _ hn
 size:=by simp
 os:=rfl
 tape:=rfl
 output:=rfl
 names n h0 hn:=by rw[Cf _ _ (by omega)];exact h0
theorem Gu {Λ:Nat→Prop} {σ:AG} {w:World} (h:Rel Λ σ w) {o:O} {ob:Obj} (ho:Ou (Hh Λ σ w) o ob):Rel Λ (BI σ w.heap.size o) (w.alloc ob):=
 h.step (Di o ob) fun n o' hn=>by
  by_cases e:n=w.heap.size
  ·subst e
   rw[DE]at hn;cases hn;exact .inr ⟨fun hl=>absurd (h.lock _ hl) (Nat.lt_irrefl _),ob,heap_alloc_new _ _,ho.mono (Di o ob).hle⟩
  ·rw[Cf _ _ e]at hn
   exact .inl ⟨hn,RowKit.Below.heap_alloc _ _ _ (h.lt hn)⟩
theorem HP {Λ:Nat→Prop} {σ:AG} (w:World) (ob:Obj):B5 Λ σ w σ (w.alloc ob) where
 frame n hn _:=RowKit.Below.heap_alloc _ _ _ hn
 size:=by simp
 os:=rfl
 tape:=rfl
 output:=rfl
 names n h0 _:=h0
theorem JT {Λ:Nat→Prop} {σ:AG} {w:World} (h:Rel Λ σ w) (ob:Obj):Rel Λ σ (w.alloc ob):=
 h.step (HP w ob) fun _ _ hn=> .inl ⟨hn,RowKit.Below.heap_alloc _ _ _ (h.lt hn)⟩
def CH (w:World) (n:Nat) (ob:Obj):World:={w with heap:=w.heap.setIfInBounds n ob}
theorem L5 {w:World} {n:Nat} {ob:Obj} (h:n<w.heap.size):(CH w n ob).heap[n]? =some ob:=by
 simp[CH,h]
theorem PU {w:World} {n m:Nat} {ob:Obj} (h:m≠n):(CH w n ob).heap[m]? =w.heap[m]? :=by
 simp only[CH];rw[Array.getElem?_setIfInBounds_ne (Ne.symm h)]
@[simp] theorem qs (w:World) (n:Nat) (ob:Obj):(CH w n ob).heap.size=w.heap.size:=by simp[CH]
theorem F1 {Λ:Nat→Prop} {σ:AG} {w:World} {n:Nat} {o:O} (hn:σ n=some o) (o':O) (ob:Obj):B5 Λ σ w (BI σ n o') (CH w n ob) where
 frame m _ h0:=PU (fun e=>by rw[e,hn]at h0;cases h0)
 size:=by simp
 os:=rfl
 tape:=rfl
 output:=rfl
 names m h0 _:=by rw[Cf _ _ (fun e=>by rw[e,hn]at h0;cases h0)];exact h0
theorem H7 {Λ:Nat→Prop} {σ:AG} {w:World} (h:Rel Λ σ w) {n:Nat} {o o':O} {ob:Obj} (hn:σ n=some o) (ho:Ou (Hh Λ σ w) o' ob):Rel Λ (BI σ n o') (CH w n ob):=
 h.step (F1 hn o' ob) fun m o'' hm=>by
  by_cases e:m=n
  ·subst e
   rw[DE]at hm;cases hm;exact .inr ⟨(h.own _ _ hn).1,ob,L5 (h.lt hn),ho.mono (F1 hn o' ob).hle⟩
  ·rw[Cf _ _ e]at hm
   exact .inl ⟨hm,PU e⟩
theorem U7 {w:World} {n:Nat} {ob:Obj} (h:w.heap[n]? =some ob):n<w.heap.size:=by
 rcases Nat.lt_or_ge n w.heap.size with h'|h'
 ·exact h'
 ·simp[Array.getElem?_eq_none h']at h
theorem setCell_eq {w:World} {n i:Nat} {c:Array Value} {e:TypeId} (h:w.heap[n]? =some (.cells c e (0,0))) (v:Value) :
 w.setCell ⟨n,i,none⟩ v=CH w n (.cells (c.setIfInBounds i v) e (0,0)):=by
 unfold World.setCell CH;congr 1;apply Array.ext_getElem?;intro j;by_cases hj:n=j
 ·subst hj
  rw[Array.getElem?_modify,if_pos rfl,Array.getElem?_setIfInBounds_self_of_lt (U7 h),h];rfl
 ·rw[Array.getElem?_modify,if_neg hj,Array.getElem?_setIfInBounds_ne hj]
theorem DJ {w:World} {n i:Nat} {c:Array Value} {e:TypeId} {fr:Nat×Nat} (h:w.heap[n]? =some (.cells c e fr)):w.cell? ⟨n,i,none⟩=c[i]? :=
 cell_of_row w n i c e fr h
theorem OM {w:World} {n i:Nat} {c:Array Value} {e:TypeId} (h:w.heap[n]? =some (.cells c e (0,0))):w.frozen? ⟨n,i,none⟩=false:=
 frozen_of_row w n i c e h
theorem Ca (n o i:Nat):(⟨n,o,none⟩:Addr).add i=⟨n,o+i,none⟩:=by
 unfold Addr.add;split
 ·subst_vars;rfl
 ·rfl
def Co:Array Value→Nat→List Value→Array Value
 | c,_,[]=>c
 | c,o,v::vs=>Co (c.setIfInBounds o v) (o+1) vs
theorem Dd: ∀(vs:List Value) (c:Array Value) (o:Nat),(Co c o vs).size=c.size
 | [],_,_=>rfl
 | v::vs,c,o=>by simp only[Co];rw[Dd vs];simp
theorem Xw {w:World} {n:Nat} {ob:Obj} (h:w.heap[n]? =some ob):CH w n ob=w:=by
 unfold CH
 have:w.heap.setIfInBounds n ob=w.heap:=by
  apply Array.ext_getElem?;intro j;by_cases hj:n=j
  ·subst hj
   rw[Array.getElem?_setIfInBounds_self_of_lt (U7 h),h]
  ·rw[Array.getElem?_setIfInBounds_ne hj]
 rw[this]
theorem Ox (w:World) (n:Nat) (a b:Obj):CH (CH w n a) n b=CH w n b:=by
 simp[CH]
theorem Cb {P:Program} {n:Nat} {e:TypeId}: ∀(vs:List Value) (w:World) (c:Array Value) (o i:Nat),w.heap[n]? =some (.cells c e (0,0))→
 o+i+vs.length≤c.size→(∀v∈vs,v.oneCell'=true)→
 (storeCells ⟨n,o,none⟩ vs i).run P w= .ok () (CH w n (.cells (Co c (o+i) vs) e (0,0)))
 | [],w,c,o,i,h,_,_=>by
   simp only[storeCells,Sem.run_pure,Co];rw[Xw h]
 | v::vs,w,c,o,i,h,hl,hv=>by
   have hlt:o+i<c.size:=by simp at hl;omega
   have h1:w.cell? ⟨n,o+i,none⟩=some c[o+i]:=by rw[DJ h];rw[Array.getElem?_eq_getElem hlt]
   have hone:=hv v (by simp);simp only[storeCells,Sem.run_bind,Ca,run_store P w _ v _ hone,h1,OM h,Ls,if_false,Result.andThen];rw[setCell_eq h];rw[Cb vs _ (c.setIfInBounds (o+i) v) o (i+1) (L5 (U7 h)) (by simp at hl ⊢;omega) (fun u hu=>hv u (by simp[hu]))];rw[Ox];rfl
end Go.Gl
namespace Go.Gl
def dE:Value→Option V
 | .bool b=>some (.b b)
 | .int k n=>if k.min≤n∧n≤k.max then some (.i k n)else none
 | .string s=>some (.s s)
 | .pointer none=>some .pn
 | .slice none 0 0=>some (.l [] true)
 | .map none=>some .mn
 | .nilFunc=>some .GP
 | .nilIface=>some .DN
 | _=>none
def ZJ:List Value→Option (List V)
 | []=>some []
 | c::cs=>match dE c,ZJ cs with
   | some v,some vs=>some (v::vs)
   | _,_=>none
def qw:Value→Option V
 | .agg cs=>(ZJ cs.toList).map .a
 | .tuple cs=>if cs.size=0 then some (.t [])else none
 | c=>dE c
def BR:Operand→Option Bj
 | .tmp t=>some (.t t)
 | .const v=>(qw v).map .c
 | .func f=>some (.c (.f (.func f) [] []))
 | .global _=>none
def Ip:List Operand→Option (List Bj)
 | []=>some []
 | x::r=>match BR x,Ip r with
   | some v,some vs=>some (v::vs)
   | _,_=>none
def Xa:Option Operand→Option (Option Bj)
 | none=>some none
 | some x=>(BR x).map some
def Dl (P:Program) (t:TypeId):Option Nat:=(P.info? t).map (·.size)
def HX (P:Program) (t:TypeId):Option (Option Nat):=
 match P.underlying t with
 | some (.struct _)=>(Dl P t).map some
 | some (.array _ _)=>(Dl P t).map some
 | some _=>some none
 | none=>none
def zeroOf (P:Program) (t:TypeId):Option V:=(((P.info? t).bind (·.zero))).bind qw
def isInt (P:Program) (t:TypeId):Bool:=match P.underlying t with|some (.int _)=>true|_=>false
def isBool (P:Program) (t:TypeId):Bool:=match P.underlying t with|some .bool=>true|_=>false
def wZ (P:Program) (op:BinOp) (t:TypeId) (x y:Bj):Option EW:=
 if isInt P t then some (.bin op x y)
 else if isBool P t then match op with
  | .eql=>some (.V5 false x y)
  | .neq=>some (.V5 true x y)
  | _=>none
 else none
def QZ (fields:Array Field) (P:Program):List (Nat×Operand)→Option (List (Nat×Nat×Bj))
 | []=>some []
 | (i,x)::r=>match fields[i]?,BR x,QZ fields P r with
   | some f,some o,some ps=>(Dl P f.type).map fun s=>(f.offset,s,o)::ps
   | _,_,_=>none
def Mh (sz:Nat):List (Nat×Operand)→Option (List (Nat×Nat×Bj))
 | []=>some []
 | (i,x)::r=>match BR x,Mh sz r with
   | some o,some ps=>some ((i*sz,sz,o)::ps)
   | _,_=>none
def Mg:List (Nat×Operand)→Option (List (Nat×Bj))
 | []=>some []
 | (i,x)::r=>match BR x,Mg r with
   | some o,some ps=>some ((i,o)::ps)
   | _,_=>none
def JK:Option V→Option (List V)
 | some (.a cs)=>some cs
 | some (.t _)=>none
 | some .any=>none
 | some v=>some [v]
 | none=>none
def Zg (P:Program) (c:Call):Option EW:=
 match c.callee,c.args.toList,c.argTypes.toList with
 | .builtin .len,[x],[t]=>match P.underlying t with
   | some (.slice _)=>(BR x).map .len
   | some (.map _ _)=>(BR x).map .QP
   | some (.array n _)=>if(n:Int)≤IntKind.i64.max then some (.mv (.c (.i .i64 n)))else none
   | _=>none
 | .builtin .append,[x,y],[t,u]=>match P.underlying t,P.underlying u with
   | some (.slice e),some (.slice _)=>match BR x,BR y,P.info? e with
     | some x',some y',some i=>if t=u∧i.bytes≤4096∧i.zero.map (fun z=>z.cells.size)=some i.size then some (.append i.size i.bytes x' y')else none
     | _,_,_=>none
   | _,_=>none
 | .builtin .max,[x,y],_=>match BR x,BR y with|some x',some y'=>some (.MP x' y')|_,_=>none
 | .builtin .min,[x,y],_=>match BR x,BR y with|some x',some y'=>some (.Om x' y')|_,_=>none
 | .value (.func f),_,_=>(Ip c.args.toList).map (.call f)
 | .value x,_,_=>match BR x,Ip c.args.toList with|some x',some as=>some (.Bs x' as)|_,_=>none
 | _,_,_=>none
def rOp (P:Program):Op→Option EW
 | .move x=>(BR x).map .mv
 | .assign x=>(BR x).map .mv
 | .pick c a b=>match BR c,BR a,BR b with|some c,some a,some b=>some (.pick c a b)|_,_,_=>none
 | .box _ x=>(BR x).map .box
 | .alloc e=>(JK (zeroOf P e)).map .alloc
 | .build t parts=>match JK (zeroOf P t),P.underlying t with
   | some z,some (.struct fields)=>if fields.toList.all (fun f=>(Dl P f.type).isSome)then(QZ fields P parts.toList).map (.build z)else none
   | some z,some (.array _ e)=>(Dl P e).bind fun sz=>(Mh sz parts.toList).map (.build z)
   | _,_=>none
 | .buildSlice t len parts=>match P.underlying t with
   | some (.slice e)=>match JK (zeroOf P e),Dl P e with
     | some z,some sz=>if z.length=sz∧0<sz∧0<len∧len*sz≤2 ^ 24 then(Mg parts.toList).map (.Am sz len z)else none
     | _,_=>none
   | _=>none
 | .load t x=>match HX P t,BR x with|some a,some x=>some (.load a x)|_,_=>none
 | .store t a x=>match Dl P t,BR a,BR x with|some s,some a,some x=>some (.store s a x)|_,_,_=>none
 | .binOp op t x y _=>match BR x,BR y with|some x,some y=>wZ P op t x y|_,_=>none
 | .unOp .not _ x=>(BR x).map .not
 | .unOp .neg t x=>if isInt P t then(BR x).map (.neg false)else none
 | .unOp .xor t x=>if isInt P t then(BR x).map (.neg true)else none
 | .convert s d x=>match P.underlying s,P.underlying d with
   | some (.int _),some (.int k)=>(BR x).map (.conv k)
   | _,_=>none
 | .makeInterface t x=>match P.underlying t with
   | some (.interface _)=>none
   | some _=>(BR x).map (.Ep t)
   | none=>none
 | .makeFunc (.func f) first cap=>match Ip first.toList,Ip cap.toList with|some a,some b=>some (.GN (.func f) a b)|_,_=>none
 | .slice t x lo hi mx=>match P.underlying t with
   | some (.slice e)=>match Dl P e,BR x,Xa lo,Xa hi,Xa mx with
     | some s,some x,some l,some h,some m=>if 0<s∧(m.isSome→h.isSome)then some (.slice s x l h m)else none
     | _,_,_,_,_=>none
   | _=>none
 | .fieldAddr s x f=>match P.underlying s with
   | some (.struct fields)=>match fields[f]? with
     | some fd=>match Dl P fd.type with
       | some sz=>if sz=0 then none else(BR x).map (.GZ fd.offset)
       | none=>none
     | none=>none
   | _=>none
 | .field t x f=>match P.underlying t with
   | some (.struct fields)=>match fields[f]? with
     | some fd=>match HX P fd.type,BR x with|some a,some x=>some (.field a fd.offset x)|_,_=>none
     | none=>none
   | _=>none
 | .indexAddr t x i=>match P.underlying t with
   | some (.slice e)=>match Dl P e,BR x,BR i with|some s,some x,some i=>some (.BG s none x i)|_,_,_=>none
   | some (.array n e)=>match Dl P e,BR x,BR i with|some s,some x,some i=>some (.BG s (some n) x i)|_,_,_=>none
   | _=>none
 | .index t x i=>match P.underlying t with
   | some (.array n e)=>match Dl P e,HX P e,BR x,BR i with|some s,some a,some x,some i=>some (.index n s a x i)|_,_,_,_=>none
   | _=>none
 | .extract x i=>(BR x).map (.extract i)
 | .nilCheck x=>(BR x).map .D5
 | .typeAssert x _ t ok=>match P.underlying t with
   | some (.interface _)=>none
   | some _=>match BR x,zeroOf P t with|some x,some z=>some (.V2 t z ok x)|_,_=>none
   | none=>none
 | .panic x=>(BR x).map .panic
 | .call c=>Zg P c
 | _=>none
def CM (Λ:Nat→Prop) (σ:AG) (w:World) (k kp:V→AG→Prop):Result Value→Prop
 | .ok c w'=> ∃v σ',k v σ'∧AZ (Hh Λ σ' w') v c∧Rel Λ σ' w'∧B5 Λ σ w σ' w'
 | .halt (.panic c) w'=> ∃v σ',kp v σ'∧AZ (Hh Λ σ' w') v c∧Rel Λ σ' w'∧B5 Λ σ w σ' w'
 | _=>False
def Good (P:Program) (Λ:Nat→Prop) (σ:AG) (w:World) (k kp:V→AG→Prop):Result Next→Prop
 | .ok (.value c) w'=> ∃v σ',k v σ'∧AZ (Hh Λ σ' w') v c∧Rel Λ σ' w'∧B5 Λ σ w σ' w'
 | .ok .skip w'=> ∃σ',k (.t []) σ'∧Rel Λ σ' w'∧B5 Λ σ w σ' w'
 | .ok (.enter f args) w'=>Calls P f args w' fun e w''=> ∃r σ',qk k kp r σ'∧SH (Hh Λ σ' w'') r e∧Rel Λ σ' w''∧B5 Λ σ w σ' w''
 | .ok (.round l f tmps assign body) w'=>RoundIn Fence.wide 0 P l f tmps assign body w' fun e w''=> ∃r σ',qk k kp r σ'∧SH (Hh Λ σ' w'') r e∧Rel Λ σ' w''∧B5 Λ σ w σ' w''
 | .halt (.panic c) w'=> ∃v σ',kp v σ'∧AZ (Hh Λ σ' w') v c∧Rel Λ σ' w'∧B5 Λ σ w σ' w'
 | _=>False
theorem As {P:Program} {Λ:Nat→Prop} {σ:AG} {w:World} {k kp:V→AG→Prop} {s:Sem Value} (h:CM Λ σ w k kp (s.run P w)) :
 Good P Λ σ w k kp ((do pure (.value (←s)):Sem Next).run P w):=by
 simp only[Sem.run_bind];generalize s.run P w=r at *;cases r with
 | ok c w'=>exact h
 | halt x w'=>cases x<;>first|exact h|exact h.elim
theorem Eg {Λ:Nat→Prop} {σ:AG} {w:World} {k kp:V→AG→Prop} (G:Rel Λ σ w) {v:V} {c:Value} (hv:AZ (Hh Λ σ w) v c) (hk:k v σ):CM Λ σ w k kp (.ok c w):=
 ⟨v,σ,hk,hv,G,B5.refl _ _ _⟩
theorem Ap {Λ:Nat→Prop} {σ:AG} {w:World} {k kp:V→AG→Prop} (G:Rel Λ σ w) {v:V} {c:Value} (hk:k v σ) (hv:AZ (Hh Λ σ w) v c):CM Λ σ w k kp (.ok c w):=
 Eg G hv hk
def CQ (H:Nat→Nat→Option Value) (env:Env) (tmps:Array Value):Prop:= ∀k v,get k env=some v→ ∃c,tmps[k]? =some c∧AZ H v c
theorem CQ.mono {H H':Nat→Nat→Option Value} (hle:V7 H H') {env:Env} {tmps:Array Value} (h:CQ H env tmps):CQ H' env tmps:=
 fun k v hv=>let⟨c,h1,h2⟩:=h k v hv;⟨c,h1,h2.mono hle⟩
theorem Sp {H:Nat→Nat→Option Value} {c:Value} {v:V} (h:dE c=some v):AZ H v c:=by
 unfold dE at h
 split at h<;>first
  | (cases h;simp[AZ];done)
  | (split at h<;>first|(rename_i hc;cases h;simpa[AZ]using hc)|cases h)
  | cases h
 ·exact⟨none,0,rfl,by simp,by simp,by simp[Ax],by simp,by simp⟩
theorem Sm {H:Nat→Nat→Option Value}: ∀ {cs:List Value} {vs:List V},ZJ cs=some vs→cs.length=vs.length∧BV H (fun i=>cs[i]?) 0 vs
 | [],vs,h=>by cases h;exact⟨rfl,trivial⟩
 | c ::cs,vs,h=>by
   simp only[ZJ]at h;split at h
   ·rename_i v vs' h1 h2
    cases h;obtain⟨h3,h4⟩:=Sm (H:=H) h2;refine⟨by simp[h3],⟨c,by simp,Sp h1⟩,?_⟩;exact A3 h4 (fun i _=>by rw[show 0+1+i=i+1 by omega];simp)
   ·cases h
theorem Fx {H:Nat→Nat→Option Value} {c:Value} {v:V} (h:qw c=some v):AZ H v c:=by
 unfold qw at h;split at h
 ·rename_i cs
  cases hq:ZJ cs.toList with
  | none=>rw[hq]at h;cases h
  | some vs=>
    rw[hq]at h;cases h;obtain⟨h1,h2⟩:=Sm (H:=H) hq;refine⟨cs,rfl,by simpa using h1,A3 h2 (fun i _=>by simp)⟩
 ·rename_i cs
  split at h
  ·rename_i h0
   cases h;exact⟨cs,rfl,by simpa using h0,trivial⟩
  ·cases h
 ·exact Sp h
theorem Al {H:Nat→Nat→Option Value} {env:Env} {a:Act} (he:CQ H env a.tmps) {x:Operand} {o:Bj} (ho:BR x=some o) {v:V} (hv:ev env o=some v):AZ H v (a.eval x):=by
 cases x with
 | tmp t=>
   cases ho;obtain⟨c,h1,h2⟩:=he t v hv;simp only[Act.eval,Array.getD_eq_getD_getElem?,h1,Option.getD_some];exact h2
 | const c=>
   simp only[BR]at ho;cases hq:qw c with
   | none=>rw[hq]at ho;cases ho
   | some u=>
     rw[hq]at ho;cases ho;cases hv;exact Fx hq
 | func f=>
   cases ho;cases hv;exact⟨#[],#[],rfl,rfl,trivial,rfl,trivial⟩
 | global g=>cases ho
theorem W9 {H:Nat→Nat→Option Value} {env:Env} {a:Act} (he:CQ H env a.tmps): ∀ {xs:List Operand} {os:List Bj},Ip xs=some os→ ∀ {vs:List V},Rt env os=some vs→
 xs.length=vs.length∧BV H (fun i=>(xs.map a.eval)[i]?) 0 vs
 | [],os,ho,vs,hv=>by cases ho;cases hv;exact⟨rfl,trivial⟩
 | x ::xs,os,ho,vs,hv=>by
   simp only[Ip]at ho;split at ho
   ·rename_i o os' h1 h2
    cases ho;simp only[Rt]at hv;split at hv
    ·rename_i v vs' h3 h4
     cases hv;obtain⟨h5,h6⟩:=W9 he h2 h4;refine⟨by simp[h5],⟨a.eval x,by simp,Al he h1 h3⟩,?_⟩;exact A3 h6 (fun i _=>by rw[show 0+1+i=i+1 by omega];simp)
    ·cases hv
   ·cases ho
theorem Ah {o:Option V} {k:V→Prop} (h:wv o k): ∃v,o=some v∧k v:=by
 cases o with
 | none=>exact h.elim
 | some v=>exact⟨v,rfl,h⟩
theorem HE {o:Option (List V)} {k:List V→Prop} (h:ws o k): ∃v,o=some v∧k v:=by
 cases o with
 | none=>exact h.elim
 | some v=>exact⟨v,rfl,h⟩
theorem WR {o:Option (List (List V))} {k:List (List V)→Prop} (h:wr o k): ∃v,o=some v∧k v:=by
 cases o with
 | none=>exact h.elim
 | some v=>exact⟨v,rfl,h⟩
theorem Qv {o:Option (Option V)} {k:Option V→Prop} (h:wo o k): ∃v,o=some v∧k v:=by
 cases o with
 | none=>exact h.elim
 | some v=>exact⟨v,rfl,h⟩
end Go.Gl
