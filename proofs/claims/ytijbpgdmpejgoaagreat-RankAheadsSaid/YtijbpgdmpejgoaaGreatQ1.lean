import Derived.OrdersIn
import Derived.Below
import Derived.Laws.Cells
import Derived.Laws.Rows
import Derived.Laws.World
import Derived.Laws.Slices
import Derived.Laws.Build
import Derived.WideShapes4
import Derived.OpenShut
set_option linter.all false
set_option linter.unusedVariables false
set_option linter.unusedSimpArgs false
namespace Go.Gl
theorem nb {n m:Nat} (h:Nat.ble n m=true:=by exact rfl):n≤m:=Nat.le_of_ble_eq_true h
abbrev E4:=@List.getElem?_eq_getElem
abbrev DL:=@List.mem_of_getElem?
abbrev B2:=@List.length_map
abbrev E9:=@List.getD_eq_getElem?_getD
abbrev D8:=@decide_eq_true_eq
abbrev Bn:=@Bool.and_eq_true
abbrev Pu:=@List.getElem?_map
abbrev JX:=@Option.some.injEq
abbrev Uv:=@List.mem_append_left
abbrev WV:=@List.mem_append_right
abbrev rZ:=@List.getElem?_append_left
abbrev Fo:=@List.mem_append
abbrev IU:=@List.all_eq_true
abbrev Mk:=@Bool.false_eq_true
abbrev Sl:=@List.length_append
abbrev NW:=@List.length_cons
abbrev Nv:=@List.mem_map
abbrev ZW:=@Option.map_some
abbrev rY:=@List.getElem?_cons_zero
abbrev xy:=@List.getElem?_cons_succ
abbrev rX:=@Array.getElem?_eq_some_iff
abbrev zqZ:=@List.length_drop
abbrev PZ:=@List.length_take
abbrev xl:=@List.getElem?_drop
abbrev IF:=@List.mem_cons
abbrev WU:=@List.append_assoc
abbrev Qz:=@List.mem_filter
abbrev FQ:=@beq_iff_eq
end Go.Gl
namespace Go.Gl
def Ak:Nat:=17592186044416
inductive V where
 | b (x:Bool)
 | i (k:IntKind) (n:Int)
 | s (x:ByteArray)
 | pn
 | p (n off:Nat)
 | rp (cs:List V)
 | l (es:List (List V)) (full:Bool)
 | sl (n len cap:Nat)
 | sv (n sz off len:Nat)
 | pe (n sz i off:Nat)
 | m (n:Nat)
 | mn
 | f (fn:Fn) (first cap:List V)
 | HB
 | E2 (t:TypeId) (v:V)
 | Dp
 | a (cs:List V)
 | t (vs:List V)
 | any
 deriving Inhabited
mutual
def Af (H:Nat→Nat→Option Value):V→Value→Prop
 | .b x,c=>c= .bool x
 | .i k n,c=>c= .int k n∧k.min≤n∧n≤k.max
 | .s x,c=>c= .string x
 | .pn,c=>c= .pointer none
 | .p n off,c=>c= .pointer (some ⟨n,off,none⟩)
 | .rp cs,c=> ∃b o,c= .pointer (some ⟨b,o,none⟩)∧Bk H (H b) o cs
 | .l es full,c=> ∃a cap,c= .slice a es.length cap∧es.length≤cap∧(full=true→cap=es.length)∧es.length≤Ak∧(a=none→cap=0)∧
  (es≠[]→ ∃b o sz,a=some ⟨b,o,none⟩∧BR H (H b) sz o es)
 | .sl n len cap,c=>c= .slice (some ⟨n,0,none⟩) len cap∧len≤cap
 | .sv n sz off len,c=> ∃a cap,c= .slice a len cap∧len≤cap∧(len≠0→a=some ⟨n,off*sz,none⟩)
 | .pe n sz i off,c=>c= .pointer (some ⟨n,i*sz+off,none⟩)
 | .m n,c=>c= .map (some n)
 | .mn,c=>c= .map none
 | .f fn first cap,c=> ∃f' c',c= .func fn f' c'∧f'.size=first.length∧Bk H (fun i=>f'[i]?) 0 first∧c'.size=cap.length∧Bk H (fun i=>c'[i]?) 0 cap
 | .HB,c=>c= .nilFunc
 | .E2 t v,c=> ∃c',c= .iface t c'∧Af H v c'
 | .Dp,c=>c= .nilIface
 | .a cs,c=> ∃c',c= .agg c'∧c'.size=cs.length∧Bk H (fun i=>c'[i]?) 0 cs
 | .t vs,c=> ∃c',c= .tuple c'∧c'.size=vs.length∧Bk H (fun i=>c'[i]?) 0 vs
 | .any,_=>True
def Bk (H:Nat→Nat→Option Value) (g:Nat→Option Value):Nat→List V→Prop
 | _,[]=>True
 | o,v::vs=>(∃c,g o=some c∧Af H v c)∧Bk H g (o+1) vs
def BR (H:Nat→Nat→Option Value) (g:Nat→Option Value) (sz:Nat):Nat→List (List V)→Prop
 | _,[]=>True
 | o,e::es=>e.length=sz∧Bk H g o e∧BR H g sz (o+sz) es
end
inductive xw where
 | ready
 | ret
 | exit (id:Nat)
inductive O where
 | cs (vs:List V)
 | arr (sz:Nat) (es:List (List V)) (cap:Nat)
 | map (kvs:List (V×V))
 | loop (st:xw) (env:List (Nat×V)) (ok:FuncId→Array Tmp→Code→Code→Nat→Prop)
 deriving Inhabited
def rq:xw→Loop→Prop
 | .ready,lp=>lp.state= .ready∧lp.pending=none
 | .ret,lp=>lp.state= .done∧lp.pending=some .ret
 | .exit id,lp=>lp.state= .done∧lp.pending=some (.exit id)
def Fc (H:Nat→Nat→Option Value):List (V×V)→List MapEntry→Prop
 | [],[]=>True
 | (k,v)::r,e::es=>Af H k e.key∧Af H v e.val∧Fc H r es
 | _,_=>False
def Pl (H:Nat→Nat→Option Value):O→Obj→Prop
 | .cs vs,o=> ∃c e,o= .cells c e (0,0)∧c.size=vs.length∧Bk H (fun i=>c[i]?) 0 vs
 | .arr sz es cap,o=> ∃c e,o= .cells c e (0,0)∧cap*sz≤c.size∧es.length≤cap∧es.length≤Ak∧BR H (fun i=>c[i]?) sz 0 es
 | .map kvs,o=> ∃es clk,o= .map es clk∧Fc H kvs es.toList∧es.toList.Pairwise (fun a b=>a.key≠b.key)
 | .loop st env ok,o=> ∃lp,o= .loop lp∧rq st lp∧(∀k v,(k,v)∈env→ ∃c,lp.tmps[k]? =some c∧Af H v c)∧ok lp.fn lp.params lp.assign lp.body lp.tmps.size
abbrev AH:=Nat→Option O
noncomputable def Hh (Λ:Nat→Prop) (σ:AH) (w:World) (b o:Nat):Option Value:=
 open Classical in if Λ b∨(σ b).isSome=true then none else w.cell? ⟨b,o,none⟩
structure Rel (Λ:Nat→Prop) (σ:AH) (w:World):Prop where
 own: ∀n o,σ n=some o→ ¬Λ n∧ ∃ob,w.heap[n]? =some ob∧Pl (Hh Λ σ w) o ob
 lock: ∀n,Λ n→n<w.heap.size
structure CY (Λ:Nat→Prop) (σ:AH) (w:World) (σ':AH) (w':World):Prop where
 frame: ∀n,n<w.heap.size→σ n=none→w'.heap[n]? =w.heap[n]?
 size:w.heap.size≤w'.heap.size
 os:w'.os=w.os
 tape:w'.tape=w.tape
 output:w'.output=w.output
 names: ∀n,σ n=none→n<w.heap.size→σ' n=none
theorem CY.refl (Λ:Nat→Prop) (σ:AH) (w:World):CY Λ σ w σ w:=
 ⟨fun _ _ _=>rfl,Nat.le_refl _,rfl,rfl,rfl,fun _ h _=>h⟩
theorem CY.trans {Λ:Nat→Prop} {σ σ' σ'':AH} {w w' w'':World} (h:CY Λ σ w σ' w') (k:CY Λ σ' w' σ'' w''):CY Λ σ w σ'' w'' where
 frame n hn h0:=(k.frame n (Nat.lt_of_lt_of_le hn h.size) (h.names n h0 hn)).trans (h.frame n hn h0)
 size:=Nat.le_trans h.size k.size
 os:=k.os.trans h.os
 tape:=k.tape.trans h.tape
 output:=k.output.trans h.output
 names n h0 hn:=k.names n (h.names n h0 hn) (Nat.lt_of_lt_of_le hn h.size)
def WY (H H':Nat→Nat→Option Value):Prop:= ∀b o c,H b o=some c→H' b o=some c
mutual
theorem Af.mono {H H':Nat→Nat→Option Value} (hle:WY H H'): ∀(v:V) (c:Value),Af H v c→Af H' v c
 | .b _,_,h| .i _ _,_,h| .s _,_,h| .pn,_,h| .p _ _,_,h| .sl _ _ _,_,h| .sv _ _ _ _,_,h| .pe _ _ _ _,_,h| .m _,_,h| .mn,_,h| .HB,_,h| .Dp,_,h| .any,_,h=>by
   simp only[Af]at h ⊢
   try exact h
 | .rp cs,_,h=>by
   simp only[Af]at h ⊢;obtain⟨b,o,rfl,h⟩:=h;exact⟨b,o,rfl,Bk.mono hle (fun i c e=>hle b i c e) cs o h⟩
 | .l es full,_,h=>by
   simp only[Af]at h ⊢;obtain⟨a,cap,h1,h2,h3,h4,h5,h6⟩:=h;refine⟨a,cap,h1,h2,h3,h4,h5,fun hne=>?_⟩;obtain⟨b,o,sz,h7,h8⟩:=h6 hne;exact⟨b,o,sz,h7,BR.mono hle (fun i c e=>hle b i c e) sz es o h8⟩
 | .f fn first cap,_,h=>by
   simp only[Af]at h ⊢;obtain⟨f',c',h1,h2,h3,h4,h5⟩:=h;exact⟨f',c',h1,h2,Bk.mono hle (fun _ _ e=>e) first 0 h3,h4,Bk.mono hle (fun _ _ e=>e) cap 0 h5⟩
 | .E2 t v,_,h=>by
   simp only[Af]at h ⊢;obtain⟨c',h1,h2⟩:=h;exact⟨c',h1,Af.mono hle v c' h2⟩
 | .a cs,_,h=>by
   simp only[Af]at h ⊢;obtain⟨c',h1,h2,h3⟩:=h;exact⟨c',h1,h2,Bk.mono hle (fun _ _ e=>e) cs 0 h3⟩
 | .t cs,_,h=>by
   simp only[Af]at h ⊢;obtain⟨c',h1,h2,h3⟩:=h;exact⟨c',h1,h2,Bk.mono hle (fun _ _ e=>e) cs 0 h3⟩
theorem Bk.mono {H H':Nat→Nat→Option Value} (hle:WY H H') {g g':Nat→Option Value} (hg: ∀i c,g i=some c→g' i=some c) :
 ∀(vs:List V) (o:Nat),Bk H g o vs→Bk H' g' o vs
 | [],_,_=>trivial
 | v::vs,o,h=>by
   simp only[Bk]at h ⊢;obtain⟨⟨c,h1,h2⟩,h3⟩:=h;exact⟨⟨c,hg _ _ h1,Af.mono hle v c h2⟩,Bk.mono hle hg vs (o+1) h3⟩
theorem BR.mono {H H':Nat→Nat→Option Value} (hle:WY H H') {g g':Nat→Option Value} (hg: ∀i c,g i=some c→g' i=some c) (sz:Nat) :
 ∀(es:List (List V)) (o:Nat),BR H g sz o es→BR H' g' sz o es
 | [],_,_=>trivial
 | e::es,o,h=>by
   simp only[BR]at h ⊢;obtain⟨h1,h2,h3⟩:=h;exact⟨h1,Bk.mono hle hg e o h2,BR.mono hle hg sz es (o+sz) h3⟩
end
theorem Fc.mono {H H':Nat→Nat→Option Value} (hle:WY H H'): ∀(r:List (V×V)) (es:List MapEntry),Fc H r es→Fc H' r es
 | [],[],_=>trivial
 | (k,v)::r,e::es,h=>by
   simp only[Fc]at h ⊢;exact⟨Af.mono hle _ _ h.1,Af.mono hle _ _ h.2.1,Fc.mono hle r es h.2.2⟩
 | [],_::_,h=>h.elim
 | _::_,[],h=>h.elim
theorem Pl.mono {H H':Nat→Nat→Option Value} (hle:WY H H') {o:O} {ob:Obj} (h:Pl H o ob):Pl H' o ob:=by
 cases o with
 | cs vs=>obtain⟨c,e,h1,h2,h3⟩:=h;exact⟨c,e,h1,h2,Bk.mono hle (fun _ _ e=>e) _ _ h3⟩
 | arr sz es cap=>obtain⟨c,e,h1,h2,h3,h4,h5⟩:=h;exact⟨c,e,h1,h2,h3,h4,BR.mono hle (fun _ _ e=>e) _ _ _ h5⟩
 | map kvs=>obtain⟨es,clk,h1,h2,h3⟩:=h;exact⟨es,clk,h1,Fc.mono hle _ _ h2,h3⟩
 | loop st env ok=>obtain⟨lp,h1,h2,h3,h4⟩:=h;exact⟨lp,h1,h2,fun k v hm=>let⟨c,h5,h6⟩:=h3 k v hm;⟨c,h5,h6.mono hle⟩,h4⟩
theorem Fw {Λ:Nat→Prop} {σ:AH} {w:World} {b o:Nat} {c:Value} (h:Hh Λ σ w b o=some c) :
 ¬Λ b∧σ b=none∧w.cell? ⟨b,o,none⟩=some c:=by
 unfold Hh at h;split at h
 ·cases h
 ·rename_i hn
  refine⟨fun hl=>hn (.inl hl),?_,h⟩;cases hs:σ b with
  | none=>rfl
  | some o=>exact absurd (.inr (by simp[hs])) hn
theorem Mu {Λ:Nat→Prop} {σ:AH} {w:World} {b o:Nat} (h1: ¬Λ b) (h2:σ b=none):Hh Λ σ w b o=w.cell? ⟨b,o,none⟩:=by
 unfold Hh;rw[if_neg];simp[h1,h2]
theorem kW {w:World} {b o:Nat} {c:Value} (h:w.cell? ⟨b,o,none⟩=some c):b<w.heap.size:=by
 unfold World.cell? at h;rcases Nat.lt_or_ge b w.heap.size with h'|h'
 ·exact h'
 ·simp[Array.getElem?_eq_none h']at h
theorem CY.hle {Λ:Nat→Prop} {σ σ':AH} {w w':World} (h:CY Λ σ w σ' w'):WY (Hh Λ σ w) (Hh Λ σ' w'):=by
 intro b o c hc;obtain⟨h1,h2,h3⟩:=Fw hc;have hb:=kW h3;rw[Mu h1 (h.names b h2 hb),World.cell?_of_block (w:=w) (h.frame b hb h2)];exact h3
theorem FO {Λ:Nat→Prop} {σ σ':AH} {w:World} (hs: ∀n,σ n=none→σ' n=none):WY (Hh Λ σ w) (Hh Λ σ' w):=by
 intro b o c hc;obtain⟨h1,h2,h3⟩:=Fw hc;rw[Mu h1 (hs b h2)];exact h3
def Sub (σ' σ:AH):Prop:= ∀n o,σ' n=some o→σ n=some o
theorem Sub.none {σ' σ:AH} (h:Sub σ' σ) {n:Nat} (hn:σ n=none):σ' n=none:=by
 cases h':σ' n with
 | none=>rfl
 | some o=>rw[h n o h']at hn;cases hn
theorem Sub.refl (σ:AH):Sub σ σ:=fun _ _ h=>h
theorem Sub.trans {a b c:AH} (h:Sub a b) (k:Sub b c):Sub a c:=fun n o e=>k n o (h n o e)
theorem Rel.drop {Λ:Nat→Prop} {σ σ':AH} {w:World} (h:Rel Λ σ w) (hs:Sub σ' σ):Rel Λ σ' w where
 own n o ho:=by
  obtain⟨h1,ob,h2,h3⟩:=h.own n o (hs n o ho);exact⟨h1,ob,h2,Pl.mono (FO fun n hn=>hs.none hn) h3⟩
 lock:=h.lock
theorem CY.drop {Λ:Nat→Prop} {σ σ':AH} (w:World) (hs:Sub σ' σ):CY Λ σ w σ' w:=
 ⟨fun _ _ _=>rfl,Nat.le_refl _,rfl,rfl,rfl,fun _ hn _=>hs.none hn⟩
end Go.Gl
namespace Go.Gl
abbrev Env:=List (Nat×V)
def get (k:Nat):Env→Option V
 | []=>none
 | (j,v)::r=>bif Nat.beq j k then some v else get k r
inductive B1 where
 | t (n:Nat)
 | c (v:V)
 deriving Inhabited
def ev (env:Env):B1→Option V
 | .t n=>get n env
 | .c v=>some v
def Sj (env:Env):List B1→Option (List V)
 | []=>some []
 | x::r=>match ev env x,Sj env r with
   | some v,some vs=>some (v::vs)
   | _,_=>none
def BI (σ:AH) (n:Nat) (o:O):AH:=fun k=>if k=n then some o else σ k
def del (σ:AH) (n:Nat):AH:=fun k=>if k=n then none else σ k
mutual
inductive Gs (σ σ':AH):V→V→Prop
 | refl (v:V):Gs σ σ' v v
 | arr {n sz cap len:Nat} {es es':List (List V)}:σ n=some (.arr sz es cap)→σ' n=none→len=es.length→F6 σ σ' es es'→Gs σ σ' (.sl n len cap) (.l es' false)
 | cs {n:Nat} {vs vs':List V}:σ n=some (.cs vs)→σ' n=none→Es σ σ' vs vs'→Gs σ σ' (.p n 0) (.rp vs')
 | a {vs vs':List V}:Es σ σ' vs vs'→Gs σ σ' (.a vs) (.a vs')
 | t {vs vs':List V}:Es σ σ' vs vs'→Gs σ σ' (.t vs) (.t vs')
 | E2 {t:TypeId} {v v':V}:Gs σ σ' v v'→Gs σ σ' (.E2 t v) (.E2 t v')
 | l {es es':List (List V)} {f f':Bool}:(f'=true→f=true)→F6 σ σ' es es'→Gs σ σ' (.l es f) (.l es' f')
 | rp {vs vs':List V}:Es σ σ' vs vs'→Gs σ σ' (.rp vs) (.rp vs')
 | f {fn:Fn} {a a' b b':List V}:Es σ σ' a a'→Es σ σ' b b'→Gs σ σ' (.f fn a b) (.f fn a' b')
 | any {v:V}:Gs σ σ' v .any
inductive Es (σ σ':AH):List V→List V→Prop
 | nil:Es σ σ' [] []
 | cons {v v':V} {vs vs':List V}:Gs σ σ' v v'→Es σ σ' vs vs'→Es σ σ' (v::vs) (v'::vs')
inductive F6 (σ σ':AH):List (List V)→List (List V)→Prop
 | nil:F6 σ σ' [] []
 | cons {v v':List V} {vs vs':List (List V)}:Es σ σ' v v'→F6 σ σ' vs vs'→F6 σ σ' (v::vs) (v'::vs')
end
inductive KS where
 | i (k:IntKind)
 | a (l:List IntKind)
 | s
 deriving Inhabited
inductive FA where
 | mv (x:B1)
 | Ux (x:B1)
 | pick (c a b:B1)
 | bin (op:BinOp) (x y:B1)
 | Sk (neg:Bool) (x y:B1)
 | dR (len:Nat) (neg:Bool) (x y:B1)
 | U0 (kind:Nat) (neg:Bool) (x:B1)
 | not (x:B1)
 | neg (xor:Bool) (x:B1)
 | conv(k:IntKind) (x:B1)
 | box (x:B1)
 | NQ (x:B1)
 | N6 (sz bytes:Nat) (x y:B1)
 | alloc (zero:List V)
 | build (zero:List V) (parts:List (Nat×Nat×B1))
 | Ab (sz len:Nat) (zero:List V) (parts:List (Nat×B1))
 | load (agg:Option Nat) (x:B1)
 | store (sz:Nat) (a x:B1)
 | HH (off:Nat) (x:B1)
 | field (agg:Option Nat) (off:Nat) (x:B1)
 | Bi (sz:Nat) (arr:Option Nat) (x i:B1)
 | index (len sz:Nat) (agg:Option Nat) (x i:B1)
 | slice (sz:Nat) (x:B1) (lo hi mx:Option B1)
 | len (x:B1)
 | RG (x:B1)
 | str (x:B1)
 | Pe (x i:B1)
 | append (sz bytes:Nat) (x y:B1)
 | copy (sz:Nat) (x y:B1)
 | Jb (x y:B1)
 | NM (x y:B1)
 | extract (i:Nat) (x:B1)
 | Ei (x:B1)
 | G8 (f:Fn) (first cap:List B1)
 | GZ
 | Dv (sz bytes:Nat) (zero:List V) (len cap:B1)
 | lookup (ks:KS) (zero:V) (ok:Bool) (m k:B1)
 | DO (ks:KS) (m k v:B1)
 | FW (t:TypeId) (x:B1)
 | WW (t:TypeId) (zero:V) (ok:Bool) (x:B1)
 | panic (x:B1)
 | call (f:FuncId) (args:List B1)
 | Jr (f:FuncId) (args:List B1)
 | CC (x:B1) (args:List B1)
 | VR (x:B1) (args:List B1)
 | inv (tab:List (TypeId×FuncId)) (x:B1) (args:List B1)
 deriving Inhabited
abbrev wv (o:Option V) (k:V→Prop):Prop:=match o with|some v=>k v|none=>False
@[simp] theorem Ew (v:V) (k:V→Prop):wv (some v) k=k v:=rfl
@[simp] theorem ADJ (k:V→Prop):wv none k=False:=rfl
def bits (op:BinOp) (k:IntKind) (x y:Int):Int:=
 let a:=BitVec.ofInt k.bits x
 let b:=BitVec.ofInt k.bits y
 k.wrap (match op with
  | .and=>a&&&b
  | .or=>a|||b
  | .xor=>a ^^^ b
  | _=>a&&& ~~~b:BitVec k.bits).toNat
def Sw (op:BinOp) (x y:V) (k:V→Prop):Prop:=
 match x,y with
 | .i ka a,.i kb b=>
   match op with
   | .add=>ka=kb∧k (.i ka (ka.wrap (a+b)))
   | .sub=>ka=kb∧k (.i ka (ka.wrap (a - b)))
   | .mul=>ka=kb∧k (.i ka (ka.wrap (a*b)))
   | .quo=>ka=kb∧b≠0∧k (.i ka (ka.wrap (a.tdiv b)))
   | .rem=>ka=kb∧b≠0∧k (.i ka (a.tmod b))
   | .eql=>ka=kb∧k (.b (a==b))
   | .neq=>ka=kb∧k (.b (a != b))
   | .lss=>ka=kb∧k (.b (decide (a<b)))
   | .leq=>ka=kb∧k (.b (decide (a≤b)))
   | .gtr=>ka=kb∧k (.b (decide (a > b)))
   | .geq=>ka=kb∧k (.b (decide (a≥b)))
   | .shl=>0≤b∧k (.i ka (ka.wrap (a*2 ^ (min b.toNat ka.bits))))
   | .shr=>0≤b∧k (.i ka (a.fdiv (2 ^ (min b.toNat ka.bits))))
   | op=>ka=kb∧k (.i ka (bits op ka a b))
 | _,_=>False
def cellsOf:V→Option (List V)
 | .a cs=>some cs
 | .t _=>none
 | .any=>none
 | v=>some [v]
def Cb:V→Bool
 | .a _=>false
 | .t _=>false
 | .any=>false
 | _=>true
def putAt:List V→Nat→List V→List V
 | cs,_,[]=>cs
 | cs,o,v::vs=>putAt (cs.set o v) (o+1) vs
def Jq (env:Env):List V→List (Nat×Nat×B1)→Option (List V)
 | cs,[]=>some cs
 | cs,(off,sz,x)::r=>
   match ev env x with
   | some v=>match cellsOf v with
     | some vc=>bif Nat.beq vc.length sz&&Nat.ble (off+sz) cs.length then Jq env (putAt cs off vc) r else none
     | none=>none
   | none=>none
def Is (env:Env) (sz:Nat):List (List V)→List (Nat×B1)→Option (List (List V))
 | es,[]=>some es
 | es,(i,x)::r=>
   match ev env x with
   | some v=>match cellsOf v with
     | some vc=>bif Nat.beq vc.length sz&&Nat.blt i es.length then Is env sz (es.set i vc) r else none
     | none=>none
   | none=>none
def cut (agg:Option Nat) (cs:List V) (off:Nat) (k:V→Prop):Prop:=
 match agg with
 | none=>match cs[off]? with|some v=>k v|none=>False
 | some n=>off+n≤cs.length∧k (.a ((cs.drop off).take n))
def N9 (σ:AH) (n off:Nat) (agg:Option Nat) (k:V→Prop):Prop:=
 match σ n with
 | some (.cs vs)=>cut agg vs off k
 | _=>False
def OA (σ:AH) (n sz i off:Nat) (agg:Option Nat) (k:V→Prop):Prop:=
 match σ n with
 | some (.arr sz' es _)=>sz=sz'∧match es[i]? with|some e=>cut agg e off k|none=>False
 | _=>False
def A7 (σ:AH) (agg:Option Nat) (x:V) (k:V→Prop):Prop:=
 match x with
 | .rp cs=>cut agg cs 0 k
 | .p n off=>N9 σ n off agg k
 | .pe n sz i off=>OA σ n sz i off agg k
 | _=>False
def Aq (σ:AH) (sz:Nat) (a x:V) (k:AH→Prop):Prop:=
 match cellsOf x with
 | some vc=>
   vc.length=sz∧vc.all Cb=true∧match a with
   | .p n off=>match σ n with
     | some (.cs vs)=>off+sz≤vs.length∧k (BI σ n (.cs (putAt vs off vc)))
     | _=>False
   | .pe n s i off=>match σ n with
     | some (.arr s' es cap)=>s=s'∧match es[i]? with
       | some e=>off+sz≤s∧k (BI σ n (.arr s (es.set i (putAt e off vc)) cap))
       | none=>False
     | _=>False
   | _=>False
 | none=>False
def KC (off:Nat) (x:V) (k:V→Prop):Prop:=
 match x with
 | .rp cs=>k (.rp (cs.drop off))
 | .p n o=>k (.p n (o+off))
 | .pe n sz i o=>k (.pe n sz i (o+off))
 | _=>False
def Al (sz:Nat) (arr:Option Nat) (x i:V) (k:V→Prop):Prop:=
 match i with
 | .i _ j=>match arr,x with
   | none,.l es _=>0≤j∧ ∃e,es[j.toNat]? =some e∧e.length=sz∧k (.rp e)
   | none,.sl n len _=>0≤j∧j<len∧k (.pe n sz j.toNat 0)
   | none,.sv n s off len=>s=sz∧0≤j∧j<len∧k (.pe n sz (off+j.toNat) 0)
   | some m,.rp cs=>0≤j∧j<m∧k (.rp (cs.drop (j.toNat*sz)))
   | some m,.p n o=>0≤j∧j<m∧k (.p n (o+j.toNat*sz))
   | some m,.pe n s q o=>0≤j∧j<m∧k (.pe n s q (o+j.toNat*sz))
   | _,_=>False
 | _=>False
def KB (len sz:Nat) (agg:Option Nat) (x i:V) (k:V→Prop):Prop:=
 match x,i with
 | .a cs,.i _ j=>0≤j∧j<len∧cut agg cs (j.toNat*sz) k
 | _,_=>False
def OC (x i:V) (k:V→Prop):Prop:=
 match x,i with
 | .s b,.i _ j=>0≤j∧match b.data.toList[j.toNat]? with|some c=>k (.i .u8 c.toNat)|none=>False
 | _,_=>False
def B8 (x:V) (k:V→Prop):Prop:=
 match x with
 | .l es _=>k (.i .i64 es.length)
 | .sl _ len _=>len≤Ak∧k (.i .i64 len)
 | .sv _ _ _ len=>len≤Ak∧k (.i .i64 len)
 | _=>False
def Jo (σ:AH) (x:V) (k:V→Prop):Prop:=
 match x with
 | .m n=>match σ n with
   | some (.map kvs)=>kvs.length≤Ak∧k (.i .i64 kvs.length)
   | _=>False
 | .mn=>k (.i .i64 0)
 | _=>False
def rowsOf (σ:AH) (sz:Nat) (y:V) (k:List (List V)→Prop):Prop:=
 match y with
 | .l ys _=>(∀e∈ys,e.length=sz)∧k ys
 | .sl m len _=>match σ m with
   | some (.arr s ys _)=>s=sz∧len≤ys.length∧k (ys.take len)
   | _=>False
 | .sv m s off len=>match σ m with
   | some (.arr s' ys _)=>s=sz∧s'=sz∧off+len≤ys.length∧k ((ys.drop off).take len)
   | _=>False
 | _=>False
def FD:List (List V)→Option (List Int)
 | []=>some []
 | [.i .u8 n]::r=>match FD r with|some l=>some (n::l)|none=>none
 | _=>none
def Zj (σ:AH) (x:V) (k:V→Prop):Prop:=rowsOf σ 1 x fun ys=>match FD ys with|some ns=>k (.s ⟨(ns.map fun n=>UInt8.ofNat n.toNat).toArray⟩)|none=>False
def Aa (b : Nat) (σ:AH) (sz:Nat) (x y:V) (k:V→AH→Prop):Prop:=
 rowsOf σ sz y fun ys=>
 (∀e∈ys,∀v∈e,Cb v=true)∧match x with
 | .l es full=>(∀e∈es,e.length=sz)∧(es.length+ys.length≤Ak∧(es.length+ys.length)*b≤140737488355328)∧(ys= []→k (.l es full) σ)∧
  (ys≠[]→full=true∧ ∀n cap,σ n=none→es.length+ys.length≤cap→k (.sl n (es.length+ys.length) cap) (BI σ n (.arr sz (es++ys) cap)))
 | .sl n len cap=>match σ n with
   | some (.arr s es c)=>s=sz∧c=cap∧len=es.length∧(es.length+ys.length≤Ak∧(es.length+ys.length)*b≤140737488355328)∧
    ∀ n' cap',del σ n n'=none→es.length+ys.length≤cap'→
      k (.sl n' (es.length+ys.length) cap') (BI (del σ n) n' (.arr sz (es++ys) cap'))
   | _=>False
 | _=>False
def N2 (σ:AH) (sz:Nat) (ys:List (List V)) (n off len:Nat) (k:V→AH→Prop):Prop:=
 match σ n with
 | some (.arr s es c)=>s=sz∧off+len≤es.length∧k (.i .i64 (min ys.length len:Nat)) (BI σ n (.arr s (es.take off++(ys.take (min ys.length len)++es.drop (off+min ys.length len))) c))
 | _=>False
def BO (σ:AH) (sz:Nat) (x y:V) (k:V→AH→Prop):Prop:=
 rowsOf σ sz y fun ys=>(∀e∈ys,∀v∈e,Cb v=true)∧match x with
 | .sl n len _=>N2 σ sz ys n 0 len k
 | .sv n s off len=>s=sz∧N2 σ sz ys n off len k
 | _=>False
def BS (b:Nat) (σ:AH) (sz:Nat) (x y:V) (k:V→Prop):Prop:=
 rowsOf σ sz y fun ys=>
 (∀e∈ys,∀v∈e,Cb v=true)∧match x with
 | .l es full=>(∀e∈es,e.length=sz)∧(es.length+ys.length≤Ak∧(es.length+ys.length)*b≤140737488355328)∧(ys≠[]→full=true)∧k (.l (es++ys) false)
 | _=>False
def Pb (o:Option V) (d:Int) (k:Int→Prop):Prop:=
 match o with
 | none=>k d
 | some (.i _ n)=>k n
 | _=>False
def Ao (σ:AH) (sz:Nat) (x:V) (lo hi mx:Option V) (k:V→AH→Prop):Prop:=
 match x with
 | .l es full=>(∀e∈es,e.length=sz)∧Pb hi es.length fun h=>Pb lo 0 fun l=>0≤l∧l≤h∧h≤es.length∧
  match mx with
  | none=>k (.l ((es.take h.toNat).drop l.toNat) (full&&decide (h=es.length))) σ
  | some (.i _ m)=>m=h∧k (.l ((es.take h.toNat).drop l.toNat) true) σ
  | _=>False
 | .sl n len cap=>Pb hi len fun h=>Pb lo 0 fun l=>0≤l∧l≤h∧h≤len∧
  match mx with
  | none=>k (.sv n sz l.toNat (h - l).toNat) σ
  | some (.i _ m)=>m=h∧h=len∧l=0∧match σ n with
    | some (.arr s es c)=>s=sz∧c=cap∧len=es.length∧(k (.l es true) (del σ n)∨k (.sl n len len) (BI σ n (.arr s es len)))
    | _=>False
  | _=>False
 | .sv n s off len=>Pb hi len fun h=>Pb lo 0 fun l=>0≤l∧l≤h∧h≤len∧s=sz∧mx=none∧k (.sv n sz (off+l.toNat) (h - l).toNat) σ
 | _=>False
def HF (env:Env):Option B1→Option (Option V)
 | none=>some none
 | some x=>match ev env x with|some v=>some (some v)|none=>none
abbrev wo (o:Option (Option V)) (k:Option V→Prop):Prop:=match o with|some v=>k v|none=>False
@[simp] theorem Wm (v:Option V) (k:Option V→Prop):wo (some v) k=k v:=rfl
abbrev ws (o:Option (List V)) (k:List V→Prop):Prop:=match o with|some v=>k v|none=>False
@[simp] theorem ADK (v:List V) (k:List V→Prop):ws (some v) k=k v:=rfl
abbrev wr (o:Option (List (List V))) (k:List (List V)→Prop):Prop:=match o with|some v=>k v|none=>False
@[simp] theorem ADL (v:List (List V)) (k:List (List V)→Prop):wr (some v) k=k v:=rfl
def B7:List V→List V→Option Bool
 | [],[]=>some true
 | .i k a::r,.i k' b::s=>if k=k' then(B7 r s).map ((a==b)&& ·)else none
 | _,_=>none
def RH (len:Nat) (neg:Bool) (x y:V) (k:V→Prop):Prop:=
 match x,y with
 | .a cs,.a ds=>match Nat.beq cs.length len,B7 cs ds with|true,some t=>k (.b (bif neg then !t else t))|_,_=>False
 | _,_=>False
def Ij (kind:Nat) (neg:Bool) (x:V) (k:V→Prop):Prop:=
 match kind,x with
 | 0,.pn=>k (.b (!neg))
 | 0,.rp _|0,.p _ _|0,.pe _ _ _ _=>k (.b neg)
 | 1,.sl _ _ _=>k (.b neg)
 | 1,.l es _=>(es= []→ ∀t,k (.b t))∧(es≠[]→k (.b neg))
 | 2,.Dp=>k (.b (!neg))
 | 2,.E2 _ _=>k (.b neg)
 | 3,.mn=>k (.b (!neg))
 | 3,.m _=>k (.b neg)
 | 4,.HB=>k (.b (!neg))
 | 4,.f _ _ _=>k (.b neg)
 | _,_=>False
def Ac (σ:AH) (sz:Nat) (z:List V) (x y:V) (k:V→AH→Prop):Prop:=
 match x,y with
 | .i _ n,.i _ m=>0≤n∧n≤m∧m≤1073741824∧ ∀id,σ id=none→k (.sl id n.toNat m.toNat) (BI σ id (.arr sz (List.replicate n.toNat z) m.toNat))
 | _,_=>False
def Dr:List IntKind→List V→Bool
 | [],[]=>true
 | q::l,.i q' _::cs=>decide (q=q')&&Dr l cs
 | _,_=>false
def Bb (ks:KS) (v:V):Bool:=
 match ks,v with
 | .i k,.i k' _=>decide (k=k')
 | .a l,.a cs=>Dr l cs
 | .s,.s b=>Nat.ble b.size 1048576
 | _,_=>false
def D0 (x y:V):Bool:=
 match x,y with
 | .i _ a,.i _ b=>a==b
 | .s b,.s c=>decide (b=c)
 | .a cs,.a ds=>(B7 cs ds).getD false
 | _,_=>false
def Cr (key:V):List (V×V)→Option V
 | []=>none
 | (k,v)::r=>bif D0 key k then some v else Cr key r
def Dy (key val:V):List (V×V)→List (V×V)
 | []=>[(key,val)]
 | (k,v)::r=>bif D0 key k then(key,val)::r else(k,v)::Dy key val r
def found (z:V) (ok:Bool) (o:Option V):V:=match o with|some v=>bif ok then .t [v,.b true]else v|none=>bif ok then .t [z,.b false]else z
def Ah (σ:AH) (ks:KS) (z:V) (ok:Bool) (vm vk:V) (k:V→Prop):Prop:=
 Bb ks vk=true∧match vm with
 | .m n=>match σ n with
   | some (.map kvs)=>(∀kv∈kvs,Bb ks kv.1=true)∧k (found z ok (Cr vk kvs))
   | _=>False
 | .mn=>k (found z ok none)
 | _=>False
def Ap (σ:AH) (ks:KS) (vm vk vv:V) (k:AH→Prop):Prop:=
 Bb ks vk=true∧match vm with
 | .m n=>match σ n with
   | some (.map kvs)=>(∀kv∈kvs,Bb ks kv.1=true)∧k (BI σ n (.map (Dy vk vv kvs)))
   | _=>False
 | _=>False
inductive R where
 | ret (v:V)
 | By (v:V)
def S9 (H:Nat→Nat→Option Value):R→Ending→Prop
 | .ret v,e=> ∃c,e= .returned c∧Af H v c
 | .By v,e=> ∃c,e= .panicked [{v:=c,recovered:=false}]∧Af H v c
def okF (P:Program) (f:FuncId):Bool:=
 match P.funcs[f]? with
 | some fn=>fn.body.isSome&&fn.name != "runtime.NumGoroutine"
 | none=>false
def Za (H:Nat→Nat→Option Value) (vs:List V) (cs:Array Value):Prop:=cs.size=vs.length∧Bk H (fun i=>cs[i]?) 0 vs
def Bj (P:Program) (f:FuncId) (args:List V) (σ:AH) (Q:R→AH→Prop):Prop:=
 okF P f=true∧ ∀(Λ:Nat→Prop) (w:World) (cs:Array Value),Rel Λ σ w→Za (Hh Λ σ w) args cs→
  Calls P f cs w fun e w'=> ∃r σ',Q r σ'∧S9 (Hh Λ σ' w') r e∧Rel Λ σ' w'∧CY Λ σ w σ' w'
def RT (P:Program) (l:Nat) (args:List V) (σ:AH) (Q:R→AH→Prop):Prop:=
 ∀ (Λ:Nat→Prop) (w:World) (cs:Array Value),Rel Λ σ w→Za (Hh Λ σ w) args cs→
   ∃ f tmps assign body,(Instr.yield l cs).run P w= .ok (.round l f tmps assign body) w∧
     RoundIn Fence.wide 0 P l f tmps assign body w fun e w'=> ∃r σ',Q r σ'∧S9 (Hh Λ σ' w') r e∧Rel Λ σ' w'∧CY Λ σ w σ' w'
def Bz (P:Program) (x:V) (args:List V) (σ:AH) (Q:R→AH→Prop):Prop:=
 match x with
 | .f (.func f) first cap=>Bj P f (first++args++cap) σ Q
 | .f (.yield l) [] []=>RT P l args σ Q
 | _=>False
def look (t:TypeId):List (TypeId×FuncId)→Option FuncId
 | []=>none
 | (u,f)::r=>bif Nat.beq u t then some f else look t r
def CA (P:Program) (tab:List (TypeId×FuncId)) (x:V) (args:List V) (σ:AH) (Q:R→AH→Prop):Prop:=
 match x with
 | .E2 t v=>match look t tab with
   | some f=>Bj P f (v::args) σ Q
   | none=>False
 | _=>False
def qk (k kp:V→AH→Prop):R→AH→Prop
 | .ret v,σ=>k v σ
 | .By v,σ=>kp v σ
def FL (P:Program) (o:FA) (env:Env) (σ:AH) (k kp:V→AH→Prop):Prop:=
 match o with
 | .mv x=>wv (ev env x) fun v=>k v σ
 | .Ux x=>wv (ev env x) fun v=> ∃vf σ2,Sub σ2 σ∧Gs σ σ2 v vf∧k vf σ2
 | .pick c a b=>wv (ev env c) fun vc=>wv (ev env a) fun va=>wv (ev env b) fun vb=>
  match vc with| .b t=>(match va,vb with| .b x,.b y=>k (.b (bif t then x else y)) σ|_,_=>k (bif t then va else vb) σ)|_=>False
 | .bin op x y=>wv (ev env x) fun vx=>wv (ev env y) fun vy=>Sw op vx vy fun v=>k v σ
 | .Sk neg x y=>wv (ev env x) fun vx=>wv (ev env y) fun vy=>
  match vx,vy with| .b p,.b q=>k (.b (bif neg then p != q else p==q)) σ|_,_=>False
 | .not x=>wv (ev env x) fun vx=>match vx with| .b p=>k (.b (!p)) σ|_=>False
 | .neg xor x=>wv (ev env x) fun vx=>match vx with
  | .i ka a=>k (.i ka (bif xor then bits .xor ka (bif ka.signed then -1 else ka.max) a else ka.wrap (0 - a))) σ
  | _=>False
 | .conv ka x=>wv (ev env x) fun vx=>match vx with| .i _ a=>k (.i ka (ka.wrap a)) σ|_=>False
 | .box x=>wv (ev env x) fun vx=>match cellsOf vx with
  | some cs=> ∀n,σ n=none→k (.p n 0) (BI σ n (.cs cs))
  | none=>False
 | .NQ x=>wv (ev env x) fun vx=>match cellsOf vx with
  | some cs=>k (.rp cs) σ
  | none=>False
 | .N6 sz b x y=>wv (ev env x) fun vx=>wv (ev env y) fun vy=>BS b σ sz vx vy fun v=>k v σ
 | .alloc z=> ∀n,σ n=none→k (.p n 0) (BI σ n (.cs z))
 | .build z parts=>ws (Jq env z parts) fun cs=>k (.a cs) σ
 | .Ab _ len z parts=>wr (Is env z.length (List.replicate len z) parts) fun es=>k (.l es true) σ
 | .load agg x=>wv (ev env x) fun vx=>A7 σ agg vx fun v=>k v σ
 | .store sz a x=>wv (ev env a) fun va=>wv (ev env x) fun vx=>Aq σ sz va vx fun σ'=>k (.t []) σ'
 | .HH off x=>wv (ev env x) fun vx=>KC off vx fun v=>k v σ
 | .field agg off x=>wv (ev env x) fun vx=>match vx with| .a cs=>cut agg cs off fun v=>k v σ|_=>False
 | .Bi sz arr x i=>wv (ev env x) fun vx=>wv (ev env i) fun vi=>Al sz arr vx vi fun v=>k v σ
 | .index len sz agg x i=>wv (ev env x) fun vx=>wv (ev env i) fun vi=>KB len sz agg vx vi fun v=>k v σ
 | .slice sz x lo hi mx=>wv (ev env x) fun vx=>wo (HF env lo) fun l=>wo (HF env hi) fun h=>wo (HF env mx) fun m=>Ao σ sz vx l h m k
 | .len x=>wv (ev env x) fun vx=>B8 vx fun v=>k v σ
 | .RG x=>wv (ev env x) fun vx=>Jo σ vx fun v=>k v σ
 | .Pe x i=>wv (ev env x) fun vx=>wv (ev env i) fun vi=>OC vx vi fun v=>k v σ
 | .str x=>wv (ev env x) fun vx=>Zj σ vx fun v=>k v σ
 | .append sz b x y=>wv (ev env x) fun vx=>wv (ev env y) fun vy=>Aa b σ sz vx vy k
 | .copy sz x y=>wv (ev env x) fun vx=>wv (ev env y) fun vy=>BO σ sz vx vy k
 | .Jb x y=>wv (ev env x) fun vx=>wv (ev env y) fun vy=>match vx,vy with
  | .i ka a,.i kb b=>ka=kb∧k (.i ka (if b > a then b else a)) σ
  | _,_=>False
 | .NM x y=>wv (ev env x) fun vx=>wv (ev env y) fun vy=>match vx,vy with
  | .i ka a,.i kb b=>ka=kb∧k (.i ka (if b<a then b else a)) σ
  | _,_=>False
 | .extract i x=>wv (ev env x) fun vx=>match vx with| .t vs=>(match vs[i]? with|some v=>k v σ|none=>False)|_=>False
 | .Ei x=>wv (ev env x) fun vx=>match vx with
  | .p n off=>k (.p n off) σ
  | .rp cs=>k (.rp cs) σ
  | .pe n sz i off=>k (.pe n sz i off) σ
  | .f (.func f) first cap=>k (.f (.func f) first cap) σ
  | .f (.yield l) first cap=>k (.f (.yield l) first cap) σ
  | _=>False
 | .G8 f first cap=>ws (Sj env first) fun vf=>ws (Sj env cap) fun vc=>k (.f f vf vc) σ
 | .FW t x=>wv (ev env x) fun vx=>k (.E2 t vx) σ
 | .WW t z ok x=>wv (ev env x) fun vx=>match vx with
  | .E2 t' v=>(t'=t→k (bif ok then .t [v,.b true]else v) σ)∧(t'≠t→ok=true∧k (.t [z,.b false]) σ)
  | .Dp=>ok=true∧k (.t [z,.b false]) σ
  | _=>False
 | .panic x=>wv (ev env x) fun vx=>match vx with| .E2 t v=>kp (.E2 t v) σ|_=>False
 | .call f args=>ws (Sj env args) fun vs=>Bj P f vs σ (qk k kp)
 | .dR len neg x y=>wv (ev env x) fun vx=>wv (ev env y) fun vy=>RH len neg vx vy fun v=>k v σ
 | .U0 kind neg x=>wv (ev env x) fun vx=>Ij kind neg vx fun v=>k v σ
 | .Dv sz _ z x y=>wv (ev env x) fun vx=>wv (ev env y) fun vy=>Ac σ sz z vx vy k
 | .GZ=> ∀n,σ n=none→k (.m n) (BI σ n (.map []))
 | .lookup ks z ok m key=>wv (ev env m) fun vm=>wv (ev env key) fun vk=>Ah σ ks z ok vm vk fun v=>k v σ
 | .DO ks m key x=>wv (ev env m) fun vm=>wv (ev env key) fun vk=>wv (ev env x) fun vx=>Ap σ ks vm vk vx fun σ'=>k (.t []) σ'
 | .Jr f args=>ws (Sj env args) fun vs=> ∃v,Bj P f vs (fun _=>none) (fun r σ'=>r= .ret v∧σ'=fun _=>none)∧k v σ
 | .CC x args=>wv (ev env x) fun vx=>ws (Sj env args) fun vs=>Bz P vx vs σ (qk k kp)
 | .inv tab x args=>wv (ev env x) fun vx=>ws (Sj env args) fun vs=>CA P tab vx vs σ (qk k kp)
 | _=>False
end Go.Gl
namespace Go.Gl
theorem Bu {H:Nat→Nat→Option Value} {g:Nat→Option Value}: ∀ {vs:List V} {o:Nat},
 Bk H g o vs↔ ∀i v,vs[i]? =some v→ ∃c,g (o+i)=some c∧Af H v c
 | [],o=>by simp[Bk]
 | v ::vs,o=>by
   simp only[Bk];rw[Bu (vs:=vs) (o:=o+1)];constructor
   ·rintro⟨h1,h2⟩ i u hu
    cases i with
    | zero=>simp at hu;subst hu;simpa using h1
    | succ i=>
      obtain⟨c,hc,hr⟩:=h2 i u (by simpa using hu);exact⟨c,by rw[←hc];congr 1;omega,hr⟩
   ·intro h
    refine⟨by simpa using h 0 v rfl,fun i u hu=>?_⟩;obtain⟨c,hc,hr⟩:=h (i+1) u (by simpa using hu);exact⟨c,by rw[←hc];congr 1;omega,hr⟩
theorem BH {H:Nat→Nat→Option Value} {g:Nat→Option Value} {sz:Nat}: ∀ {es:List (List V)} {o:Nat},
 BR H g sz o es↔ ∀i e,es[i]? =some e→e.length=sz∧Bk H g (o+i*sz) e
 | [],o=>by simp[BR]
 | v ::vs,o=>by
   simp only[BR];rw[BH (es:=vs) (o:=o+sz)];constructor
   ·rintro⟨h1,h2,h3⟩ i u hu
    cases i with
    | zero=>simp at hu;subst hu;exact⟨h1,by simpa using h2⟩
    | succ i=>
      obtain⟨h4,h5⟩:=h3 i u (by simpa using hu);refine⟨h4,?_⟩;rw[show o+(i+1)*sz=o+sz+i*sz by rw[Nat.add_mul];omega];exact h5
   ·intro h
    have h0:=h 0 v rfl;refine⟨h0.1,by simpa using h0.2,fun i u hu=>?_⟩;obtain⟨h4,h5⟩:=h (i+1) u (by simpa using hu);refine⟨h4,?_⟩;rw[show o+sz+i*sz=o+(i+1)*sz by rw[Nat.add_mul];omega];exact h5
theorem BF {H:Nat→Nat→Option Value} {g g':Nat→Option Value} {o o':Nat} {vs:List V} (h:Bk H g o vs) (hg: ∀i,i<vs.length→g' (o'+i)=g (o+i)):Bk H g' o' vs:=by
 rw[Bu]at *;intro i v hv;obtain⟨c,hc,hr⟩:=h i v hv;exact⟨c,by rw[hg i (by rw[List.getElem?_eq_some_iff]at hv;exact hv.1)];exact hc,hr⟩
theorem JO {H:Nat→Nat→Option Value} {g:Nat→Option Value} {o:Nat} {vs:List V} (h:Bk H g o vs) (n:Nat):Bk H g (o+n) (vs.drop n):=by
 rw[Bu]at *;intro i v hv;rw[xl]at hv;obtain⟨c,hc,hr⟩:=h (n+i) v hv;exact⟨c,by rw[←hc];congr 1;omega,hr⟩
theorem P8 {H:Nat→Nat→Option Value} {g:Nat→Option Value} {o:Nat} {vs:List V} (h:Bk H g o vs) (n:Nat):Bk H g o (vs.take n):=by
 rw[Bu]at *;intro i v hv;rw[List.getElem?_take]at hv;split at hv
 ·exact h i v hv
 ·cases hv
theorem Mv {H:Nat→Nat→Option Value} {g:Nat→Option Value} {o:Nat} {vs us:List V} (h:Bk H g o vs) (k:Bk H g (o+vs.length) us):Bk H g o (vs++us):=by
 rw[Bu]at *;intro i v hv;rw[List.getElem?_append]at hv;split at hv
 ·exact h i v hv
 ·obtain⟨c,hc,hr⟩:=k _ v hv
  exact⟨c,by rw[←hc];congr 1;omega,hr⟩
theorem Rel.lt {Λ:Nat→Prop} {σ:AH} {w:World} (h:Rel Λ σ w) {n:Nat} {o:O} (ho:σ n=some o):n<w.heap.size:=by
 obtain⟨_,ob,h2,_⟩:=h.own n o ho;rcases Nat.lt_or_ge n w.heap.size with h'|h'
 ·exact h'
 ·simp[Array.getElem?_eq_none h']at h2
theorem Rel.new {Λ:Nat→Prop} {σ:AH} {w:World} (h:Rel Λ σ w):σ w.heap.size=none:=by
 cases h':σ w.heap.size with
 | none=>rfl
 | some o=>exact absurd (h.lt h') (Nat.lt_irrefl _)
theorem Rel.step {Λ:Nat→Prop} {σ σ':AH} {w w':World} (h:Rel Λ σ w) (ha:CY Λ σ w σ' w')
 (hn: ∀n o,σ' n=some o→(σ n=some o∧w'.heap[n]? =w.heap[n]?)∨(¬Λ n∧ ∃ob,w'.heap[n]? =some ob∧Pl (Hh Λ σ' w') o ob)):Rel Λ σ' w' where
 own n o ho:=by
  rcases hn n o ho with⟨h1,h2⟩|h1
  ·obtain⟨h3,ob,h4,h5⟩:=h.own n o h1
   exact⟨h3,ob,h2.trans h4,h5.mono ha.hle⟩
  ·exact h1
 lock n hl:=Nat.lt_of_lt_of_le (h.lock n hl) ha.size
theorem Dd (σ:AH) (n:Nat) (o:O):BI σ n o n=some o:=by simp[BI]
theorem Cz (σ:AH) {n m:Nat} (o:O) (h:m≠n):BI σ n o m=σ m:=by simp[BI,h]
theorem Dh (σ:AH) (n:Nat):del σ n n=none:=by simp[del]
theorem G2 (σ:AH) {n m:Nat} (h:m≠n):del σ n m=σ m:=by simp[del,h]
theorem Fu (σ:AH) (n:Nat):Sub (del σ n) σ:=by
 intro m o h;unfold del at h;split at h
 ·cases h
 ·exact h
theorem EE {Λ:Nat→Prop} {σ:AH} {w:World} (o:O) (ob:Obj):CY Λ σ w (BI σ w.heap.size o) (w.alloc ob) where
 frame n hn _:=RowKit.Below.heap_alloc _ _ _ hn
 size:=by simp
 os:=rfl
 tape:=rfl
 output:=rfl
 names n h0 hn:=by rw[Cz _ _ (by omega)];exact h0
theorem HW {Λ:Nat→Prop} {σ:AH} {w:World} (h:Rel Λ σ w) {o:O} {ob:Obj} (ho:Pl (Hh Λ σ w) o ob):Rel Λ (BI σ w.heap.size o) (w.alloc ob):=
 h.step (EE o ob) fun n o' hn=>by
  by_cases e:n=w.heap.size
  ·subst e
   rw[Dd]at hn;cases hn;exact .inr ⟨fun hl=>absurd (h.lock _ hl) (Nat.lt_irrefl _),ob,heap_alloc_new _ _,ho.mono (EE o ob).hle⟩
  ·rw[Cz _ _ e]at hn
   exact .inl ⟨hn,RowKit.Below.heap_alloc _ _ _ (h.lt hn)⟩
theorem IB {Λ:Nat→Prop} {σ:AH} (w:World) (ob:Obj):CY Λ σ w σ (w.alloc ob) where
 frame n hn _:=RowKit.Below.heap_alloc _ _ _ hn
 size:=by simp
 os:=rfl
 tape:=rfl
 output:=rfl
 names n h0 _:=h0
theorem KQ {Λ:Nat→Prop} {σ:AH} {w:World} (h:Rel Λ σ w) (ob:Obj):Rel Λ σ (w.alloc ob):=
 h.step (IB w ob) fun _ _ hn=> .inl ⟨hn,RowKit.Below.heap_alloc _ _ _ (h.lt hn)⟩
def Cj (w:World) (n:Nat) (ob:Obj):World:={w with heap:=w.heap.setIfInBounds n ob}
theorem My {w:World} {n:Nat} {ob:Obj} (h:n<w.heap.size):(Cj w n ob).heap[n]? =some ob:=by
 simp[Cj,h]
theorem QE {w:World} {n m:Nat} {ob:Obj} (h:m≠n):(Cj w n ob).heap[m]? =w.heap[m]? :=by
 simp only[Cj];rw[Array.getElem?_setIfInBounds_ne (Ne.symm h)]
@[simp] theorem rW (w:World) (n:Nat) (ob:Obj):(Cj w n ob).heap.size=w.heap.size:=by simp[Cj]
theorem Gn {Λ:Nat→Prop} {σ:AH} {w:World} {n:Nat} {o:O} (hn:σ n=some o) (o':O) (ob:Obj):CY Λ σ w (BI σ n o') (Cj w n ob) where
 frame m _ h0:=QE (fun e=>by rw[e,hn]at h0;cases h0)
 size:=by simp
 os:=rfl
 tape:=rfl
 output:=rfl
 names m h0 _:=by rw[Cz _ _ (fun e=>by rw[e,hn]at h0;cases h0)];exact h0
theorem JB {Λ:Nat→Prop} {σ:AH} {w:World} (h:Rel Λ σ w) {n:Nat} {o o':O} {ob:Obj} (hn:σ n=some o) (ho:Pl (Hh Λ σ w) o' ob):Rel Λ (BI σ n o') (Cj w n ob):=
 h.step (Gn hn o' ob) fun m o'' hm=>by
  by_cases e:m=n
  ·subst e
   rw[Dd]at hm;cases hm;exact .inr ⟨(h.own _ _ hn).1,ob,My (h.lt hn),ho.mono (Gn hn o' ob).hle⟩
  ·rw[Cz _ _ e]at hm
   exact .inl ⟨hm,QE e⟩
theorem VS {w:World} {n:Nat} {ob:Obj} (h:w.heap[n]? =some ob):n<w.heap.size:=by
 rcases Nat.lt_or_ge n w.heap.size with h'|h'
 ·exact h'
 ·simp[Array.getElem?_eq_none h']at h
theorem setCell_eq {w:World} {n i:Nat} {c:Array Value} {e:TypeId} (h:w.heap[n]? =some (.cells c e (0,0))) (v:Value) :
 w.setCell ⟨n,i,none⟩ v=Cj w n (.cells (c.setIfInBounds i v) e (0,0)):=by
 unfold World.setCell Cj;congr 1;apply Array.ext_getElem?;intro j;by_cases hj:n=j
 ·subst hj
  rw[Array.getElem?_modify,if_pos rfl,Array.getElem?_setIfInBounds_self_of_lt (VS h),h];rfl
 ·rw[Array.getElem?_modify,if_neg hj,Array.getElem?_setIfInBounds_ne hj]
theorem Di {w:World} {n i:Nat} {c:Array Value} {e:TypeId} {fr:Nat×Nat} (h:w.heap[n]? =some (.cells c e fr)):w.cell? ⟨n,i,none⟩=c[i]? :=
 cell_of_row w n i c e fr h
theorem PK {w:World} {n i:Nat} {c:Array Value} {e:TypeId} (h:w.heap[n]? =some (.cells c e (0,0))):w.frozen? ⟨n,i,none⟩=false:=
 frozen_of_row w n i c e h
theorem C2 (n o i:Nat):(⟨n,o,none⟩:Addr).add i=⟨n,o+i,none⟩:=by
 unfold Addr.add;split
 ·subst_vars;rfl
 ·rfl
def DH:Array Value→Nat→List Value→Array Value
 | c,_,[]=>c
 | c,o,v::vs=>DH (c.setIfInBounds o v) (o+1) vs
theorem D7: ∀(vs:List Value) (c:Array Value) (o:Nat),(DH c o vs).size=c.size
 | [],_,_=>rfl
 | v::vs,c,o=>by simp only[DH];rw[D7 vs];simp
theorem YJ {w:World} {n:Nat} {ob:Obj} (h:w.heap[n]? =some ob):Cj w n ob=w:=by
 unfold Cj
 have:w.heap.setIfInBounds n ob=w.heap:=by
  apply Array.ext_getElem?;intro j;by_cases hj:n=j
  ·subst hj
   rw[Array.getElem?_setIfInBounds_self_of_lt (VS h),h]
  ·rw[Array.getElem?_setIfInBounds_ne hj]
 rw[this]
theorem Pn (w:World) (n:Nat) (a b:Obj):Cj (Cj w n a) n b=Cj w n b:=by
 simp[Cj]
theorem C3 {P:Program} {n:Nat} {e:TypeId}: ∀(vs:List Value) (w:World) (c:Array Value) (o i:Nat),w.heap[n]? =some (.cells c e (0,0))→
 o+i+vs.length≤c.size→(∀v∈vs,v.oneCell'=true)→
 (storeCells ⟨n,o,none⟩ vs i).run P w= .ok () (Cj w n (.cells (DH c (o+i) vs) e (0,0)))
 | [],w,c,o,i,h,_,_=>by
   simp only[storeCells,Sem.run_pure,DH];rw[YJ h]
 | v::vs,w,c,o,i,h,hl,hv=>by
   have hlt:o+i<c.size:=by simp at hl;omega
   have h1:w.cell? ⟨n,o+i,none⟩=some c[o+i]:=by rw[Di h];rw[Array.getElem?_eq_getElem hlt]
   have hone:=hv v (by simp);simp only[storeCells,Sem.run_bind,C2,run_store P w _ v _ hone,h1,PK h,Mk,if_false,Result.andThen];rw[setCell_eq h];rw[C3 vs _ (c.setIfInBounds (o+i) v) o (i+1) (My (VS h)) (by simp at hl ⊢;omega) (fun u hu=>hv u (by simp[hu]))];rw[Pn];rfl
end Go.Gl
namespace Go.Gl
def dc:Value→Option V
 | .bool b=>some (.b b)
 | .int k n=>if k.min≤n∧n≤k.max then some (.i k n)else none
 | .string s=>some (.s s)
 | .pointer none=>some .pn
 | .slice none 0 0=>some (.l [] true)
 | .map none=>some .mn
 | .nilFunc=>some .HB
 | .nilIface=>some .Dp
 | _=>none
def Zc:List Value→Option (List V)
 | []=>some []
 | c::cs=>match dc c,Zc cs with
   | some v,some vs=>some (v::vs)
   | _,_=>none
def ra:Value→Option V
 | .agg cs=>(Zc cs.toList).map .a
 | .tuple cs=>if cs.size=0 then some (.t [])else none
 | c=>dc c
def Bg:Operand→Option B1
 | .tmp t=>some (.t t)
 | .const v=>(ra v).map .c
 | .func f=>some (.c (.f (.func f) [] []))
 | .global _=>none
def Ji:List Operand→Option (List B1)
 | []=>some []
 | x::r=>match Bg x,Ji r with
   | some v,some vs=>some (v::vs)
   | _,_=>none
def Xy:Option Operand→Option (Option B1)
 | none=>some none
 | some x=>(Bg x).map some
def EM (P:Program) (t:TypeId):Option Nat:=(P.info? t).map (·.size)
def IP (P:Program) (t:TypeId):Option (Option Nat):=
 match P.underlying t with
 | some (.struct _)=>(EM P t).map some
 | some (.array _ _)=>(EM P t).map some
 | some _=>some none
 | none=>none
def zeroOf (P:Program) (t:TypeId):Option V:=(((P.info? t).bind (·.zero))).bind ra
def isInt (P:Program) (t:TypeId):Bool:=match P.underlying t with|some (.int _)=>true|_=>false
def isBool (P:Program) (t:TypeId):Bool:=match P.underlying t with|some .bool=>true|_=>false
def x9 (P:Program) (op:BinOp) (t:TypeId) (x y:B1):Option FA:=
 if isInt P t then some (.bin op x y)
 else if isBool P t then match op with
  | .eql=>some (.Sk false x y)
  | .neq=>some (.Sk true x y)
  | _=>none
 else none
def RY (fields:Array Field) (P:Program):List (Nat×Operand)→Option (List (Nat×Nat×B1))
 | []=>some []
 | (i,x)::r=>match fields[i]?,Bg x,RY fields P r with
   | some f,some o,some ps=>(EM P f.type).map fun s=>(f.offset,s,o)::ps
   | _,_,_=>none
def Ng (sz:Nat):List (Nat×Operand)→Option (List (Nat×Nat×B1))
 | []=>some []
 | (i,x)::r=>match Bg x,Ng sz r with
   | some o,some ps=>some ((i*sz,sz,o)::ps)
   | _,_=>none
def Nf:List (Nat×Operand)→Option (List (Nat×B1))
 | []=>some []
 | (i,x)::r=>match Bg x,Nf r with
   | some o,some ps=>some ((i,o)::ps)
   | _,_=>none
def KF:Option V→Option (List V)
 | some (.a cs)=>some cs
 | some (.t _)=>none
 | some .any=>none
 | some v=>some [v]
 | none=>none
def Zu (P:Program) (c:Call):Option FA:=
 match c.callee,c.args.toList,c.argTypes.toList with
 | .builtin .len,[x],[t]=>match P.underlying t with
   | some (.slice _)=>(Bg x).map .len
   | some (.map _ _)=>(Bg x).map .RG
   | some (.array n _)=>if(n:Int)≤IntKind.i64.max then some (.mv (.c (.i .i64 n)))else none
   | _=>none
 | .builtin .append,[x,y],[t,u]=>match P.underlying t,P.underlying u with
   | some (.slice e),some (.slice _)=>match Bg x,Bg y,P.info? e with
     | some x',some y',some i=>if t=u∧i.bytes≤4096∧i.zero.map (fun z=>z.cells.size)=some i.size then some (.append i.size i.bytes x' y')else none
     | _,_,_=>none
   | _,_=>none
 | .builtin .max,[x,y],_=>match Bg x,Bg y with|some x',some y'=>some (.Jb x' y')|_,_=>none
 | .builtin .min,[x,y],_=>match Bg x,Bg y with|some x',some y'=>some (.NM x' y')|_,_=>none
 | .value (.func f),_,_=>(Ji c.args.toList).map (.call f)
 | .value x,_,_=>match Bg x,Ji c.args.toList with|some x',some as=>some (.CC x' as)|_,_=>none
 | _,_,_=>none
def rOp (P:Program):Op→Option FA
 | .move x=>(Bg x).map .mv
 | .assign x=>(Bg x).map .mv
 | .pick c a b=>match Bg c,Bg a,Bg b with|some c,some a,some b=>some (.pick c a b)|_,_,_=>none
 | .box _ x=>(Bg x).map .box
 | .alloc e=>(KF (zeroOf P e)).map .alloc
 | .build t parts=>match KF (zeroOf P t),P.underlying t with
   | some z,some (.struct fields)=>if fields.toList.all (fun f=>(EM P f.type).isSome)then(RY fields P parts.toList).map (.build z)else none
   | some z,some (.array _ e)=>(EM P e).bind fun sz=>(Ng sz parts.toList).map (.build z)
   | _,_=>none
 | .buildSlice t len parts=>match P.underlying t with
   | some (.slice e)=>match KF (zeroOf P e),EM P e with
     | some z,some sz=>if z.length=sz∧0<sz∧0<len∧len*sz≤2 ^ 24 then(Nf parts.toList).map (.Ab sz len z)else none
     | _,_=>none
   | _=>none
 | .load t x=>match IP P t,Bg x with|some a,some x=>some (.load a x)|_,_=>none
 | .store t a x=>match EM P t,Bg a,Bg x with|some s,some a,some x=>some (.store s a x)|_,_,_=>none
 | .binOp op t x y _=>match Bg x,Bg y with|some x,some y=>x9 P op t x y|_,_=>none
 | .unOp .not _ x=>(Bg x).map .not
 | .unOp .neg t x=>if isInt P t then(Bg x).map (.neg false)else none
 | .unOp .xor t x=>if isInt P t then(Bg x).map (.neg true)else none
 | .convert s d x=>match P.underlying s,P.underlying d with
   | some (.int _),some (.int k)=>(Bg x).map (.conv k)
   | _,_=>none
 | .makeInterface t x=>match P.underlying t with
   | some (.interface _)=>none
   | some _=>(Bg x).map (.FW t)
   | none=>none
 | .makeFunc (.func f) first cap=>match Ji first.toList,Ji cap.toList with|some a,some b=>some (.G8 (.func f) a b)|_,_=>none
 | .slice t x lo hi mx=>match P.underlying t with
   | some (.slice e)=>match EM P e,Bg x,Xy lo,Xy hi,Xy mx with
     | some s,some x,some l,some h,some m=>if 0<s∧(m.isSome→h.isSome)then some (.slice s x l h m)else none
     | _,_,_,_,_=>none
   | _=>none
 | .fieldAddr s x f=>match P.underlying s with
   | some (.struct fields)=>match fields[f]? with
     | some fd=>match EM P fd.type with
       | some sz=>if sz=0 then none else(Bg x).map (.HH fd.offset)
       | none=>none
     | none=>none
   | _=>none
 | .field t x f=>match P.underlying t with
   | some (.struct fields)=>match fields[f]? with
     | some fd=>match IP P fd.type,Bg x with|some a,some x=>some (.field a fd.offset x)|_,_=>none
     | none=>none
   | _=>none
 | .indexAddr t x i=>match P.underlying t with
   | some (.slice e)=>match EM P e,Bg x,Bg i with|some s,some x,some i=>some (.Bi s none x i)|_,_,_=>none
   | some (.array n e)=>match EM P e,Bg x,Bg i with|some s,some x,some i=>some (.Bi s (some n) x i)|_,_,_=>none
   | _=>none
 | .index t x i=>match P.underlying t with
   | some (.array n e)=>match EM P e,IP P e,Bg x,Bg i with|some s,some a,some x,some i=>some (.index n s a x i)|_,_,_,_=>none
   | _=>none
 | .extract x i=>(Bg x).map (.extract i)
 | .nilCheck x=>(Bg x).map .Ei
 | .typeAssert x _ t ok=>match P.underlying t with
   | some (.interface _)=>none
   | some _=>match Bg x,zeroOf P t with|some x,some z=>some (.WW t z ok x)|_,_=>none
   | none=>none
 | .panic x=>(Bg x).map .panic
 | .call c=>Zu P c
 | _=>none
def Co (Λ:Nat→Prop) (σ:AH) (w:World) (k kp:V→AH→Prop):Result Value→Prop
 | .ok c w'=> ∃v σ',k v σ'∧Af (Hh Λ σ' w') v c∧Rel Λ σ' w'∧CY Λ σ w σ' w'
 | .halt (.panic c) w'=> ∃v σ',kp v σ'∧Af (Hh Λ σ' w') v c∧Rel Λ σ' w'∧CY Λ σ w σ' w'
 | _=>False
def Good (P:Program) (Λ:Nat→Prop) (σ:AH) (w:World) (k kp:V→AH→Prop):Result Next→Prop
 | .ok (.value c) w'=> ∃v σ',k v σ'∧Af (Hh Λ σ' w') v c∧Rel Λ σ' w'∧CY Λ σ w σ' w'
 | .ok .skip w'=> ∃σ',k (.t []) σ'∧Rel Λ σ' w'∧CY Λ σ w σ' w'
 | .ok (.enter f args) w'=>Calls P f args w' fun e w''=> ∃r σ',qk k kp r σ'∧S9 (Hh Λ σ' w'') r e∧Rel Λ σ' w''∧CY Λ σ w σ' w''
 | .ok (.round l f tmps assign body) w'=>RoundIn Fence.wide 0 P l f tmps assign body w' fun e w''=> ∃r σ',qk k kp r σ'∧S9 (Hh Λ σ' w'') r e∧Rel Λ σ' w''∧CY Λ σ w σ' w''
 | .halt (.panic c) w'=> ∃v σ',kp v σ'∧Af (Hh Λ σ' w') v c∧Rel Λ σ' w'∧CY Λ σ w σ' w'
 | _=>False
theorem A6 {P:Program} {Λ:Nat→Prop} {σ:AH} {w:World} {k kp:V→AH→Prop} {s:Sem Value} (h:Co Λ σ w k kp (s.run P w)) :
 Good P Λ σ w k kp ((do pure (.value (←s)):Sem Next).run P w):=by
 simp only[Sem.run_bind];generalize s.run P w=r at *;cases r with
 | ok c w'=>exact h
 | halt x w'=>cases x<;>first|exact h|exact h.elim
theorem FJ {Λ:Nat→Prop} {σ:AH} {w:World} {k kp:V→AH→Prop} (G:Rel Λ σ w) {v:V} {c:Value} (hv:Af (Hh Λ σ w) v c) (hk:k v σ):Co Λ σ w k kp (.ok c w):=
 ⟨v,σ,hk,hv,G,CY.refl _ _ _⟩
theorem Az {Λ:Nat→Prop} {σ:AH} {w:World} {k kp:V→AH→Prop} (G:Rel Λ σ w) {v:V} {c:Value} (hk:k v σ) (hv:Af (Hh Λ σ w) v c):Co Λ σ w k kp (.ok c w):=
 FJ G hv hk
def Cq (H:Nat→Nat→Option Value) (env:Env) (tmps:Array Value):Prop:= ∀k v,get k env=some v→ ∃c,tmps[k]? =some c∧Af H v c
theorem Cq.mono {H H':Nat→Nat→Option Value} (hle:WY H H') {env:Env} {tmps:Array Value} (h:Cq H env tmps):Cq H' env tmps:=
 fun k v hv=>let⟨c,h1,h2⟩:=h k v hv;⟨c,h1,h2.mono hle⟩
theorem Tc {H:Nat→Nat→Option Value} {c:Value} {v:V} (h:dc c=some v):Af H v c:=by
 unfold dc at h
 split at h<;>first
  | (cases h;simp[Af];done)
  | (split at h<;>first|(rename_i hc;cases h;simpa[Af]using hc)|cases h)
  | cases h
 ·exact⟨none,0,rfl,by simp,by simp,by simp[Ak],by simp,by simp⟩
theorem Tb {H:Nat→Nat→Option Value}: ∀ {cs:List Value} {vs:List V},Zc cs=some vs→cs.length=vs.length∧Bk H (fun i=>cs[i]?) 0 vs
 | [],vs,h=>by cases h;exact⟨rfl,trivial⟩
 | c ::cs,vs,h=>by
   simp only[Zc]at h;split at h
   ·rename_i v vs' h1 h2
    cases h;obtain⟨h3,h4⟩:=Tb (H:=H) h2;refine⟨by simp[h3],⟨c,by simp,Tc h1⟩,?_⟩;exact BF h4 (fun i _=>by rw[show 0+1+i=i+1 by omega];simp)
   ·cases h
theorem Gg {H:Nat→Nat→Option Value} {c:Value} {v:V} (h:ra c=some v):Af H v c:=by
 unfold ra at h;split at h
 ·rename_i cs
  cases hq:Zc cs.toList with
  | none=>rw[hq]at h;cases h
  | some vs=>
    rw[hq]at h;cases h;obtain⟨h1,h2⟩:=Tb (H:=H) hq;refine⟨cs,rfl,by simpa using h1,BF h2 (fun i _=>by simp)⟩
 ·rename_i cs
  split at h
  ·rename_i h0
   cases h;exact⟨cs,rfl,by simpa using h0,trivial⟩
  ·cases h
 ·exact Tc h
theorem Av {H:Nat→Nat→Option Value} {env:Env} {a:Act} (he:Cq H env a.tmps) {x:Operand} {o:B1} (ho:Bg x=some o) {v:V} (hv:ev env o=some v):Af H v (a.eval x):=by
 cases x with
 | tmp t=>
   cases ho;obtain⟨c,h1,h2⟩:=he t v hv;simp only[Act.eval,Array.getD_eq_getD_getElem?,h1,Option.getD_some];exact h2
 | const c=>
   simp only[Bg]at ho;cases hq:ra c with
   | none=>rw[hq]at ho;cases ho
   | some u=>
     rw[hq]at ho;cases ho;cases hv;exact Gg hq
 | func f=>
   cases ho;cases hv;exact⟨#[],#[],rfl,rfl,trivial,rfl,trivial⟩
 | global g=>cases ho
theorem XU {H:Nat→Nat→Option Value} {env:Env} {a:Act} (he:Cq H env a.tmps): ∀ {xs:List Operand} {os:List B1},Ji xs=some os→ ∀ {vs:List V},Sj env os=some vs→
 xs.length=vs.length∧Bk H (fun i=>(xs.map a.eval)[i]?) 0 vs
 | [],os,ho,vs,hv=>by cases ho;cases hv;exact⟨rfl,trivial⟩
 | x ::xs,os,ho,vs,hv=>by
   simp only[Ji]at ho;split at ho
   ·rename_i o os' h1 h2
    cases ho;simp only[Sj]at hv;split at hv
    ·rename_i v vs' h3 h4
     cases hv;obtain⟨h5,h6⟩:=XU he h2 h4;refine⟨by simp[h5],⟨a.eval x,by simp,Av he h1 h3⟩,?_⟩;exact BF h6 (fun i _=>by rw[show 0+1+i=i+1 by omega];simp)
    ·cases hv
   ·cases ho
theorem Aj {o:Option V} {k:V→Prop} (h:wv o k): ∃v,o=some v∧k v:=by
 cases o with
 | none=>exact h.elim
 | some v=>exact⟨v,rfl,h⟩
theorem Ht {o:Option (List V)} {k:List V→Prop} (h:ws o k): ∃v,o=some v∧k v:=by
 cases o with
 | none=>exact h.elim
 | some v=>exact⟨v,rfl,h⟩
theorem Wl {o:Option (List (List V))} {k:List (List V)→Prop} (h:wr o k): ∃v,o=some v∧k v:=by
 cases o with
 | none=>exact h.elim
 | some v=>exact⟨v,rfl,h⟩
theorem Ry {o:Option (Option V)} {k:Option V→Prop} (h:wo o k): ∃v,o=some v∧k v:=by
 cases o with
 | none=>exact h.elim
 | some v=>exact⟨v,rfl,h⟩
end Go.Gl
