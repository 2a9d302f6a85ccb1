import Derived.OrdersIn
import Derived.Below
import Derived.Laws.Cells
import Derived.Laws.Rows
import Derived.Laws.World
import Derived.Laws.Slices
import Derived.Laws.Build
import Derived.WideShapes4
import Derived.OpenShut
set_option linter.all false
set_option linter.defProp false
noncomputable section
namespace Go.Gl
def kZ {n m:Nat} (h:Nat.ble n m=true:=by exact rfl):n≤m:=Nat.le_of_ble_eq_true h
abbrev EN:=@List.getElem?_eq_getElem
abbrev DL:=@List.mem_of_getElem?
abbrev BT:=@List.length_map
abbrev D9:=@List.getD_eq_getElem?_getD
abbrev Cf:=@decide_eq_true_eq
abbrev A9:=@Bool.and_eq_true
abbrev Q8:=@List.getElem?_map
abbrev IU:=@Option.some.injEq
abbrev Sa:=@List.mem_append_left
abbrev UO:=@List.mem_append_right
abbrev oN:=@List.getElem?_append_left
abbrev FK:=@List.mem_append
abbrev Ev:=@List.all_eq_true
abbrev ML:=@Bool.false_eq_true
abbrev Qi:=@List.length_append
abbrev K1:=@List.length_cons
abbrev KE:=@List.mem_map
abbrev dq:=@Option.map_some
abbrev pc:=@List.getElem?_cons_zero
abbrev vq:=@List.getElem?_cons_succ
abbrev pb:=@Array.getElem?_eq_some_iff
abbrev wJ:=@List.length_drop
abbrev Ny:=@List.length_take
abbrev kN:=@List.getElem?_drop
abbrev F7:=@List.mem_cons
abbrev W5:=@List.append_assoc
abbrev JS:=@List.mem_filter
abbrev DK:=@beq_iff_eq
abbrev DZ:=@Sem.run_bind
abbrev E2:=@Sem.run_pure
abbrev Gr:=@Result.andThen_ok
abbrev MK:=@List.getElem?_eq_some_iff
abbrev Ct:=@List.map_cons
abbrev F6:=@Bool.or_eq_true
abbrev K0:=@List.sublist_cons_self
abbrev MH:=@Int.toNat_natCast
abbrev KD:=@List.append_nil
abbrev G7:=@Nat.zero_add
abbrev Hu:=@Bool.eq_iff_iff
abbrev EW:=@Bool.true_and
abbrev Q7:=@List.length_filter_le
abbrev UC:=@Nat.eq_of_beq_eq_true
abbrev UN:=@Nat.mul_le_mul_right
abbrev JR:=@List.any_eq_true
abbrev MJ:=@List.nil_sublist
abbrev Ht:=@Nat.le_refl
abbrev W4:=@List.length_eq_zero_iff
abbrev Nx:=@List.mem_singleton
abbrev UB:=@List.perm_append_comm
abbrev SZ:=@List.all_cons
abbrev Qn:=@List.map_append
abbrev SY:=@List.any_cons
end Go.Gl
namespace Go.Gl
def Aj:Nat:=17592186044416
inductive V where
 | b (x:Bool)
 | i (k:IntKind) (n:Int)
 | s (x:ByteArray)
 | pn
 | p (n off:Nat)
 | rp (cs:List V)
 | l (es:List (List V)) (full:Bool)
 | sl (n len cap:Nat)
 | sv (n sz off len:Nat)
 | pe (n sz i off:Nat)
 | m (n:Nat)
 | mn
 | f (fn:Fn) (first cap:List V)
 | K6
 | FJ (t:TypeId) (v:V)
 | Dv
 | a (cs:List V)
 | t (vs:List V)
 | any
 deriving Inhabited
mutual
def Ai (H:Nat→Nat→Option Value):V→Value→Prop
 | .b x,c=>c= .bool x
 | .i k n,c=>c= .int k n∧k.min≤n∧n≤k.max
 | .s x,c=>c= .string x
 | .pn,c=>c= .pointer none
 | .p n off,c=>c= .pointer (some ⟨n,off,none⟩)
 | .rp cs,c=> ∃b o,c= .pointer (some ⟨b,o,none⟩)∧Bb H (H b) o cs
 | .l es full,c=> ∃a cap,c= .slice a es.length cap∧es.length≤cap∧(full=true→cap=es.length)∧es.length≤Aj∧(a=none→cap=0)∧
  (es≠[]→ ∃b o sz,a=some ⟨b,o,none⟩∧BM H (H b) sz o es)
 | .sl n len cap,c=>c= .slice (some ⟨n,0,none⟩) len cap∧len≤cap
 | .sv n sz off len,c=> ∃a cap,c= .slice a len cap∧len≤cap∧(len≠0→a=some ⟨n,off*sz,none⟩)
 | .pe n sz i off,c=>c= .pointer (some ⟨n,i*sz+off,none⟩)
 | .m n,c=>c= .map (some n)
 | .mn,c=>c= .map none
 | .f fn first cap,c=> ∃f' c',c= .func fn f' c'∧f'.size=first.length∧Bb H (fun i=>f'[i]?) 0 first∧c'.size=cap.length∧Bb H (fun i=>c'[i]?) 0 cap
 | .K6,c=>c= .nilFunc
 | .FJ t v,c=> ∃c',c= .iface t c'∧Ai H v c'
 | .Dv,c=>c= .nilIface
 | .a cs,c=> ∃c',c= .agg c'∧c'.size=cs.length∧Bb H (fun i=>c'[i]?) 0 cs
 | .t vs,c=> ∃c',c= .tuple c'∧c'.size=vs.length∧Bb H (fun i=>c'[i]?) 0 vs
 | .any,_=>True
def Bb (H:Nat→Nat→Option Value) (g:Nat→Option Value):Nat→List V→Prop
 | _,[]=>True
 | o,v::vs=>(∃c,g o=some c∧Ai H v c)∧Bb H g (o+1) vs
def BM (H:Nat→Nat→Option Value) (g:Nat→Option Value) (sz:Nat):Nat→List (List V)→Prop
 | _,[]=>True
 | o,e::es=>e.length=sz∧Bb H g o e∧BM H g sz (o+sz) es
end
inductive wG where
 | ready
 | ret
 | exit (id:Nat)
inductive O where
 | cs (vs:List V)
 | arr (sz:Nat) (es:List (List V)) (cap:Nat)
 | map (kvs:List (V×V))
 | loop (st:wG) (env:List (Nat×V)) (ok:FuncId→Array Tmp→Code→Code→Nat→Prop)
 deriving Inhabited
def pz:wG→Loop→Prop
 | .ready,lp=>lp.state= .ready∧lp.pending=none
 | .ret,lp=>lp.state= .done∧lp.pending=some .ret
 | .exit id,lp=>lp.state= .done∧lp.pending=some (.exit id)
def F0 (H:Nat→Nat→Option Value):List (V×V)→List MapEntry→Prop
 | [],[]=>True
 | (k,v)::r,e::es=>Ai H k e.key∧Ai H v e.val∧F0 H r es
 | _,_=>False
def Oo (H:Nat→Nat→Option Value):O→Obj→Prop
 | .cs vs,o=> ∃c e,o= .cells c e (0,0)∧c.size=vs.length∧Bb H (fun i=>c[i]?) 0 vs
 | .arr sz es cap,o=> ∃c e,o= .cells c e (0,0)∧cap*sz≤c.size∧es.length≤cap∧es.length≤Aj∧BM H (fun i=>c[i]?) sz 0 es
 | .map kvs,o=> ∃es clk,o= .map es clk∧F0 H kvs es.toList∧es.toList.Pairwise (fun a b=>a.key≠b.key)
 | .loop st env ok,o=> ∃lp,o= .loop lp∧pz st lp∧(∀k v,(k,v)∈env→ ∃c,lp.tmps[k]? =some c∧Ai H v c)∧ok lp.fn lp.params lp.assign lp.body lp.tmps.size
abbrev AH:=Nat→Option O
def Hh (Λ:Nat→Prop) (σ:AH) (w:World) (b o:Nat):Option Value:=
 open Classical in if Λ b∨(σ b).isSome=true then none else w.cell? ⟨b,o,none⟩
structure Rel (Λ:Nat→Prop) (σ:AH) (w:World):Prop where
 own: ∀n o,σ n=some o→ ¬Λ n∧ ∃ob,w.heap[n]? =some ob∧Oo (Hh Λ σ w) o ob
 lock: ∀n,Λ n→n<w.heap.size
structure B8 (Λ:Nat→Prop) (σ:AH) (w:World) (σ':AH) (w':World):Prop where
 frame: ∀n,n<w.heap.size→σ n=none→w'.heap[n]? =w.heap[n]?
 size:w.heap.size≤w'.heap.size
 os:w'.os=w.os
 tape:w'.tape=w.tape
 output:w'.output=w.output
 names: ∀n,σ n=none→n<w.heap.size→σ' n=none
def B8.refl (Λ:Nat→Prop) (σ:AH) (w:World):B8 Λ σ w σ w:=
 ⟨fun _ _ _=>rfl,Ht _,rfl,rfl,rfl,fun _ h _=>h⟩
def B8.trans {Λ:Nat→Prop} {σ σ' σ'':AH} {w w' w'':World} (h:B8 Λ σ w σ' w') (k:B8 Λ σ' w' σ'' w''):B8 Λ σ w σ'' w'' where
 frame n hn h0:=(k.frame n (Nat.lt_of_lt_of_le hn h.size) (h.names n h0 hn)).trans (h.frame n hn h0)
 size:=Nat.le_trans h.size k.size
 os:=k.os.trans h.os
 tape:=k.tape.trans h.tape
 output:=k.output.trans h.output
 names n h0 hn:=k.names n (h.names n h0 hn) (Nat.lt_of_lt_of_le hn h.size)
def Yx (H H':Nat→Nat→Option Value):Prop:= ∀b o c,H b o=some c→H' b o=some c
mutual
def Ai.mono {H H':Nat→Nat→Option Value} (hle:Yx H H'): ∀(v:V) (c:Value),Ai H v c→Ai H' v c
 | .b _,_,h| .i _ _,_,h| .s _,_,h| .pn,_,h| .p _ _,_,h| .sl _ _ _,_,h| .sv _ _ _ _,_,h| .pe _ _ _ _,_,h| .m _,_,h| .mn,_,h| .K6,_,h| .Dv,_,h| .any,_,h=>by
   simp only[Ai]at h ⊢
   try exact h
 | .rp cs,_,h=>by
   simp only[Ai]at h ⊢;obtain⟨b,o,rfl,h⟩:=h;exact⟨b,o,rfl,Bb.mono hle (fun i c e=>hle b i c e) cs o h⟩
 | .l es full,_,h=>by
   simp only[Ai]at h ⊢;obtain⟨a,cap,h1,h2,h3,h4,h5,h6⟩:=h;refine⟨a,cap,h1,h2,h3,h4,h5,fun hne=>?_⟩;obtain⟨b,o,sz,h7,h8⟩:=h6 hne;exact⟨b,o,sz,h7,BM.mono hle (fun i c e=>hle b i c e) sz es o h8⟩
 | .f fn first cap,_,h=>by
   simp only[Ai]at h ⊢;obtain⟨f',c',h1,h2,h3,h4,h5⟩:=h;exact⟨f',c',h1,h2,Bb.mono hle (fun _ _ e=>e) first 0 h3,h4,Bb.mono hle (fun _ _ e=>e) cap 0 h5⟩
 | .FJ t v,_,h=>by
   simp only[Ai]at h ⊢;obtain⟨c',h1,h2⟩:=h;exact⟨c',h1,Ai.mono hle v c' h2⟩
 | .a cs,_,h=>by
   simp only[Ai]at h ⊢;obtain⟨c',h1,h2,h3⟩:=h;exact⟨c',h1,h2,Bb.mono hle (fun _ _ e=>e) cs 0 h3⟩
 | .t cs,_,h=>by
   simp only[Ai]at h ⊢;obtain⟨c',h1,h2,h3⟩:=h;exact⟨c',h1,h2,Bb.mono hle (fun _ _ e=>e) cs 0 h3⟩
def Bb.mono {H H':Nat→Nat→Option Value} (hle:Yx H H') {g g':Nat→Option Value} (hg: ∀i c,g i=some c→g' i=some c) :
    ∀(vs:List V) (o:Nat),Bb H g o vs→Bb H' g' o vs
 | [],_,_=>trivial
 | v::vs,o,h=>by
   simp only[Bb]at h ⊢;obtain⟨⟨c,h1,h2⟩,h3⟩:=h;exact⟨⟨c,hg _ _ h1,Ai.mono hle v c h2⟩,Bb.mono hle hg vs (o+1) h3⟩
def BM.mono {H H':Nat→Nat→Option Value} (hle:Yx H H') {g g':Nat→Option Value} (hg: ∀i c,g i=some c→g' i=some c) (sz:Nat) :
    ∀(es:List (List V)) (o:Nat),BM H g sz o es→BM H' g' sz o es
 | [],_,_=>trivial
 | e::es,o,h=>by
   simp only[BM]at h ⊢;obtain⟨h1,h2,h3⟩:=h;exact⟨h1,Bb.mono hle hg e o h2,BM.mono hle hg sz es (o+sz) h3⟩
end
def F0.mono {H H':Nat→Nat→Option Value} (hle:Yx H H'): ∀(r:List (V×V)) (es:List MapEntry),F0 H r es→F0 H' r es
 | [],[],_=>trivial
 | (k,v)::r,e::es,h=>by
   simp only[F0]at h ⊢;exact⟨Ai.mono hle _ _ h.1,Ai.mono hle _ _ h.2.1,F0.mono hle r es h.2.2⟩
 | [],_::_,h=>h.elim
 | _::_,[],h=>h.elim
def Oo.mono {H H':Nat→Nat→Option Value} (hle:Yx H H') {o:O} {ob:Obj} (h:Oo H o ob):Oo H' o ob:=by
 cases o with
 | cs vs=>obtain⟨c,e,h1,h2,h3⟩:=h;exact⟨c,e,h1,h2,Bb.mono hle (fun _ _ e=>e) _ _ h3⟩
 | arr sz es cap=>obtain⟨c,e,h1,h2,h3,h4,h5⟩:=h;exact⟨c,e,h1,h2,h3,h4,BM.mono hle (fun _ _ e=>e) _ _ _ h5⟩
 | map kvs=>obtain⟨es,clk,h1,h2,h3⟩:=h;exact⟨es,clk,h1,F0.mono hle _ _ h2,h3⟩
 | loop st env ok=>obtain⟨lp,h1,h2,h3,h4⟩:=h;exact⟨lp,h1,h2,fun k v hm=>let⟨c,h5,h6⟩:=h3 k v hm;⟨c,h5,h6.mono hle⟩,h4⟩
def GL {Λ:Nat→Prop} {σ:AH} {w:World} {b o:Nat} {c:Value} (h:Hh Λ σ w b o=some c) :
    ¬Λ b∧σ b=none∧w.cell? ⟨b,o,none⟩=some c:=by
 unfold Hh at h;split at h
 ·cases h
 ·rename_i hn
  refine⟨fun hl=>hn (.inl hl),?_,h⟩;cases hs:σ b with
  | none=>rfl
  | some o=>exact absurd (.inr (by simp[hs])) hn
def Nb {Λ:Nat→Prop} {σ:AH} {w:World} {b o:Nat} (h1: ¬Λ b) (h2:σ b=none):Hh Λ σ w b o=w.cell? ⟨b,o,none⟩:=by
 unfold Hh;rw[if_neg];simp[h1,h2]
def ny {w:World} {b o:Nat} {c:Value} (h:w.cell? ⟨b,o,none⟩=some c):b<w.heap.size:=by
 unfold World.cell? at h;rcases Nat.lt_or_ge b w.heap.size with h'|h'
 ·exact h'
 ·simp[Array.getElem?_eq_none h']at h
def B8.hle {Λ:Nat→Prop} {σ σ':AH} {w w':World} (h:B8 Λ σ w σ' w'):Yx (Hh Λ σ w) (Hh Λ σ' w'):=by
 intro b o c hc;obtain⟨h1,h2,h3⟩:=GL hc;have hb:=ny h3;rw[Nb h1 (h.names b h2 hb),World.cell?_of_block (w:=w) (h.frame b hb h2)];exact h3
def FD {Λ:Nat→Prop} {σ σ':AH} {w:World} (hs: ∀n,σ n=none→σ' n=none):Yx (Hh Λ σ w) (Hh Λ σ' w):=by
 intro b o c hc;obtain⟨h1,h2,h3⟩:=GL hc;rw[Nb h1 (hs b h2)];exact h3
def Sub (σ' σ:AH):Prop:= ∀n o,σ' n=some o→σ n=some o
def Sub.none {σ' σ:AH} (h:Sub σ' σ) {n:Nat} (hn:σ n=none):σ' n=none:=by
 cases h':σ' n with
 | none=>rfl
 | some o=>rw[h n o h']at hn;cases hn
def Sub.refl (σ:AH):Sub σ σ:=fun _ _ h=>h
def Sub.trans {a b c:AH} (h:Sub a b) (k:Sub b c):Sub a c:=fun n o e=>k n o (h n o e)
def Rel.drop {Λ:Nat→Prop} {σ σ':AH} {w:World} (h:Rel Λ σ w) (hs:Sub σ' σ):Rel Λ σ' w where
 own n o ho:=by
  obtain⟨h1,ob,h2,h3⟩:=h.own n o (hs n o ho);exact⟨h1,ob,h2,Oo.mono (FD fun n hn=>hs.none hn) h3⟩
 lock:=h.lock
def B8.drop {Λ:Nat→Prop} {σ σ':AH} (w:World) (hs:Sub σ' σ):B8 Λ σ w σ' w:=
 ⟨fun _ _ _=>rfl,Ht _,rfl,rfl,rfl,fun _ hn _=>hs.none hn⟩
end Go.Gl
namespace Go.Gl
abbrev Env:=List (Nat×V)
def get (k:Nat):Env→Option V
 | []=>none
 | (j,v)::r=>bif Nat.beq j k then some v else get k r
inductive Bt where
 | t (n:Nat)
 | c (v:V)
 deriving Inhabited
def ev (env:Env):Bt→Option V
 | .t n=>get n env
 | .c v=>some v
def UM (env:Env):List Bt→Option (List V)
 | []=>some []
 | x::r=>match ev env x,UM env r with
   | some v,some vs=>some (v::vs)
   | _,_=>none
def A5 (σ:AH) (n:Nat) (o:O):AH:=fun k=>if k=n then some o else σ k
def del (σ:AH) (n:Nat):AH:=fun k=>if k=n then none else σ k
mutual
inductive Fj (σ σ':AH):V→V→Prop
 | refl (v:V):Fj σ σ' v v
 | arr {n sz cap len:Nat} {es es':List (List V)}:σ n=some (.arr sz es cap)→σ' n=none→len=es.length→Fp σ σ' es es'→Fj σ σ' (.sl n len cap) (.l es' false)
 | cs {n:Nat} {vs vs':List V}:σ n=some (.cs vs)→σ' n=none→Da σ σ' vs vs'→Fj σ σ' (.p n 0) (.rp vs')
 | a {vs vs':List V}:Da σ σ' vs vs'→Fj σ σ' (.a vs) (.a vs')
 | t {vs vs':List V}:Da σ σ' vs vs'→Fj σ σ' (.t vs) (.t vs')
 | FJ {t:TypeId} {v v':V}:Fj σ σ' v v'→Fj σ σ' (.FJ t v) (.FJ t v')
 | l {es es':List (List V)} {f f':Bool}:(f'=true→f=true)→Fp σ σ' es es'→Fj σ σ' (.l es f) (.l es' f')
 | rp {vs vs':List V}:Da σ σ' vs vs'→Fj σ σ' (.rp vs) (.rp vs')
 | f {fn:Fn} {a a' b b':List V}:Da σ σ' a a'→Da σ σ' b b'→Fj σ σ' (.f fn a b) (.f fn a' b')
 | any {v:V}:Fj σ σ' v .any
inductive Da (σ σ':AH):List V→List V→Prop
 | nil:Da σ σ' [] []
 | cons {v v':V} {vs vs':List V}:Fj σ σ' v v'→Da σ σ' vs vs'→Da σ σ' (v::vs) (v'::vs')
inductive Fp (σ σ':AH):List (List V)→List (List V)→Prop
 | nil:Fp σ σ' [] []
 | cons {v v':List V} {vs vs':List (List V)}:Da σ σ' v v'→Fp σ σ' vs vs'→Fp σ σ' (v::vs) (v'::vs')
end
inductive KS where
 | i (k:IntKind)
 | a (l:List IntKind)
 | s
 deriving Inhabited
inductive GA where
 | mv (x:Bt)
 | kU (x:Bt)
 | pick (c a b:Bt)
 | bin (op:BinOp) (x y:Bt)
 | kg (neg:Bool) (x y:Bt)
 | ke (len:Nat) (neg:Bool) (x y:Bt)
 | dj (kind:Nat) (neg:Bool) (x:Bt)
 | not (x:Bt)
 | neg (xor:Bool) (x:Bt)
 | conv(k:IntKind) (x:Bt)
 | box (x:Bt)
 | Qv (x:Bt)
 | Qw (sz bytes:Nat) (x y:Bt)
 | alloc (zero:List V)
 | build (zero:List V) (parts:List (Nat×Nat×Bt))
 | HH (sz len:Nat) (zero:List V) (parts:List (Nat×Bt))
 | load (agg:Option Nat) (x:Bt)
 | store (sz:Nat) (a x:Bt)
 | Gw (off:Nat) (x:Bt)
 | field (agg:Option Nat) (off:Nat) (x:Bt)
 | LF (sz:Nat) (arr:Option Nat) (x i:Bt)
 | index (len sz:Nat) (agg:Option Nat) (x i:Bt)
 | slice (sz:Nat) (x:Bt) (lo hi mx:Option Bt)
 | len (x:Bt)
 | Sj (x:Bt)
 | str (x:Bt)
 | UW (x i:Bt)
 | append (sz bytes:Nat) (x y:Bt)
 | copy (sz:Nat) (x y:Bt)
 | UZ (x y:Bt)
 | UY (x y:Bt)
 | extract (i:Nat) (x:Bt)
 | IY (x:Bt)
 | dh (f:Fn) (first cap:List Bt)
 | NS
 | GJ (sz bytes:Nat) (zero:List V) (len cap:Bt)
 | lookup (ks:KS) (zero:V) (ok:Bool) (m k:Bt)
 | E6 (ks:KS) (m k v:Bt)
 | NT (t:TypeId) (x:Bt)
 | dd (t:TypeId) (zero:V) (ok:Bool) (x:Bt)
 | panic (x:Bt)
 | call (f:FuncId) (args:List Bt)
 | LI (f:FuncId) (args:List Bt)
 | JA (x:Bt) (args:List Bt)
 | Xp (x:Bt) (args:List Bt)
 | inv (tab:List (TypeId×FuncId)) (x:Bt) (args:List Bt)
 deriving Inhabited
abbrev wv (o:Option V) (k:V→Prop):Prop:=match o with|some v=>k v|none=>False
@[simp] theorem E8 (v:V) (k:V→Prop):wv (some v) k=k v:=rfl
@[simp] theorem yS (k:V→Prop):wv none k=False:=rfl
def bits (op:BinOp) (k:IntKind) (x y:Int):Int:=
 let a:=BitVec.ofInt k.bits x
 let b:=BitVec.ofInt k.bits y
 k.wrap (match op with
  | .and=>a&&&b
  | .or=>a|||b
  | .xor=>a ^^^ b
  | _=>a&&& ~~~b:BitVec k.bits).toNat
def Uc (op:BinOp) (x y:V) (k:V→Prop):Prop:=
 match x,y with
 | .i ka a,.i kb b=>
   match op with
   | .add=>ka=kb∧k (.i ka (ka.wrap (a+b)))
   | .sub=>ka=kb∧k (.i ka (ka.wrap (a - b)))
   | .mul=>ka=kb∧k (.i ka (ka.wrap (a*b)))
   | .quo=>ka=kb∧b≠0∧k (.i ka (ka.wrap (a.tdiv b)))
   | .rem=>ka=kb∧b≠0∧k (.i ka (a.tmod b))
   | .eql=>ka=kb∧k (.b (a==b))
   | .neq=>ka=kb∧k (.b (a != b))
   | .lss=>ka=kb∧k (.b (decide (a<b)))
   | .leq=>ka=kb∧k (.b (decide (a≤b)))
   | .gtr=>ka=kb∧k (.b (decide (a > b)))
   | .geq=>ka=kb∧k (.b (decide (a≥b)))
   | .shl=>0≤b∧k (.i ka (ka.wrap (a*2 ^ (min b.toNat ka.bits))))
   | .shr=>0≤b∧k (.i ka (a.fdiv (2 ^ (min b.toNat ka.bits))))
   | op=>ka=kb∧k (.i ka (bits op ka a b))
 | _,_=>False
def cellsOf:V→Option (List V)
 | .a cs=>some cs
 | .t _=>none
 | .any=>none
 | v=>some [v]
def CO:V→Bool
 | .a _=>false
 | .t _=>false
 | .any=>false
 | _=>true
def putAt:List V→Nat→List V→List V
 | cs,_,[]=>cs
 | cs,o,v::vs=>putAt (cs.set o v) (o+1) vs
def J6 (env:Env):List V→List (Nat×Nat×Bt)→Option (List V)
 | cs,[]=>some cs
 | cs,(off,sz,x)::r=>
   match ev env x with
   | some v=>match cellsOf v with
     | some vc=>bif Nat.beq vc.length sz&&Nat.ble (off+sz) cs.length then J6 env (putAt cs off vc) r else none
     | none=>none
   | none=>none
def I7 (env:Env) (sz:Nat):List (List V)→List (Nat×Bt)→Option (List (List V))
 | es,[]=>some es
 | es,(i,x)::r=>
   match ev env x with
   | some v=>match cellsOf v with
     | some vc=>bif Nat.beq vc.length sz&&Nat.blt i es.length then I7 env sz (es.set i vc) r else none
     | none=>none
   | none=>none
def cut (agg:Option Nat) (cs:List V) (off:Nat) (k:V→Prop):Prop:=
 match agg with
 | none=>match cs[off]? with|some v=>k v|none=>False
 | some n=>off+n≤cs.length∧k (.a ((cs.drop off).take n))
def Ou (σ:AH) (n off:Nat) (agg:Option Nat) (k:V→Prop):Prop:=
 match σ n with
 | some (.cs vs)=>cut agg vs off k
 | _=>False
def Ov (σ:AH) (n sz i off:Nat) (agg:Option Nat) (k:V→Prop):Prop:=
 match σ n with
 | some (.arr sz' es _)=>sz=sz'∧match es[i]? with|some e=>cut agg e off k|none=>False
 | _=>False
def AX (σ:AH) (agg:Option Nat) (x:V) (k:V→Prop):Prop:=
 match x with
 | .rp cs=>cut agg cs 0 k
 | .p n off=>Ou σ n off agg k
 | .pe n sz i off=>Ov σ n sz i off agg k
 | _=>False
def AU (σ:AH) (sz:Nat) (a x:V) (k:AH→Prop):Prop:=
 match cellsOf x with
 | some vc=>
   vc.length=sz∧vc.all CO=true∧match a with
   | .p n off=>match σ n with
     | some (.cs vs)=>off+sz≤vs.length∧k (A5 σ n (.cs (putAt vs off vc)))
     | _=>False
   | .pe n s i off=>match σ n with
     | some (.arr s' es cap)=>s=s'∧match es[i]? with
       | some e=>off+sz≤s∧k (A5 σ n (.arr s (es.set i (putAt e off vc)) cap))
       | none=>False
     | _=>False
   | _=>False
 | none=>False
def KW (off:Nat) (x:V) (k:V→Prop):Prop:=
 match x with
 | .rp cs=>k (.rp (cs.drop off))
 | .p n o=>k (.p n (o+off))
 | .pe n sz i o=>k (.pe n sz i (o+off))
 | _=>False
def AT (sz:Nat) (arr:Option Nat) (x i:V) (k:V→Prop):Prop:=
 match i with
 | .i _ j=>match arr,x with
   | none,.l es _=>0≤j∧ ∃e,es[j.toNat]? =some e∧e.length=sz∧k (.rp e)
   | none,.sl n len _=>0≤j∧j<len∧k (.pe n sz j.toNat 0)
   | none,.sv n s off len=>s=sz∧0≤j∧j<len∧k (.pe n sz (off+j.toNat) 0)
   | some m,.rp cs=>0≤j∧j<m∧k (.rp (cs.drop (j.toNat*sz)))
   | some m,.p n o=>0≤j∧j<m∧k (.p n (o+j.toNat*sz))
   | some m,.pe n s q o=>0≤j∧j<m∧k (.pe n s q (o+j.toNat*sz))
   | _,_=>False
 | _=>False
def KV (len sz:Nat) (agg:Option Nat) (x i:V) (k:V→Prop):Prop:=
 match x,i with
 | .a cs,.i _ j=>0≤j∧j<len∧cut agg cs (j.toNat*sz) k
 | _,_=>False
def Ox (x i:V) (k:V→Prop):Prop:=
 match x,i with
 | .s b,.i _ j=>0≤j∧match b.data.toList[j.toNat]? with|some c=>k (.i .u8 c.toNat)|none=>False
 | _,_=>False
def Az (x:V) (k:V→Prop):Prop:=
 match x with
 | .l es _=>k (.i .i64 es.length)
 | .sl _ len _=>len≤Aj∧k (.i .i64 len)
 | .sv _ _ _ len=>len≤Aj∧k (.i .i64 len)
 | _=>False
def J1 (σ:AH) (x:V) (k:V→Prop):Prop:=
 match x with
 | .m n=>match σ n with
   | some (.map kvs)=>kvs.length≤Aj∧k (.i .i64 kvs.length)
   | _=>False
 | .mn=>k (.i .i64 0)
 | _=>False
def rowsOf (σ:AH) (sz:Nat) (y:V) (k:List (List V)→Prop):Prop:=
 match y with
 | .l ys _=>(∀e∈ys,e.length=sz)∧k ys
 | .sl m len _=>match σ m with
   | some (.arr s ys _)=>s=sz∧len≤ys.length∧k (ys.take len)
   | _=>False
 | .sv m s off len=>match σ m with
   | some (.arr s' ys _)=>s=sz∧s'=sz∧off+len≤ys.length∧k ((ys.drop off).take len)
   | _=>False
 | _=>False
def FW:List (List V)→Option (List Int)
 | []=>some []
 | [.i .u8 n]::r=>match FW r with|some l=>some (n::l)|none=>none
 | _=>none
def eN (σ:AH) (x:V) (k:V→Prop):Prop:=rowsOf σ 1 x fun ys=>match FW ys with|some ns=>k (.s ⟨(ns.map fun n=>UInt8.ofNat n.toNat).toArray⟩)|none=>False
def AM (b : Nat) (σ:AH) (sz:Nat) (x y:V) (k:V→AH→Prop):Prop:=
 rowsOf σ sz y fun ys=>
 (∀e∈ys,∀v∈e,CO v=true)∧match x with
 | .l es full=>(∀e∈es,e.length=sz)∧(es.length+ys.length≤Aj∧(es.length+ys.length)*b≤140737488355328)∧(ys= []→k (.l es full) σ)∧
  (ys≠[]→full=true∧ ∀n cap,σ n=none→es.length+ys.length≤cap→k (.sl n (es.length+ys.length) cap) (A5 σ n (.arr sz (es++ys) cap)))
 | .sl n len cap=>match σ n with
   | some (.arr s es c)=>s=sz∧c=cap∧len=es.length∧(es.length+ys.length≤Aj∧(es.length+ys.length)*b≤140737488355328)∧
    ∀ n' cap',del σ n n'=none→es.length+ys.length≤cap'→
      k (.sl n' (es.length+ys.length) cap') (A5 (del σ n) n' (.arr sz (es++ys) cap'))
   | _=>False
 | _=>False
def Oe (σ:AH) (sz:Nat) (ys:List (List V)) (n off len:Nat) (k:V→AH→Prop):Prop:=
 match σ n with
 | some (.arr s es c)=>s=sz∧off+len≤es.length∧k (.i .i64 (min ys.length len:Nat)) (A5 σ n (.arr s (es.take off++(ys.take (min ys.length len)++es.drop (off+min ys.length len))) c))
 | _=>False
def Ad (σ:AH) (sz:Nat) (x y:V) (k:V→AH→Prop):Prop:=
 rowsOf σ sz y fun ys=>(∀e∈ys,∀v∈e,CO v=true)∧match x with
 | .sl n len _=>Oe σ sz ys n 0 len k
 | .sv n s off len=>s=sz∧Oe σ sz ys n off len k
 | _=>False
def Ae (b:Nat) (σ:AH) (sz:Nat) (x y:V) (k:V→Prop):Prop:=
 rowsOf σ sz y fun ys=>
 (∀e∈ys,∀v∈e,CO v=true)∧match x with
 | .l es full=>(∀e∈es,e.length=sz)∧(es.length+ys.length≤Aj∧(es.length+ys.length)*b≤140737488355328)∧(ys≠[]→full=true)∧k (.l (es++ys) false)
 | _=>False
def Ql (o:Option V) (d:Int) (k:Int→Prop):Prop:=
 match o with
 | none=>k d
 | some (.i _ n)=>k n
 | _=>False
def AS (σ:AH) (sz:Nat) (x:V) (lo hi mx:Option V) (k:V→AH→Prop):Prop:=
 match x with
 | .l es full=>(∀e∈es,e.length=sz)∧Ql hi es.length fun h=>Ql lo 0 fun l=>0≤l∧l≤h∧h≤es.length∧
  match mx with
  | none=>k (.l ((es.take h.toNat).drop l.toNat) (full&&decide (h=es.length))) σ
  | some (.i _ m)=>m=h∧k (.l ((es.take h.toNat).drop l.toNat) true) σ
  | _=>False
 | .sl n len cap=>Ql hi len fun h=>Ql lo 0 fun l=>0≤l∧l≤h∧h≤len∧
  match mx with
  | none=>k (.sv n sz l.toNat (h - l).toNat) σ
  | some (.i _ m)=>m=h∧h=len∧l=0∧match σ n with
    | some (.arr s es c)=>s=sz∧c=cap∧len=es.length∧(k (.l es true) (del σ n)∨k (.sl n len len) (A5 σ n (.arr s es len)))
    | _=>False
  | _=>False
 | .sv n s off len=>Ql hi len fun h=>Ql lo 0 fun l=>0≤l∧l≤h∧h≤len∧s=sz∧mx=none∧k (.sv n sz (off+l.toNat) (h - l).toNat) σ
 | _=>False
def HV (env:Env):Option Bt→Option (Option V)
 | none=>some none
 | some x=>match ev env x with|some v=>some (some v)|none=>none
abbrev wo (o:Option (Option V)) (k:Option V→Prop):Prop:=match o with|some v=>k v|none=>False
@[simp] theorem ZH (v:Option V) (k:Option V→Prop):wo (some v) k=k v:=rfl
abbrev ws (o:Option (List V)) (k:List V→Prop):Prop:=match o with|some v=>k v|none=>False
@[simp] theorem yT (v:List V) (k:List V→Prop):ws (some v) k=k v:=rfl
abbrev wr (o:Option (List (List V))) (k:List (List V)→Prop):Prop:=match o with|some v=>k v|none=>False
@[simp] theorem yU (v:List (List V)) (k:List (List V)→Prop):wr (some v) k=k v:=rfl
def B1:List V→List V→Option Bool
 | [],[]=>some true
 | .i k a::r,.i k' b::s=>if k=k' then(B1 r s).map ((a==b)&& ·)else none
 | _,_=>none
def Sk (len:Nat) (neg:Bool) (x y:V) (k:V→Prop):Prop:=
 match x,y with
 | .a cs,.a ds=>match Nat.beq cs.length len,B1 cs ds with|true,some t=>k (.b (bif neg then !t else t))|_,_=>False
 | _,_=>False
def Iz (kind:Nat) (neg:Bool) (x:V) (k:V→Prop):Prop:=
 match kind,x with
 | 0,.pn=>k (.b (!neg))
 | 0,.rp _|0,.p _ _|0,.pe _ _ _ _=>k (.b neg)
 | 1,.sl _ _ _=>k (.b neg)
 | 1,.l es _=>(es= []→ ∀t,k (.b t))∧(es≠[]→k (.b neg))
 | 2,.Dv=>k (.b (!neg))
 | 2,.FJ _ _=>k (.b neg)
 | 3,.mn=>k (.b (!neg))
 | 3,.m _=>k (.b neg)
 | 4,.K6=>k (.b (!neg))
 | 4,.f _ _ _=>k (.b neg)
 | _,_=>False
def AL (σ:AH) (sz:Nat) (z:List V) (x y:V) (k:V→AH→Prop):Prop:=
 match x,y with
 | .i _ n,.i _ m=>0≤n∧n≤m∧m≤1073741824∧ ∀id,σ id=none→k (.sl id n.toNat m.toNat) (A5 σ id (.arr sz (List.replicate n.toNat z) m.toNat))
 | _,_=>False
def Dl:List IntKind→List V→Bool
 | [],[]=>true
 | q::l,.i q' _::cs=>decide (q=q')&&Dl l cs
 | _,_=>false
def BW (ks:KS) (v:V):Bool:=
 match ks,v with
 | .i k,.i k' _=>decide (k=k')
 | .a l,.a cs=>Dl l cs
 | .s,.s b=>Nat.ble b.size 1048576
 | _,_=>false
def En (x y:V):Bool:=
 match x,y with
 | .i _ a,.i _ b=>a==b
 | .s b,.s c=>decide (b=c)
 | .a cs,.a ds=>(B1 cs ds).getD false
 | _,_=>false
def C6 (key:V):List (V×V)→Option V
 | []=>none
 | (k,v)::r=>bif En key k then some v else C6 key r
def Em (key val:V):List (V×V)→List (V×V)
 | []=>[(key,val)]
 | (k,v)::r=>bif En key k then(key,val)::r else(k,v)::Em key val r
def found (z:V) (ok:Bool) (o:Option V):V:=match o with|some v=>bif ok then .t [v,.b true]else v|none=>bif ok then .t [z,.b false]else z
def AO (σ:AH) (ks:KS) (z:V) (ok:Bool) (vm vk:V) (k:V→Prop):Prop:=
 BW ks vk=true∧match vm with
 | .m n=>match σ n with
   | some (.map kvs)=>(∀kv∈kvs,BW ks kv.1=true)∧k (found z ok (C6 vk kvs))
   | _=>False
 | .mn=>k (found z ok none)
 | _=>False
def AP (σ:AH) (ks:KS) (vm vk vv:V) (k:AH→Prop):Prop:=
 BW ks vk=true∧match vm with
 | .m n=>match σ n with
   | some (.map kvs)=>(∀kv∈kvs,BW ks kv.1=true)∧k (A5 σ n (.map (Em vk vv kvs)))
   | _=>False
 | _=>False
inductive R where
 | ret (v:V)
 | Bo (v:V)
def Uo (H:Nat→Nat→Option Value):R→Ending→Prop
 | .ret v,e=> ∃c,e= .returned c∧Ai H v c
 | .Bo v,e=> ∃c,e= .panicked [{v:=c,recovered:=false}]∧Ai H v c
def okF (P:Program) (f:FuncId):Bool:=
 match P.funcs[f]? with
 | some fn=>fn.body.isSome&&fn.name != "runtime.NumGoroutine"
 | none=>false
def dx (H:Nat→Nat→Option Value) (vs:List V) (cs:Array Value):Prop:=cs.size=vs.length∧Bb H (fun i=>cs[i]?) 0 vs
def A7 (P:Program) (f:FuncId) (args:List V) (σ:AH) (Q:R→AH→Prop):Prop:=
 okF P f=true∧ ∀(Λ:Nat→Prop) (w:World) (cs:Array Value),Rel Λ σ w→dx (Hh Λ σ w) args cs→
  Calls P f cs w fun e w'=> ∃r σ',Q r σ'∧Uo (Hh Λ σ' w') r e∧Rel Λ σ' w'∧B8 Λ σ w σ' w'
def N7 (P:Program) (l:Nat) (args:List V) (σ:AH) (Q:R→AH→Prop):Prop:=
 ∀ (Λ:Nat→Prop) (w:World) (cs:Array Value),Rel Λ σ w→dx (Hh Λ σ w) args cs→
   ∃ f tmps assign body,(Instr.yield l cs).run P w= .ok (.round l f tmps assign body) w∧
     RoundIn Fence.wide 0 P l f tmps assign body w fun e w'=> ∃r σ',Q r σ'∧Uo (Hh Λ σ' w') r e∧Rel Λ σ' w'∧B8 Λ σ w σ' w'
def Aw (P:Program) (x:V) (args:List V) (σ:AH) (Q:R→AH→Prop):Prop:=
 match x with
 | .f (.func f) first cap=>A7 P f (first++args++cap) σ Q
 | .f (.yield l) [] []=>N7 P l args σ Q
 | _=>False
def look (t:TypeId):List (TypeId×FuncId)→Option FuncId
 | []=>none
 | (u,f)::r=>bif Nat.beq u t then some f else look t r
def A1 (P:Program) (tab:List (TypeId×FuncId)) (x:V) (args:List V) (σ:AH) (Q:R→AH→Prop):Prop:=
 match x with
 | .FJ t v=>match look t tab with
   | some f=>A7 P f (v::args) σ Q
   | none=>False
 | _=>False
def qk (k kp:V→AH→Prop):R→AH→Prop
 | .ret v,σ=>k v σ
 | .Bo v,σ=>kp v σ
def Fi (P:Program) (o:GA) (env:Env) (σ:AH) (k kp:V→AH→Prop):Prop:=
 match o with
 | .mv x=>wv (ev env x) fun v=>k v σ
 | .kU x=>wv (ev env x) fun v=> ∃vf σ2,Sub σ2 σ∧Fj σ σ2 v vf∧k vf σ2
 | .pick c a b=>wv (ev env c) fun vc=>wv (ev env a) fun va=>wv (ev env b) fun vb=>
  match vc with| .b t=>(match va,vb with| .b x,.b y=>k (.b (bif t then x else y)) σ|_,_=>k (bif t then va else vb) σ)|_=>False
 | .bin op x y=>wv (ev env x) fun vx=>wv (ev env y) fun vy=>Uc op vx vy fun v=>k v σ
 | .kg neg x y=>wv (ev env x) fun vx=>wv (ev env y) fun vy=>
  match vx,vy with| .b p,.b q=>k (.b (bif neg then p != q else p==q)) σ|_,_=>False
 | .not x=>wv (ev env x) fun vx=>match vx with| .b p=>k (.b (!p)) σ|_=>False
 | .neg xor x=>wv (ev env x) fun vx=>match vx with
  | .i ka a=>k (.i ka (bif xor then bits .xor ka (bif ka.signed then -1 else ka.max) a else ka.wrap (0 - a))) σ
  | _=>False
 | .conv ka x=>wv (ev env x) fun vx=>match vx with| .i _ a=>k (.i ka (ka.wrap a)) σ|_=>False
 | .box x=>wv (ev env x) fun vx=>match cellsOf vx with
  | some cs=> ∀n,σ n=none→k (.p n 0) (A5 σ n (.cs cs))
  | none=>False
 | .Qv x=>wv (ev env x) fun vx=>match cellsOf vx with
  | some cs=>k (.rp cs) σ
  | none=>False
 | .Qw sz b x y=>wv (ev env x) fun vx=>wv (ev env y) fun vy=>Ae b σ sz vx vy fun v=>k v σ
 | .alloc z=> ∀n,σ n=none→k (.p n 0) (A5 σ n (.cs z))
 | .build z parts=>ws (J6 env z parts) fun cs=>k (.a cs) σ
 | .HH _ len z parts=>wr (I7 env z.length (List.replicate len z) parts) fun es=>k (.l es true) σ
 | .load agg x=>wv (ev env x) fun vx=>AX σ agg vx fun v=>k v σ
 | .store sz a x=>wv (ev env a) fun va=>wv (ev env x) fun vx=>AU σ sz va vx fun σ'=>k (.t []) σ'
 | .Gw off x=>wv (ev env x) fun vx=>KW off vx fun v=>k v σ
 | .field agg off x=>wv (ev env x) fun vx=>match vx with| .a cs=>cut agg cs off fun v=>k v σ|_=>False
 | .LF sz arr x i=>wv (ev env x) fun vx=>wv (ev env i) fun vi=>AT sz arr vx vi fun v=>k v σ
 | .index len sz agg x i=>wv (ev env x) fun vx=>wv (ev env i) fun vi=>KV len sz agg vx vi fun v=>k v σ
 | .slice sz x lo hi mx=>wv (ev env x) fun vx=>wo (HV env lo) fun l=>wo (HV env hi) fun h=>wo (HV env mx) fun m=>AS σ sz vx l h m k
 | .len x=>wv (ev env x) fun vx=>Az vx fun v=>k v σ
 | .Sj x=>wv (ev env x) fun vx=>J1 σ vx fun v=>k v σ
 | .UW x i=>wv (ev env x) fun vx=>wv (ev env i) fun vi=>Ox vx vi fun v=>k v σ
 | .str x=>wv (ev env x) fun vx=>eN σ vx fun v=>k v σ
 | .append sz b x y=>wv (ev env x) fun vx=>wv (ev env y) fun vy=>AM b σ sz vx vy k
 | .copy sz x y=>wv (ev env x) fun vx=>wv (ev env y) fun vy=>Ad σ sz vx vy k
 | .UZ x y=>wv (ev env x) fun vx=>wv (ev env y) fun vy=>match vx,vy with
  | .i ka a,.i kb b=>ka=kb∧k (.i ka (if b > a then b else a)) σ
  | _,_=>False
 | .UY x y=>wv (ev env x) fun vx=>wv (ev env y) fun vy=>match vx,vy with
  | .i ka a,.i kb b=>ka=kb∧k (.i ka (if b<a then b else a)) σ
  | _,_=>False
 | .extract i x=>wv (ev env x) fun vx=>match vx with| .t vs=>(match vs[i]? with|some v=>k v σ|none=>False)|_=>False
 | .IY x=>wv (ev env x) fun vx=>match vx with
  | .p n off=>k (.p n off) σ
  | .rp cs=>k (.rp cs) σ
  | .pe n sz i off=>k (.pe n sz i off) σ
  | .f (.func f) first cap=>k (.f (.func f) first cap) σ
  | .f (.yield l) first cap=>k (.f (.yield l) first cap) σ
  | _=>False
 | .dh f first cap=>ws (UM env first) fun vf=>ws (UM env cap) fun vc=>k (.f f vf vc) σ
 | .NT t x=>wv (ev env x) fun vx=>k (.FJ t vx) σ
 | .dd t z ok x=>wv (ev env x) fun vx=>match vx with
  | .FJ t' v=>(t'=t→k (bif ok then .t [v,.b true]else v) σ)∧(t'≠t→ok=true∧k (.t [z,.b false]) σ)
  | .Dv=>ok=true∧k (.t [z,.b false]) σ
  | _=>False
 | .panic x=>wv (ev env x) fun vx=>match vx with| .FJ t v=>kp (.FJ t v) σ|_=>False
 | .call f args=>ws (UM env args) fun vs=>A7 P f vs σ (qk k kp)
 | .ke len neg x y=>wv (ev env x) fun vx=>wv (ev env y) fun vy=>Sk len neg vx vy fun v=>k v σ
 | .dj kind neg x=>wv (ev env x) fun vx=>Iz kind neg vx fun v=>k v σ
 | .GJ sz _ z x y=>wv (ev env x) fun vx=>wv (ev env y) fun vy=>AL σ sz z vx vy k
 | .NS=> ∀n,σ n=none→k (.m n) (A5 σ n (.map []))
 | .lookup ks z ok m key=>wv (ev env m) fun vm=>wv (ev env key) fun vk=>AO σ ks z ok vm vk fun v=>k v σ
 | .E6 ks m key x=>wv (ev env m) fun vm=>wv (ev env key) fun vk=>wv (ev env x) fun vx=>AP σ ks vm vk vx fun σ'=>k (.t []) σ'
 | .LI f args=>ws (UM env args) fun vs=> ∃v,A7 P f vs (fun _=>none) (fun r σ'=>r= .ret v∧σ'=fun _=>none)∧k v σ
 | .JA x args=>wv (ev env x) fun vx=>ws (UM env args) fun vs=>Aw P vx vs σ (qk k kp)
 | .inv tab x args=>wv (ev env x) fun vx=>ws (UM env args) fun vs=>A1 P tab vx vs σ (qk k kp)
 | _=>False
end Go.Gl
namespace Go.Gl
def Bm {H:Nat→Nat→Option Value} {g:Nat→Option Value}: ∀ {vs:List V} {o:Nat},
    Bb H g o vs↔ ∀i v,vs[i]? =some v→ ∃c,g (o+i)=some c∧Ai H v c
 | [],o=>by simp[Bb]
 | v ::vs,o=>by
   simp only[Bb];rw[Bm (vs:=vs) (o:=o+1)];constructor
   ·rintro⟨h1,h2⟩ i u hu
    cases i with
    | zero=>simp at hu;subst hu;simpa using h1
    | succ i=>
      obtain⟨c,hc,hr⟩:=h2 i u (by simpa using hu);exact⟨c,by rw[←hc];congr 1;omega,hr⟩
   ·intro h
    refine⟨by simpa using h 0 v rfl,fun i u hu=>?_⟩;obtain⟨c,hc,hr⟩:=h (i+1) u (by simpa using hu);exact⟨c,by rw[←hc];congr 1;omega,hr⟩
def BJ {H:Nat→Nat→Option Value} {g:Nat→Option Value} {sz:Nat}: ∀ {es:List (List V)} {o:Nat},
    BM H g sz o es↔ ∀i e,es[i]? =some e→e.length=sz∧Bb H g (o+i*sz) e
 | [],o=>by simp[BM]
 | v ::vs,o=>by
   simp only[BM];rw[BJ (es:=vs) (o:=o+sz)];constructor
   ·rintro⟨h1,h2,h3⟩ i u hu
    cases i with
    | zero=>simp at hu;subst hu;exact⟨h1,by simpa using h2⟩
    | succ i=>
      obtain⟨h4,h5⟩:=h3 i u (by simpa using hu);refine⟨h4,?_⟩;rw[show o+(i+1)*sz=o+sz+i*sz by rw[Nat.add_mul];omega];exact h5
   ·intro h
    have h0:=h 0 v rfl;refine⟨h0.1,by simpa using h0.2,fun i u hu=>?_⟩;obtain⟨h4,h5⟩:=h (i+1) u (by simpa using hu);refine⟨h4,?_⟩;rw[show o+sz+i*sz=o+(i+1)*sz by rw[Nat.add_mul];omega];exact h5
def BH {H:Nat→Nat→Option Value} {g g':Nat→Option Value} {o o':Nat} {vs:List V} (h:Bb H g o vs) (hg: ∀i,i<vs.length→g' (o'+i)=g (o+i)):Bb H g' o' vs:=by
 rw[Bm]at *;intro i v hv;obtain⟨c,hc,hr⟩:=h i v hv;exact⟨c,by rw[hg i (by rw[MK]at hv;exact hv.1)];exact hc,hr⟩
def Jf {H:Nat→Nat→Option Value} {g:Nat→Option Value} {o:Nat} {vs:List V} (h:Bb H g o vs) (n:Nat):Bb H g (o+n) (vs.drop n):=by
 rw[Bm]at *;intro i v hv;rw[kN]at hv;obtain⟨c,hc,hr⟩:=h (n+i) v hv;exact⟨c,by rw[←hc];congr 1;omega,hr⟩
def RU {H:Nat→Nat→Option Value} {g:Nat→Option Value} {o:Nat} {vs:List V} (h:Bb H g o vs) (n:Nat):Bb H g o (vs.take n):=by
 rw[Bm]at *;intro i v hv;rw[List.getElem?_take]at hv;split at hv
 ·exact h i v hv
 ·cases hv
def Nc {H:Nat→Nat→Option Value} {g:Nat→Option Value} {o:Nat} {vs us:List V} (h:Bb H g o vs) (k:Bb H g (o+vs.length) us):Bb H g o (vs++us):=by
 rw[Bm]at *;intro i v hv;rw[List.getElem?_append]at hv;split at hv
 ·exact h i v hv
 ·obtain⟨c,hc,hr⟩:=k _ v hv
  exact⟨c,by rw[←hc];congr 1;omega,hr⟩
def Rel.lt {Λ:Nat→Prop} {σ:AH} {w:World} (h:Rel Λ σ w) {n:Nat} {o:O} (ho:σ n=some o):n<w.heap.size:=by
 obtain⟨_,ob,h2,_⟩:=h.own n o ho;rcases Nat.lt_or_ge n w.heap.size with h'|h'
 ·exact h'
 ·simp[Array.getElem?_eq_none h']at h2
def Rel.new {Λ:Nat→Prop} {σ:AH} {w:World} (h:Rel Λ σ w):σ w.heap.size=none:=by
 cases h':σ w.heap.size with
 | none=>rfl
 | some o=>exact absurd (h.lt h') (Nat.lt_irrefl _)
def Rel.step {Λ:Nat→Prop} {σ σ':AH} {w w':World} (h:Rel Λ σ w) (ha:B8 Λ σ w σ' w')
    (hn: ∀n o,σ' n=some o→(σ n=some o∧w'.heap[n]? =w.heap[n]?)∨(¬Λ n∧ ∃ob,w'.heap[n]? =some ob∧Oo (Hh Λ σ' w') o ob)):Rel Λ σ' w' where
 own n o ho:=by
  rcases hn n o ho with⟨h1,h2⟩|h1
  ·obtain⟨h3,ob,h4,h5⟩:=h.own n o h1
   exact⟨h3,ob,h2.trans h4,h5.mono ha.hle⟩
  ·exact h1
 lock n hl:=Nat.lt_of_lt_of_le (h.lock n hl) ha.size
def DQ (σ:AH) (n:Nat) (o:O):A5 σ n o n=some o:=by simp[A5]
def Cl (σ:AH) {n m:Nat} (o:O) (h:m≠n):A5 σ n o m=σ m:=by simp[A5,h]
def De (σ:AH) (n:Nat):del σ n n=none:=by simp[del]
def HD (σ:AH) {n m:Nat} (h:m≠n):del σ n m=σ m:=by simp[del,h]
def GG (σ:AH) (n:Nat):Sub (del σ n) σ:=by
 intro m o h;unfold del at h;split at h
 ·cases h
 ·exact h
def EF {Λ:Nat→Prop} {σ:AH} {w:World} (o:O) (ob:Obj):B8 Λ σ w (A5 σ w.heap.size o) (w.alloc ob) where
 frame n hn _:=RowKit.Below.heap_alloc _ _ _ hn
 size:=by simp
 os:=rfl
 tape:=rfl
 output:=rfl
 names n h0 hn:=by rw[Cl _ _ (by omega)];exact h0
def Hl {Λ:Nat→Prop} {σ:AH} {w:World} (h:Rel Λ σ w) {o:O} {ob:Obj} (ho:Oo (Hh Λ σ w) o ob):Rel Λ (A5 σ w.heap.size o) (w.alloc ob):=
 h.step (EF o ob) fun n o' hn=>by
  by_cases e:n=w.heap.size
  ·subst e
   rw[DQ]at hn;cases hn;exact .inr ⟨fun hl=>absurd (h.lock _ hl) (Nat.lt_irrefl _),ob,heap_alloc_new _ _,ho.mono (EF o ob).hle⟩
  ·rw[Cl _ _ e]at hn
   exact .inl ⟨hn,RowKit.Below.heap_alloc _ _ _ (h.lt hn)⟩
def IQ {Λ:Nat→Prop} {σ:AH} (w:World) (ob:Obj):B8 Λ σ w σ (w.alloc ob) where
 frame n hn _:=RowKit.Below.heap_alloc _ _ _ hn
 size:=by simp
 os:=rfl
 tape:=rfl
 output:=rfl
 names n h0 _:=h0
def Km {Λ:Nat→Prop} {σ:AH} {w:World} (h:Rel Λ σ w) (ob:Obj):Rel Λ σ (w.alloc ob):=
 h.step (IQ w ob) fun _ _ hn=> .inl ⟨hn,RowKit.Below.heap_alloc _ _ _ (h.lt hn)⟩
def Cb (w:World) (n:Nat) (ob:Obj):World:={w with heap:=w.heap.setIfInBounds n ob}
def Ng {w:World} {n:Nat} {ob:Obj} (h:n<w.heap.size):(Cb w n ob).heap[n]? =some ob:=by
 simp[Cb,h]
def Re {w:World} {n m:Nat} {ob:Obj} (h:m≠n):(Cb w n ob).heap[m]? =w.heap[m]? :=by
 simp only[Cb];rw[Array.getElem?_setIfInBounds_ne (Ne.symm h)]
@[simp] theorem pZ (w:World) (n:Nat) (ob:Obj):(Cb w n ob).heap.size=w.heap.size:=by simp[Cb]
def G3 {Λ:Nat→Prop} {σ:AH} {w:World} {n:Nat} {o:O} (hn:σ n=some o) (o':O) (ob:Obj):B8 Λ σ w (A5 σ n o') (Cb w n ob) where
 frame m _ h0:=Re (fun e=>by rw[e,hn]at h0;cases h0)
 size:=by simp
 os:=rfl
 tape:=rfl
 output:=rfl
 names m h0 _:=by rw[Cl _ _ (fun e=>by rw[e,hn]at h0;cases h0)];exact h0
def JV {Λ:Nat→Prop} {σ:AH} {w:World} (h:Rel Λ σ w) {n:Nat} {o o':O} {ob:Obj} (hn:σ n=some o) (ho:Oo (Hh Λ σ w) o' ob):Rel Λ (A5 σ n o') (Cb w n ob):=
 h.step (G3 hn o' ob) fun m o'' hm=>by
  by_cases e:m=n
  ·subst e
   rw[DQ]at hm;cases hm;exact .inr ⟨(h.own _ _ hn).1,ob,Ng (h.lt hn),ho.mono (G3 hn o' ob).hle⟩
  ·rw[Cl _ _ e]at hm
   exact .inl ⟨hm,Re e⟩
def Xq {w:World} {n:Nat} {ob:Obj} (h:w.heap[n]? =some ob):n<w.heap.size:=by
 rcases Nat.lt_or_ge n w.heap.size with h'|h'
 ·exact h'
 ·simp[Array.getElem?_eq_none h']at h
def setCell_eq {w:World} {n i:Nat} {c:Array Value} {e:TypeId} (h:w.heap[n]? =some (.cells c e (0,0))) (v:Value) :
    w.setCell ⟨n,i,none⟩ v=Cb w n (.cells (c.setIfInBounds i v) e (0,0)):=by
 unfold World.setCell Cb;congr 1;apply Array.ext_getElem?;intro j;by_cases hj:n=j
 ·subst hj
  rw[Array.getElem?_modify,if_pos rfl,Array.getElem?_setIfInBounds_self_of_lt (Xq h),h];rfl
 ·rw[Array.getElem?_modify,if_neg hj,Array.getElem?_setIfInBounds_ne hj]
def Df {w:World} {n i:Nat} {c:Array Value} {e:TypeId} {fr:Nat×Nat} (h:w.heap[n]? =some (.cells c e fr)):w.cell? ⟨n,i,none⟩=c[i]? :=
 cell_of_row w n i c e fr h
def QS {w:World} {n i:Nat} {c:Array Value} {e:TypeId} (h:w.heap[n]? =some (.cells c e (0,0))):w.frozen? ⟨n,i,none⟩=false:=
 frozen_of_row w n i c e h
def Cy (n o i:Nat):(⟨n,o,none⟩:Addr).add i=⟨n,o+i,none⟩:=by
 unfold Addr.add;split
 ·subst_vars;rfl
 ·rfl
def DF:Array Value→Nat→List Value→Array Value
 | c,_,[]=>c
 | c,o,v::vs=>DF (c.setIfInBounds o v) (o+1) vs
def D8: ∀(vs:List Value) (c:Array Value) (o:Nat),(DF c o vs).size=c.size
 | [],_,_=>rfl
 | v::vs,c,o=>by simp only[DF];rw[D8 vs];simp
def bf {w:World} {n:Nat} {ob:Obj} (h:w.heap[n]? =some ob):Cb w n ob=w:=by
 unfold Cb
 have:w.heap.setIfInBounds n ob=w.heap:=by
  apply Array.ext_getElem?;intro j;by_cases hj:n=j
  ·subst hj
   rw[Array.getElem?_setIfInBounds_self_of_lt (Xq h),h]
  ·rw[Array.getElem?_setIfInBounds_ne hj]
 rw[this]
def Qz (w:World) (n:Nat) (a b:Obj):Cb (Cb w n a) n b=Cb w n b:=by
 simp[Cb]
def Cz {P:Program} {n:Nat} {e:TypeId}: ∀(vs:List Value) (w:World) (c:Array Value) (o i:Nat),w.heap[n]? =some (.cells c e (0,0))→
    o+i+vs.length≤c.size→(∀v∈vs,v.oneCell'=true)→
    (storeCells ⟨n,o,none⟩ vs i).run P w= .ok () (Cb w n (.cells (DF c (o+i) vs) e (0,0)))
 | [],w,c,o,i,h,_,_=>by
   simp only[storeCells,E2,DF];rw[bf h]
 | v::vs,w,c,o,i,h,hl,hv=>by
   have hlt:o+i<c.size:=by simp at hl;omega
   have h1:w.cell? ⟨n,o+i,none⟩=some c[o+i]:=by rw[Df h];rw[Array.getElem?_eq_getElem hlt]
   have hone:=hv v (by simp);simp only[storeCells,DZ,Cy,run_store P w _ v _ hone,h1,QS h,ML,if_false,Result.andThen];rw[setCell_eq h];rw[Cz vs _ (c.setIfInBounds (o+i) v) o (i+1) (Ng (Xq h)) (by simp at hl ⊢;omega) (fun u hu=>hv u (by simp[hu]))];rw[Qz];rfl
end Go.Gl
namespace Go.Gl
def kr:Value→Option V
 | .bool b=>some (.b b)
 | .int k n=>if k.min≤n∧n≤k.max then some (.i k n)else none
 | .string s=>some (.s s)
 | .pointer none=>some .pn
 | .slice none 0 0=>some (.l [] true)
 | .map none=>some .mn
 | .nilFunc=>some .K6
 | .nilIface=>some .Dv
 | _=>none
def dz:List Value→Option (List V)
 | []=>some []
 | c::cs=>match kr c,dz cs with
   | some v,some vs=>some (v::vs)
   | _,_=>none
def pf:Value→Option V
 | .agg cs=>(dz cs.toList).map .a
 | .tuple cs=>if cs.size=0 then some (.t [])else none
 | c=>kr c
def BX:Operand→Option Bt
 | .tmp t=>some (.t t)
 | .const v=>(pf v).map .c
 | .func f=>some (.c (.f (.func f) [] []))
 | .global _=>none
def Jx:List Operand→Option (List Bt)
 | []=>some []
 | x::r=>match BX x,Jx r with
   | some v,some vs=>some (v::vs)
   | _,_=>none
def bE:Option Operand→Option (Option Bt)
 | none=>some none
 | some x=>(BX x).map some
def EP (P:Program) (t:TypeId):Option Nat:=(P.info? t).map (·.size)
def Ih (P:Program) (t:TypeId):Option (Option Nat):=
 match P.underlying t with
 | some (.struct _)=>(EP P t).map some
 | some (.array _ _)=>(EP P t).map some
 | some _=>some none
 | none=>none
def zeroOf (P:Program) (t:TypeId):Option V:=(((P.info? t).bind (·.zero))).bind pf
def isInt (P:Program) (t:TypeId):Bool:=match P.underlying t with|some (.int _)=>true|_=>false
def isBool (P:Program) (t:TypeId):Bool:=match P.underlying t with|some .bool=>true|_=>false
def wZ (P:Program) (op:BinOp) (t:TypeId) (x y:Bt):Option GA:=
 if isInt P t then some (.bin op x y)
 else if isBool P t then match op with
  | .eql=>some (.kg false x y)
  | .neq=>some (.kg true x y)
  | _=>none
 else none
def Sy (fields:Array Field) (P:Program):List (Nat×Operand)→Option (List (Nat×Nat×Bt))
 | []=>some []
 | (i,x)::r=>match fields[i]?,BX x,Sy fields P r with
   | some f,some o,some ps=>(EP P f.type).map fun s=>(f.offset,s,o)::ps
   | _,_,_=>none
def OJ (sz:Nat):List (Nat×Operand)→Option (List (Nat×Nat×Bt))
 | []=>some []
 | (i,x)::r=>match BX x,OJ sz r with
   | some o,some ps=>some ((i*sz,sz,o)::ps)
   | _,_=>none
def OI:List (Nat×Operand)→Option (List (Nat×Bt))
 | []=>some []
 | (i,x)::r=>match BX x,OI r with
   | some o,some ps=>some ((i,o)::ps)
   | _,_=>none
def Kb:Option V→Option (List V)
 | some (.a cs)=>some cs
 | some (.t _)=>none
 | some .any=>none
 | some v=>some [v]
 | none=>none
def ei (P:Program) (c:Call):Option GA:=
 match c.callee,c.args.toList,c.argTypes.toList with
 | .builtin .len,[x],[t]=>match P.underlying t with
   | some (.slice _)=>(BX x).map .len
   | some (.map _ _)=>(BX x).map .Sj
   | some (.array n _)=>if(n:Int)≤IntKind.i64.max then some (.mv (.c (.i .i64 n)))else none
   | _=>none
 | .builtin .append,[x,y],[t,u]=>match P.underlying t,P.underlying u with
   | some (.slice e),some (.slice _)=>match BX x,BX y,P.info? e with
     | some x',some y',some i=>if t=u∧i.bytes≤4096∧i.zero.map (fun z=>z.cells.size)=some i.size then some (.append i.size i.bytes x' y')else none
     | _,_,_=>none
   | _,_=>none
 | .builtin .max,[x,y],_=>match BX x,BX y with|some x',some y'=>some (.UZ x' y')|_,_=>none
 | .builtin .min,[x,y],_=>match BX x,BX y with|some x',some y'=>some (.UY x' y')|_,_=>none
 | .value (.func f),_,_=>(Jx c.args.toList).map (.call f)
 | .value x,_,_=>match BX x,Jx c.args.toList with|some x',some as=>some (.JA x' as)|_,_=>none
 | _,_,_=>none
def yb (P:Program):Op→Option GA
 | .move x=>(BX x).map .mv
 | .assign x=>(BX x).map .mv
 | .pick c a b=>match BX c,BX a,BX b with|some c,some a,some b=>some (.pick c a b)|_,_,_=>none
 | .box _ x=>(BX x).map .box
 | .alloc e=>(Kb (zeroOf P e)).map .alloc
 | .build t parts=>match Kb (zeroOf P t),P.underlying t with
   | some z,some (.struct fields)=>if fields.toList.all (fun f=>(EP P f.type).isSome)then(Sy fields P parts.toList).map (.build z)else none
   | some z,some (.array _ e)=>(EP P e).bind fun sz=>(OJ sz parts.toList).map (.build z)
   | _,_=>none
 | .buildSlice t len parts=>match P.underlying t with
   | some (.slice e)=>match Kb (zeroOf P e),EP P e with
     | some z,some sz=>if z.length=sz∧0<sz∧0<len∧len*sz≤2 ^ 24 then(OI parts.toList).map (.HH sz len z)else none
     | _,_=>none
   | _=>none
 | .load t x=>match Ih P t,BX x with|some a,some x=>some (.load a x)|_,_=>none
 | .store t a x=>match EP P t,BX a,BX x with|some s,some a,some x=>some (.store s a x)|_,_,_=>none
 | .binOp op t x y _=>match BX x,BX y with|some x,some y=>wZ P op t x y|_,_=>none
 | .unOp .not _ x=>(BX x).map .not
 | .unOp .neg t x=>if isInt P t then(BX x).map (.neg false)else none
 | .unOp .xor t x=>if isInt P t then(BX x).map (.neg true)else none
 | .convert s d x=>match P.underlying s,P.underlying d with
   | some (.int _),some (.int k)=>(BX x).map (.conv k)
   | _,_=>none
 | .makeInterface t x=>match P.underlying t with
   | some (.interface _)=>none
   | some _=>(BX x).map (.NT t)
   | none=>none
 | .makeFunc (.func f) first cap=>match Jx first.toList,Jx cap.toList with|some a,some b=>some (.dh (.func f) a b)|_,_=>none
 | .slice t x lo hi mx=>match P.underlying t with
   | some (.slice e)=>match EP P e,BX x,bE lo,bE hi,bE mx with
     | some s,some x,some l,some h,some m=>if 0<s∧(m.isSome→h.isSome)then some (.slice s x l h m)else none
     | _,_,_,_,_=>none
   | _=>none
 | .fieldAddr s x f=>match P.underlying s with
   | some (.struct fields)=>match fields[f]? with
     | some fd=>match EP P fd.type with
       | some sz=>if sz=0 then none else(BX x).map (.Gw fd.offset)
       | none=>none
     | none=>none
   | _=>none
 | .field t x f=>match P.underlying t with
   | some (.struct fields)=>match fields[f]? with
     | some fd=>match Ih P fd.type,BX x with|some a,some x=>some (.field a fd.offset x)|_,_=>none
     | none=>none
   | _=>none
 | .indexAddr t x i=>match P.underlying t with
   | some (.slice e)=>match EP P e,BX x,BX i with|some s,some x,some i=>some (.LF s none x i)|_,_,_=>none
   | some (.array n e)=>match EP P e,BX x,BX i with|some s,some x,some i=>some (.LF s (some n) x i)|_,_,_=>none
   | _=>none
 | .index t x i=>match P.underlying t with
   | some (.array n e)=>match EP P e,Ih P e,BX x,BX i with|some s,some a,some x,some i=>some (.index n s a x i)|_,_,_,_=>none
   | _=>none
 | .extract x i=>(BX x).map (.extract i)
 | .nilCheck x=>(BX x).map .IY
 | .typeAssert x _ t ok=>match P.underlying t with
   | some (.interface _)=>none
   | some _=>match BX x,zeroOf P t with|some x,some z=>some (.dd t z ok x)|_,_=>none
   | none=>none
 | .panic x=>(BX x).map .panic
 | .call c=>ei P c
 | _=>none
def Cj (Λ:Nat→Prop) (σ:AH) (w:World) (k kp:V→AH→Prop):Result Value→Prop
 | .ok c w'=> ∃v σ',k v σ'∧Ai (Hh Λ σ' w') v c∧Rel Λ σ' w'∧B8 Λ σ w σ' w'
 | .halt (.panic c) w'=> ∃v σ',kp v σ'∧Ai (Hh Λ σ' w') v c∧Rel Λ σ' w'∧B8 Λ σ w σ' w'
 | _=>False
def Good (P:Program) (Λ:Nat→Prop) (σ:AH) (w:World) (k kp:V→AH→Prop):Result Next→Prop
 | .ok (.value c) w'=> ∃v σ',k v σ'∧Ai (Hh Λ σ' w') v c∧Rel Λ σ' w'∧B8 Λ σ w σ' w'
 | .ok .skip w'=> ∃σ',k (.t []) σ'∧Rel Λ σ' w'∧B8 Λ σ w σ' w'
 | .ok (.enter f args) w'=>Calls P f args w' fun e w''=> ∃r σ',qk k kp r σ'∧Uo (Hh Λ σ' w'') r e∧Rel Λ σ' w''∧B8 Λ σ w σ' w''
 | .ok (.round l f tmps assign body) w'=>RoundIn Fence.wide 0 P l f tmps assign body w' fun e w''=> ∃r σ',qk k kp r σ'∧Uo (Hh Λ σ' w'') r e∧Rel Λ σ' w''∧B8 Λ σ w σ' w''
 | .halt (.panic c) w'=> ∃v σ',kp v σ'∧Ai (Hh Λ σ' w') v c∧Rel Λ σ' w'∧B8 Λ σ w σ' w'
 | _=>False
def A3 {P:Program} {Λ:Nat→Prop} {σ:AH} {w:World} {k kp:V→AH→Prop} {s:Sem Value} (h:Cj Λ σ w k kp (s.run P w)) :
    Good P Λ σ w k kp ((do pure (.value (←s)):Sem Next).run P w):=by
 simp only[DZ];generalize s.run P w=r at *;cases r with
 | ok c w'=>exact h
 | halt x w'=>cases x<;>first|exact h|exact h.elim
def Ff {Λ:Nat→Prop} {σ:AH} {w:World} {k kp:V→AH→Prop} (G:Rel Λ σ w) {v:V} {c:Value} (hv:Ai (Hh Λ σ w) v c) (hk:k v σ):Cj Λ σ w k kp (.ok c w):=
 ⟨v,σ,hk,hv,G,B8.refl _ _ _⟩
def Ay {Λ:Nat→Prop} {σ:AH} {w:World} {k kp:V→AH→Prop} (G:Rel Λ σ w) {v:V} {c:Value} (hk:k v σ) (hv:Ai (Hh Λ σ w) v c):Cj Λ σ w k kp (.ok c w):=
 Ff G hv hk
def CT (H:Nat→Nat→Option Value) (env:Env) (tmps:Array Value):Prop:= ∀k v,get k env=some v→ ∃c,tmps[k]? =some c∧Ai H v c
def CT.mono {H H':Nat→Nat→Option Value} (hle:Yx H H') {env:Env} {tmps:Array Value} (h:CT H env tmps):CT H' env tmps:=
 fun k v hv=>let⟨c,h1,h2⟩:=h k v hv;⟨c,h1,h2.mono hle⟩
def VQ {H:Nat→Nat→Option Value} {c:Value} {v:V} (h:kr c=some v):Ai H v c:=by
 unfold kr at h
 split at h<;>first
  | (cases h;simp[Ai];done)
  | (split at h<;>first|(rename_i hc;cases h;simpa[Ai]using hc)|cases h)
  | cases h
 ·exact⟨none,0,rfl,by simp,by simp,by simp[Aj],by simp,by simp⟩
def VP {H:Nat→Nat→Option Value}: ∀ {cs:List Value} {vs:List V},dz cs=some vs→cs.length=vs.length∧Bb H (fun i=>cs[i]?) 0 vs
 | [],vs,h=>by cases h;exact⟨rfl,trivial⟩
 | c ::cs,vs,h=>by
   simp only[dz]at h;split at h
   ·rename_i v vs' h1 h2
    cases h;obtain⟨h3,h4⟩:=VP (H:=H) h2;refine⟨by simp[h3],⟨c,by simp,VQ h1⟩,?_⟩;exact BH h4 (fun i _=>by rw[show 0+1+i=i+1 by omega];simp)
   ·cases h
def Gz {H:Nat→Nat→Option Value} {c:Value} {v:V} (h:pf c=some v):Ai H v c:=by
 unfold pf at h;split at h
 ·rename_i cs
  cases hq:dz cs.toList with
  | none=>rw[hq]at h;cases h
  | some vs=>
    rw[hq]at h;cases h;obtain⟨h1,h2⟩:=VP (H:=H) hq;refine⟨cs,rfl,by simpa using h1,BH h2 (fun i _=>by simp)⟩
 ·rename_i cs
  split at h
  ·rename_i h0
   cases h;exact⟨cs,rfl,by simpa using h0,trivial⟩
  ·cases h
 ·exact VQ h
def As {H:Nat→Nat→Option Value} {env:Env} {a:Act} (he:CT H env a.tmps) {x:Operand} {o:Bt} (ho:BX x=some o) {v:V} (hv:ev env o=some v):Ai H v (a.eval x):=by
 cases x with
 | tmp t=>
   cases ho;obtain⟨c,h1,h2⟩:=he t v hv;simp only[Act.eval,Array.getD_eq_getD_getElem?,h1,Option.getD_some];exact h2
 | const c=>
   simp only[BX]at ho;cases hq:pf c with
   | none=>rw[hq]at ho;cases ho
   | some u=>
     rw[hq]at ho;cases ho;cases hv;exact Gz hq
 | func f=>
   cases ho;cases hv;exact⟨#[],#[],rfl,rfl,trivial,rfl,trivial⟩
 | global g=>cases ho
def Z9 {H:Nat→Nat→Option Value} {env:Env} {a:Act} (he:CT H env a.tmps): ∀ {xs:List Operand} {os:List Bt},Jx xs=some os→ ∀ {vs:List V},UM env os=some vs→
    xs.length=vs.length∧Bb H (fun i=>(xs.map a.eval)[i]?) 0 vs
 | [],os,ho,vs,hv=>by cases ho;cases hv;exact⟨rfl,trivial⟩
 | x ::xs,os,ho,vs,hv=>by
   simp only[Jx]at ho;split at ho
   ·rename_i o os' h1 h2
    cases ho;simp only[UM]at hv;split at hv
    ·rename_i v vs' h3 h4
     cases hv;obtain⟨h5,h6⟩:=Z9 he h2 h4;refine⟨by simp[h5],⟨a.eval x,by simp,As he h1 h3⟩,?_⟩;exact BH h6 (fun i _=>by rw[show 0+1+i=i+1 by omega];simp)
    ·cases hv
   ·cases ho
def Am {o:Option V} {k:V→Prop} (h:wv o k): ∃v,o=some v∧k v:=by
 cases o with
 | none=>exact h.elim
 | some v=>exact⟨v,rfl,h⟩
def H8 {o:Option (List V)} {k:List V→Prop} (h:ws o k): ∃v,o=some v∧k v:=by
 cases o with
 | none=>exact h.elim
 | some v=>exact⟨v,rfl,h⟩
def ZG {o:Option (List (List V))} {k:List (List V)→Prop} (h:wr o k): ∃v,o=some v∧k v:=by
 cases o with
 | none=>exact h.elim
 | some v=>exact⟨v,rfl,h⟩
def TM {o:Option (Option V)} {k:Option V→Prop} (h:wo o k): ∃v,o=some v∧k v:=by
 cases o with
 | none=>exact h.elim
 | some v=>exact⟨v,rfl,h⟩
end Go.Gl
namespace Go.Gl
variable {P:Program} {Λ:Nat→Prop} {σ:AH} {w:World} {k kp:V→AH→Prop}
def L9 {t:TypeId} {n:Nat} (h:EP P t=some n): ∃i,P.info? t=some i∧i.size=n:=by
 unfold EP at h;cases hi:P.info? t with
 | none=>rw[hi]at h;cases h
 | some i=>rw[hi]at h;cases h;exact⟨i,rfl,rfl⟩
def ER {t:TypeId} {n:Nat} (h:EP P t=some n) (w:World):(sizeOf t).run P w= .ok n w:=by
 obtain⟨i,h1,h2⟩:=L9 h;simp[sizeOf,typeInfo,h1,h2]
def BN {t:TypeId} {d:TypeDesc} (h:P.underlying t=some d) (w:World):(underlying t).run P w= .ok d w:=by
 simp[underlying,h]
def Ef {t:TypeId} {z:V} (h:zeroOf P t=some z) (w:World): ∃c,(zeroValue t).run P w= .ok c w∧pf c=some z:=by
 unfold zeroOf at h;cases hi:P.info? t with
 | none=>rw[hi]at h;cases h
 | some i=>
   rw[hi]at h;cases hz:i.zero with
   | none=>simp[hz]at h
   | some c=>
     refine⟨c,by simp[zeroValue,typeInfo,hi,hz],?_⟩;simpa[hz]using h
def WQ {t:TypeId} {z:V} (h:zeroOf P t=some z): ∃i c,P.info? t=some i∧i.zero=some c∧pf c=some z:=by
 unfold zeroOf at h;cases hi:P.info? t with
 | none=>rw[hi]at h;cases h
 | some i=>
   rw[hi]at h;cases hz:i.zero with
   | none=>simp[hz]at h
   | some c=>exact⟨i,c,rfl,hz,by simpa[hz]using h⟩
def Rg {t:TypeId} {a:Option Nat} (h:Ih P t=some a) (w:World):(isAgg t).run P w= .ok a.isSome w∧ ∀n,a=some n→(sizeOf t).run P w= .ok n w:=by
 unfold Ih at h;cases hu:P.underlying t with
 | none=>rw[hu]at h;cases h
 | some d=>
   rw[hu]at h;unfold isAgg;simp only[DZ,BN hu,Result.andThen]
   cases d<;>simp only at h ⊢ <;>first
    | (cases h;exact⟨rfl,fun n e=>by cases e⟩)
    | (cases hs:EP P t with
       | none=>rw[hs]at h;cases h
       | some n=>rw[hs]at h;cases h;exact⟨rfl,fun n e=>by cases e;exact ER hs w⟩)
def T1 {g:Nat→Option Value} {b o n:Nat} {vs:List V} {H:Nat→Nat→Option Value} (hg: ∀i c,g i=some c→w.cell? ⟨b,i,none⟩=some c) (hv:Bb H g o vs) (hn:vs.length=n) :
    ∃cs:Array Value,(loadCells ⟨b,o,none⟩ n).run P w= .ok cs w∧cs.size=n∧Bb H (fun i=>cs[i]?) 0 vs:=by
 rw[Bm]at hv
 have hch: ∀i,i<n→ ∃c,g (o+i)=some c:=fun i hi=>by
  obtain⟨c,hc,_⟩:=hv i vs[i] (EN (by omega));exact⟨c,hc⟩
 let f:Nat→Value:=fun i=>(g (o+i)).getD undef
 refine⟨((List.range n).map f).toArray,?_,by simp,?_⟩
 ·rw[run_loadCells w _ n f (fun j hj=>by
   obtain⟨c,hc⟩:=hch j hj;rw[Cy,hg _ _ hc]
   simp[f,hc])]
 ·rw[Bm]
  intro i v hi;obtain⟨c,hc,hr⟩:=hv i v hi;have hlt:i<n:=by rw[←hn];exact(MK.1 hi).1
  refine⟨c,?_,hr⟩;simp[f,hc,hlt]
def Fc {t:TypeId} {agg:Option Nat} (Y:Ih P t=some agg) {g:Nat→Option Value} {b o off:Nat} {vs:List V} {H:Nat→Nat→Option Value} (hg: ∀i c,g i=some c→w.cell? ⟨b,i,none⟩=some c) (hv:Bb H g o vs)
    {K:V→Prop} (hk:cut agg vs off K): ∃v c,(loadVar t ⟨b,o+off,none⟩).run P w= .ok c w∧Ai H v c∧K v:=by
 obtain⟨h1,h2⟩:=Rg Y w;unfold loadVar;simp only[DZ,h1,Result.andThen];cases agg with
 | none=>
   simp only[cut]at hk;split at hk
   ·rename_i v hv'
    obtain⟨c,hc,hr⟩:=Bm.1 hv off v hv';refine⟨v,c,?_,hr,hk⟩;simp[hg _ _ hc]
   ·exact hk.elim
 | some n=>
   simp only[cut]at hk;obtain⟨cs,h3,h4,h5⟩:=T1 (P:=P) (n:=n) hg (RU (Jf hv off) n) (by simp;omega);refine⟨.a ((vs.drop off).take n),.agg cs,?_,⟨cs,rfl,by simp[h4];omega,h5⟩,hk.2⟩;simp[h2 n rfl,h3]
def Jo (G:Rel Λ σ w) {n:Nat} {vs:List V} (h:σ n=some (.cs vs)): ∃c e,w.heap[n]? =some (.cells c e (0,0))∧c.size=vs.length∧Bb (Hh Λ σ w) (fun i=>c[i]?) 0 vs:=by
 obtain⟨_,ob,h2,c,e,rfl,h4,h5⟩:=G.own n _ h;exact⟨c,e,h2,h4,h5⟩
def FA (G:Rel Λ σ w) {n sz cap:Nat} {es:List (List V)} (h:σ n=some (.arr sz es cap)): ∃c e,w.heap[n]? =some (.cells c e (0,0))∧cap*sz≤c.size∧es.length≤cap∧es.length≤Aj∧BM (Hh Λ σ w) (fun i=>c[i]?) sz 0 es:=by
 obtain⟨_,ob,h2,c,e,rfl,h4,h5⟩:=G.own n _ h;exact⟨c,e,h2,h4,h5⟩
def YS {t:TypeId} {agg:Option Nat} (Y:Ih P t=some agg) (G:Rel Λ σ w) {vx:V} {c:Value} (hx:Ai (Hh Λ σ w) vx c) (h:AX σ agg vx fun v=>k v σ) :
    Cj Λ σ w k kp ((Instr.loadAt t c).run P w):=by
 unfold Instr.loadAt;unfold AX at h;split at h
 ·rename_i cs
  obtain⟨b,o,rfl,hv⟩:=hx;obtain⟨v,c,h1,h2,h3⟩:=Fc (P:=P) (w:=w) (b:=b) (off:=0) Y (fun i c hc=>(GL hc).2.2) hv h;simp only[DZ,Instr.sureAddr,E2,Result.andThen,Nat.add_zero]at h1 ⊢;rw[h1];exact Ff G h2 h3
 ·rename_i n off
  simp only[Ai]at hx;subst hx;unfold Ou at h;split at h
  ·rename_i vs hs
   obtain⟨c,e,h1,h2,h3⟩:=Jo G hs;obtain⟨v,c',h4,h5,h6⟩:=Fc (P:=P) (w:=w) (b:=n) (off:=off) Y (fun i c hc=>by rw[Df h1];exact hc) h3 h;simp only[DZ,Instr.sureAddr,E2,Result.andThen,G7]at h4 ⊢;rw[h4];exact Ff G h5 h6
  ·exact h.elim
 ·rename_i n sz i off
  simp only[Ai]at hx;subst hx;unfold Ov at h;split at h
  ·rename_i sz' es cap hs
   obtain⟨rfl,h⟩:=h;split at h
   ·rename_i e he
    obtain⟨c,e',h1,_,_,_,h3⟩:=FA G hs;obtain⟨h7,h8⟩:=BJ.1 h3 i e he;obtain⟨v,c',h4,h5,h6⟩:=Fc (P:=P) (w:=w) (b:=n) (off:=off) Y (fun i c hc=>by rw[Df h1];exact hc) h8 h;simp only[DZ,Instr.sureAddr,E2,Result.andThen,G7]at h4 ⊢;rw[h4];exact Ff G h5 h6
   ·exact h.elim
  ·exact h.elim
 ·exact h.elim
def DC {H:Nat→Nat→Option Value} {v:V} {c:Value} (hv:Ai H v c) {vs:List V} (h:cellsOf v=some vs):c.cells.size=vs.length∧Bb H (fun i=>c.cells[i]?) 0 vs:=by
 cases v<;>simp only[cellsOf]at h<;>first
  | (cases h;done)
  | (cases h
     have hc:c.cells= #[c]:=by
      first
       | (simp only[Ai]at hv;subst hv;rfl)
       | (simp only[Ai]at hv;obtain⟨rfl,_⟩:=hv;rfl)
       | (simp only[Ai]at hv;obtain⟨_,rfl,_⟩:=hv;rfl)
       | (simp only[Ai]at hv;obtain⟨_,_,rfl,_⟩:=hv;rfl)
     rw[hc]
     exact⟨rfl,⟨c,rfl,hv⟩,trivial⟩)
  | skip
 rename_i cs;cases h;obtain⟨c',rfl,h2,h3⟩:=hv;exact⟨h2,h3⟩
def Pa {H:Nat→Nat→Option Value} {v:V} {c:Value} (hv:Ai H v c) (h:CO v=true):c.oneCell'=true:=by
 cases v<;>first
  | (simp[CO]at h;done)
  | (simp only[Ai]at hv;subst hv;rfl)
  | (simp only[Ai]at hv;obtain⟨rfl,_⟩:=hv;rfl)
  | (simp only[Ai]at hv;obtain⟨_,rfl,_⟩:=hv;rfl)
  | (simp only[Ai]at hv;obtain⟨_,_,rfl,_⟩:=hv;rfl)
def il {H:Nat→Nat→Option Value} {vs:List V} {c:Array Value} (hs:c.size=vs.length) (hv:Bb H (fun i=>c[i]?) 0 vs) (h:vs.all CO=true): ∀u∈c.toList,u.oneCell'=true:=by
 intro u hu;obtain⟨i,hi⟩:=List.mem_iff_getElem?.1 hu;have hlt:i<vs.length:=by rw[←hs];have:=(MK.1 hi).1;simpa using this
 obtain⟨d,hd,hr⟩:=Bm.1 hv i vs[i] (EN hlt);have:d=u:=by simp only[G7]at hd;rw[Array.getElem?_toList]at hi;rw[hi]at hd;cases hd;rfl
 subst this;exact Pa hr (Ev.1 h _ (List.getElem_mem hlt))
def FF: ∀(us cs:List V) (o:Nat),(putAt cs o us).length=cs.length
 | [],_,_=>rfl
 | u::us,cs,o=>by simp only[putAt];rw[FF us];simp
def iJ {H:Nat→Nat→Option Value} {c:Array Value} {vs:List V} {i:Nat} {v:V} {d:Value} (hs:c.size=vs.length) (h:Bb H (fun i=>c[i]?) 0 vs) (hv:Ai H v d) :
    Bb H (fun j=>(c.setIfInBounds i d)[j]?) 0 (vs.set i v):=by
 rw[Bm]at *;intro j u hu;simp only[G7]at h ⊢;rw[List.getElem?_set]at hu;split at hu
 ·rename_i e
  subst e;split at hu
  ·rename_i hlt
   cases hu;exact⟨d,by rw[Array.getElem?_setIfInBounds_self_of_lt (by omega)],hv⟩
  ·cases hu
 ·rename_i e
  obtain⟨c',h1,h2⟩:=h j u hu;exact⟨c',by rw[Array.getElem?_setIfInBounds_ne e];exact h1,h2⟩
def Lc {H:Nat→Nat→Option Value}: ∀ {us:List V} {ds:List Value} {c:Array Value} {vs:List V} {o:Nat},c.size=vs.length→Bb H (fun i=>c[i]?) 0 vs→ds.length=us.length→Bb H (fun i=>ds[i]?) 0 us→
    Bb H (fun i=>(DF c o ds)[i]?) 0 (putAt vs o us)
 | [],[],c,vs,o,_,h,_,_=>h
 | u::us,d::ds,c,vs,o,hs,h,hl,hu=>by
   simp only[DF,putAt];obtain⟨⟨d',hd,hr⟩,hu'⟩:=hu;have e:d'=d:=by simp at hd;exact hd.symm
   subst e;exact Lc (by simpa using hs) (iJ hs h hr) (by simpa using hl) (BH hu' (fun i _=>by rw[show 0+1+i=i+1 by omega];simp))
 | [],_::_,_,_,_,_,_,hl,_=>by simp at hl
 | _::_,[],_,_,_,_,_,hl,_=>by simp at hl
def DW: ∀(ds:List Value) (c:Array Value) (o i:Nat),(i<o∨o+ds.length≤i)→(DF c o ds)[i]? =c[i]?
 | [],_,_,_,_=>rfl
 | d::ds,c,o,i,h=>by
   simp only[DF];rw[DW ds _ _ _ (by simp at h;omega),Array.getElem?_setIfInBounds_ne (by simp at h;omega)]
def GQ: ∀(ds:List Value) (c:Array Value) (o i:Nat),i<ds.length→o+ds.length≤c.size→(DF c o ds)[o+i]? =ds[i]?
 | d ::ds,c,o,i,h,hs=>by
   simp only[DF];cases i with
   | zero=>
     simp at hs;rw[DW ds _ _ _ (by omega),Nat.add_zero,Array.getElem?_setIfInBounds_self_of_lt (by omega)];rfl
   | succ i=>
     rw[show o+(i+1)=o+1+i by omega,GQ ds _ _ i (by simpa using h) (by simp at hs ⊢;omega)];simp
 | [],_,_,_,h,_=>by simp at h
def Wm {t : TypeId} {sz:Nat} (hS:EP P t=some sz) (G:Rel Λ σ w) {va vx:V} {ca cx:Value} (ha:Ai (Hh Λ σ w) va ca) (hx:Ai (Hh Λ σ w) vx cx)
    (h:AU σ sz va vx fun σ'=>k (.t []) σ'): ∃σ' w',(Instr.storeAt t ca cx).run P w= .ok () w'∧k (.t []) σ'∧Rel Λ σ' w'∧B8 Λ σ w σ' w':=by
 unfold AU at h;split at h
 ·rename_i vc hc
  obtain⟨hlen,hone,h⟩:=h;obtain⟨hcs,hcv⟩:=DC hx hc;have h1s:=il hcs hcv hone;have hcv':Bb (Hh Λ σ w) (fun i=>cx.cells.toList[i]?) 0 vc:=BH hcv (fun i _=>by simp)
  have hrun: ∀n o,ca= .pointer (some ⟨n,o,none⟩)→(Instr.storeAt t ca cx).run P w=(storeCells ⟨n,o,none⟩ cx.cells.toList).run P w:=by
   rintro n o rfl;have:cx.cells.size=sz:=by omega
   simp[Instr.storeAt,Instr.sureAddr,storeVar,ER hS,this]
  split at h
  ·rename_i n off
   split at h
   ·rename_i vs hs
    obtain⟨hle,hk⟩:=h;simp only[Ai]at ha;obtain⟨c,e,h1,h2,h3⟩:=Jo G hs;refine⟨_,Cb w n (.cells (DF c off cx.cells.toList) e (0,0)),?_,hk,?_,G3 hs _ _⟩
    ·rw[hrun n off ha,Cz cx.cells.toList w c off 0 h1 (by simp;omega) h1s]
     rfl
    ·exact JV G hs ⟨_,e,rfl,by rw[D8,FF];exact h2,Lc h2 h3 (by simp;omega) hcv'⟩
   ·exact h.elim
  ·rename_i n s i off
   split at h
   ·rename_i s' es cap hs
    obtain⟨rfl,h⟩:=h;split at h
    ·rename_i e he
     obtain⟨hle,hk⟩:=h;simp only[Ai]at ha;obtain⟨c,et,h1,h2,h3,h4,h5⟩:=FA G hs;obtain⟨h6,h7⟩:=BJ.1 h5 i e he;have hi:i<es.length:=(MK.1 he).1
     have hb:i*s+s≤c.size:=by
      rw[←Nat.succ_mul];exact Nat.le_trans (UN _ (by omega)) h2
     refine⟨_,Cb w n (.cells (DF c (i*s+off) cx.cells.toList) et (0,0)),?_,hk,?_,G3 hs _ _⟩
     ·rw[hrun n _ ha,Cz cx.cells.toList w c _ 0 h1 (by simp;omega) h1s]
      rfl
     ·refine JV G hs ⟨_,et,rfl,by rw[D8];exact h2,by simpa using h3,by simpa using h4,?_⟩
      rw[BJ];intro j u hu;rw[List.getElem?_set]at hu;split at hu
      ·rename_i ej
       subst ej;cases hu;refine⟨by rw[FF];exact h6,?_⟩
       have hrow:Bb (Hh Λ σ w) (fun q=>(c.extract (i*s) (i*s+s))[q]?) 0 e:=by
        refine BH h7 (fun q hq=>?_);simp only[G7];rw[Array.getElem?_extract_of_lt (by omega)];exact(Array.getElem?_eq_getElem (by omega)).symm
       have:=Lc (o:=off) (by simp;omega) hrow (by simp;omega) hcv';refine BH this (fun q hq=>?_);rw[FF]at hq;simp only[G7];by_cases hin:off≤q∧q<off+cx.cells.toList.length
       ·obtain⟨r,rfl⟩: ∃r,q=off+r:=⟨q - off,by omega⟩
        rw[show i*s+(off+r)=i*s+off+r by omega,GQ _ _ _ _ (by omega) (by simp;omega),GQ _ _ _ _ (by omega) (by simp;omega)]
       ·rw[DW _ _ _ _ (by omega),DW _ _ _ _ (by omega),Array.getElem?_extract_of_lt (by omega)]
        exact Array.getElem?_eq_getElem (by omega)
      ·rename_i ej
       obtain⟨h8,h9⟩:=BJ.1 h5 j u hu;refine⟨h8,BH h9 (fun q hq=>?_)⟩;rw[DW];rcases Nat.lt_or_ge j i with hji|hji
       ·left
        have:(j+1)*s≤i*s:=UN _ hji;rw[Nat.succ_mul]at this;omega
       ·right
        have:(i+1)*s≤j*s:=UN _ (by omega);rw[Nat.succ_mul]at this;simp;omega
    ·exact h.elim
   ·exact h.elim
  ·exact h.elim
 ·exact h.elim
end Go.Gl
namespace Go.Gl
variable {P:Program} {Λ:Nat→Prop} {σ:AH} {w:World} {k kp:V→AH→Prop}
def R4 (G:Rel Λ σ w) {cells:Array Value} {e:TypeId} {cs:List V} (hs:cells.size=cs.length) (hv:Bb (Hh Λ σ w) (fun i=>cells[i]?) 0 cs)
    (h: ∀n,σ n=none→k (.p n 0) (A5 σ n (.cs cs))):Cj Λ σ w k kp ((do pure (.pointer (some (←newRow e cells))):Sem Value).run P w):=by
 simp only[newRow,DZ,run_newObj,E2,Result.andThen,World.alloc_eq];exact⟨.p w.heap.size 0,_,h _ G.new,rfl,Hl G ⟨cells,e,rfl,hs,hv⟩,EF _ _⟩
def cZ (e:TypeId) (G:Rel Λ σ w) {vx:V} {c:Value} (hx:Ai (Hh Λ σ w) vx c) {cs:List V} (hc:cellsOf vx=some cs) (h: ∀n,σ n=none→k (.p n 0) (A5 σ n (.cs cs))) :
    Cj Λ σ w k kp ((Instr.box e c).run P w):=by
 obtain⟨h1,h2⟩:=DC hx hc;exact R4 G h1 h2 h
def Gj {z:Option V} {cs:List V} (h:Kb z=some cs): ∃v,z=some v∧cellsOf v=some cs:=by
 cases z with
 | none=>cases h
 | some v=>cases v<;>first|(cases h;done)|(cases h;exact⟨_,rfl,rfl⟩)
def Wr {e:TypeId} {z:List V} (hz:Kb (zeroOf P e)=some z) (G:Rel Λ σ w) (h: ∀n,σ n=none→k (.p n 0) (A5 σ n (.cs z))) :
    Cj Λ σ w k kp ((Instr.alloc e true (.tuple #[])).run P w):=by
 obtain⟨v,h1,h2⟩:=Gj hz;obtain⟨c,h3,h4⟩:=Ef h1 w;obtain⟨h5,h6⟩:=DC (Gz (H:=Hh Λ σ w) h4) h2;have:=R4 (P:=P) (kp:=kp) (e:=e) G h5 h6 h;unfold Instr.alloc;simp only[DZ,h3,Result.andThen]at this ⊢;simpa[newVar,newRow]using this
def Wq {s:TypeId} {fields:Array Field} {f:Nat} {fd:Field} {sz:Nat} (hu:P.underlying s=some (.struct fields)) (hf:fields[f]? =some fd) (hs:EP P fd.type=some sz) (h0:sz≠0)
    (G:Rel Λ σ w) {vx:V} {c:Value} (hx:Ai (Hh Λ σ w) vx c) (h:KW fd.offset vx fun v=>k v σ):Cj Λ σ w k kp ((Instr.fieldAt s c f).run P w):=by
 have hrun: ∀b o,c= .pointer (some ⟨b,o,none⟩)→(Instr.fieldAt s c f).run P w= .ok (.pointer (some ⟨b,o+fd.offset,none⟩)) w:=by
  rintro b o rfl;simp[Instr.fieldAt,BN hu,hf,Instr.sureAddr,fieldPlace,ER hs,h0,Cy]
 unfold KW at h;split at h
 ·obtain⟨b,o,hc,hv⟩:=hx
  rw[hrun b o hc];exact Ay G h ⟨b,_,rfl,Jf hv _⟩
 ·rw[hrun _ _ hx]
  exact Ay G h rfl
 ·simp only[Ai]at hx
  rw[hrun _ _ hx,Nat.add_assoc];exact Ay G h rfl
 ·exact h.elim
def Zd {t:TypeId} {agg:Option Nat} (Y:Ih P t=some agg) {H:Nat→Nat→Option Value} {c:Array Value} {off:Nat} {vs:List V} (hs:c.size=vs.length) (hv:Bb H (fun i=>c[i]?) 0 vs)
    {K:V→Prop} (hk:cut agg vs off K) (w:World): ∃v d,(part t c off).run P w= .ok d w∧Ai H v d∧K v:=by
 obtain⟨h1,h2⟩:=Rg Y w;unfold part;simp only[DZ,h1,Result.andThen];cases agg with
 | none=>
   simp only[cut]at hk;split at hk
   ·rename_i v hv'
    obtain⟨d,hd,hr⟩:=Bm.1 hv off v hv';refine⟨v,d,?_,hr,hk⟩;simp only[G7]at hd;simp[hd]
   ·exact hk.elim
 | some n=>
   simp only[cut]at hk;refine⟨.a ((vs.drop off).take n),.agg (c.extract off (off+n)),by simp[h2 n rfl],⟨_,rfl,by simp;omega,?_⟩,hk.2⟩;refine BH (RU (Jf hv off) n) (fun i hi=>?_);simp at hi;rw[Array.getElem?_extract_of_lt (by omega)];rw[show 0+off+i=off+(0+i) by omega];exact(Array.getElem?_eq_getElem (by omega)).symm
def Wp {s:TypeId} {fields:Array Field} {f:Nat} {fd:Field} {agg:Option Nat} (hu:P.underlying s=some (.struct fields)) (hf:fields[f]? =some fd) (Y:Ih P fd.type=some agg)
    (G:Rel Λ σ w) {cs:List V} {c:Value} (hx:Ai (Hh Λ σ w) (.a cs) c) (h:cut agg cs fd.offset fun v=>k v σ):Cj Λ σ w k kp ((Instr.field s c f).run P w):=by
 obtain⟨c',rfl,h1,h2⟩:=hx;obtain⟨v,d,h3,h4,h5⟩:=Zd Y h1 h2 h w;simp only[Instr.field,DZ,BN hu,Result.andThen,hf,asAgg,E2,h3];exact Ff G h4 h5
def Wo {t e:TypeId} {len sz:Nat} {agg:Option Nat} (hu:P.underlying t=some (.array len e)) (hs:EP P e=some sz) (Y:Ih P e=some agg)
    (G:Rel Λ σ w) {vx vi:V} {cx ci:Value} (hx:Ai (Hh Λ σ w) vx cx) (hi:Ai (Hh Λ σ w) vi ci) (h:KV len sz agg vx vi fun v=>k v σ):Cj Λ σ w k kp ((Instr.index t cx ci).run P w):=by
 unfold KV at h;split at h
 ·rename_i cs ki j
  obtain⟨h0,h1,h⟩:=h;obtain⟨c',rfl,h2,h3⟩:=hx;obtain⟨rfl,_⟩:=hi;obtain⟨v,d,h4,h5,h6⟩:=Zd Y h2 h3 h w;simp only[Instr.index,DZ,asIntOf,E2,Result.andThen,BN hu,h0,h1,and_self,if_true,ER hs,h4];exact Ff G h5 h6
 ·exact h.elim
def run_indexAt_slice {t e:TypeId} {sz:Nat} (hu:P.underlying t=some (.slice e)) (hs:EP P e=some sz) {b o:Nat} {n cap:Nat} {j:Int} {ki:IntKind} (h0:0≤j) (h1:j<n) :
    (Instr.indexAt t (.slice (some ⟨b,o,none⟩) n cap) (.int ki j)).run P w= .ok (.pointer (some ⟨b,o+j.toNat*sz,none⟩)) w:=by
 simp[Instr.indexAt,asIntOf,BN hu,h0,h1,ER hs,Cy]
def run_indexAt_array {t e:TypeId} {sz m:Nat} (hu:P.underlying t=some (.array m e)) (hs:EP P e=some sz) {b o:Nat} {j:Int} {ki:IntKind} (h0:0≤j) (h1:j<m) :
    (Instr.indexAt t (.pointer (some ⟨b,o,none⟩)) (.int ki j)).run P w= .ok (.pointer (some ⟨b,o+j.toNat*sz,none⟩)) w:=by
 simp[Instr.indexAt,asIntOf,BN hu,h0,h1,ER hs,Cy,Instr.sureAddr]
def MF {t e:TypeId} {sz:Nat} (hu:P.underlying t=some (.slice e)) (hs:EP P e=some sz)
    (G:Rel Λ σ w) {vx vi:V} {cx ci:Value} (hx:Ai (Hh Λ σ w) vx cx) (hi:Ai (Hh Λ σ w) vi ci) (h:AT sz none vx vi fun v=>k v σ):Cj Λ σ w k kp ((Instr.indexAt t cx ci).run P w):=by
 cases vi<;>simp only[AT]at h
 rename_i ki j;obtain⟨rfl,_⟩:=hi;cases vx<;>simp only at h
 ·rename_i es full
  obtain⟨h0,e',he,hl,h⟩:=h;obtain⟨a,cap,rfl,_,_,_,_,h6⟩:=hx;have hlt:=(MK.1 he).1;obtain⟨b,o,s,rfl,h7⟩:=h6 (by rintro rfl;simp at he);obtain⟨h8,h9⟩:=BJ.1 h7 _ _ he;have:s=sz:=by omega
  subst this;rw[run_indexAt_slice hu hs h0 (by omega)];exact Ay G h ⟨b,_,rfl,h9⟩
 ·rename_i n len cap
  obtain⟨h0,h1,h⟩:=h;obtain⟨rfl,_⟩:=hx;rw[run_indexAt_slice hu hs h0 h1];exact Ay G h (by simp[Ai])
 ·rename_i n s off len
  obtain⟨rfl,h0,h1,h⟩:=h;obtain⟨a,cap,rfl,_,h3⟩:=hx;obtain rfl:=h3 (by omega);rw[run_indexAt_slice hu hs h0 h1];exact Ay G h (by simp[Ai,Nat.add_mul])
def MG {t e:TypeId} {sz m:Nat} (hu:P.underlying t=some (.array m e)) (hs:EP P e=some sz)
    (G:Rel Λ σ w) {vx vi:V} {cx ci:Value} (hx:Ai (Hh Λ σ w) vx cx) (hi:Ai (Hh Λ σ w) vi ci) (h:AT sz (some m) vx vi fun v=>k v σ):Cj Λ σ w k kp ((Instr.indexAt t cx ci).run P w):=by
 cases vi<;>simp only[AT]at h
 rename_i ki j;obtain⟨rfl,_⟩:=hi;cases vx<;>simp only at h
 ·rename_i n o
  obtain⟨h0,h1,h⟩:=h;simp only[Ai]at hx;subst hx;rw[run_indexAt_array hu hs h0 h1];exact Ay G h rfl
 ·rename_i cs
  obtain⟨h0,h1,h⟩:=h;obtain⟨b,o,rfl,hv⟩:=hx;rw[run_indexAt_array hu hs h0 h1];exact Ay G h ⟨b,_,rfl,Jf hv _⟩
 ·rename_i n s q o
  obtain⟨h0,h1,h⟩:=h;simp only[Ai]at hx;subst hx;rw[run_indexAt_array hu hs h0 h1,Nat.add_assoc];exact Ay G h rfl
end Go.Gl
