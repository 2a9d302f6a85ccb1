import Derived.OrdersIn
import Derived.Below
import Derived.Laws.Cells
import Derived.Laws.Rows
import Derived.Laws.World
import Derived.Laws.Slices
import Derived.Laws.Build
import Derived.WideShapes4
import Derived.OpenShut
import Derived.Laws.AppendOwn
import Derived.Laws.Tables
import Derived.Great.BuildSlice
import Derived.Laws.MakeOwn
import Derived.ChangeKeysEq
import Derived.Laws.StructEq
import Derived.Laws.BytesArg
set_option linter.all false
set_option linter.defProp false
set_option maxHeartbeats 8000000
noncomputable section
namespace Go.Gl
def kZ {n m:Nat} (h:Nat.ble n m=true:=by exact rfl):n<=m:=Nat.le_of_ble_eq_true h
abbrev Cs:=@List.getElem?_eq_getElem
abbrev Bp:=@List.mem_of_getElem?
abbrev B9:=@List.length_map
abbrev C6:=@List.getD_eq_getElem?_getD
abbrev Cp:=@decide_eq_true_eq
abbrev A9:=@Bool.and_eq_true
abbrev Jm:=@List.getElem?_map
abbrev JM:=@Option.some.injEq
abbrev Pk:=@List.mem_append_left
abbrev Ov:=@List.mem_append_right
abbrev cz:=@List.getElem?_append_left
abbrev Dy:=@List.mem_append
abbrev EG:=@List.all_eq_true
abbrev ME:=@Bool.false_eq_true
abbrev Nl:=@List.length_append
abbrev LF:=@List.length_cons
abbrev Il:=@List.mem_map
abbrev Ya:=@Option.map_some
abbrev sr:=@List.getElem?_cons_zero
abbrev zi:=@List.getElem?_cons_succ
abbrev sm:=@Array.getElem?_eq_some_iff
abbrev zf:=@List.map_map
abbrev sj:=@List.length_drop
abbrev Jl:=@List.length_take
abbrev zZ:=@List.getElem?_drop
abbrev GM:=@List.mem_cons
abbrev PR:=@List.append_assoc
abbrev Ik:=@List.mem_filter
abbrev zrH:=@Bool.and_eq_true_iff
abbrev C0:=@beq_iff_eq
abbrev zrJ:=@bne_iff_ne
abbrev DU:=@Sem.run_bind
abbrev FF:=@Sem.run_pure
abbrev G9:=@Result.andThen_ok
abbrev JL:=@List.getElem?_eq_some_iff
abbrev FA:=@List.map_cons
abbrev E9:=@Bool.or_eq_true
abbrev K6:=@List.sublist_cons_self
abbrev Fi:=@Int.toNat_natCast
abbrev Ez:=@List.append_nil
abbrev HG:=@Nat.zero_add
abbrev JK:=@Bool.eq_iff_iff
abbrev Ds:=@Bool.true_and
abbrev Ou:=@List.length_filter_le
abbrev Vs:=@Nat.eq_of_beq_eq_true
abbrev Vr:=@Nat.mul_le_mul_right
abbrev Ij:=@List.any_eq_true
abbrev Jf:=@List.nil_sublist
abbrev Hz:=@Nat.le_refl
abbrev YW:=@List.length_eq_zero_iff
abbrev KV:=@List.mem_singleton
abbrev Nk:=@List.perm_append_comm
abbrev K5:=@List.all_cons
abbrev SU:=@List.map_append
abbrev Pj:=@List.any_cons
end Go.Gl
namespace Go.Gl
def Aa:Nat:=17592186044416
inductive V where
 | b (x:Bool)
 | i (k:IntKind) (n:Int)
 | s (x:ByteArray)
 | pn
 | p (n off:Nat)
 | rp (cs:List V)
 | l (es:List (List V)) (full:Bool)
 | sl (n len cap:Nat)
 | sv (n sz off len:Nat)
 | pe (n sz i off:Nat)
 | m (n:Nat)
 | mn
 | f (fn:Fn) (first cap:List V)
 | MK
 | FV (t:TypeId) (v:V)
 | D0
 | a (cs:List V)
 | t (vs:List V)
 | any
 deriving Inhabited
mutual
def Ah (H:Nat->Nat->Option Value):V->Value->Prop
 | .b x,c=>c= .bool x
 | .i k n,c=>c= .int k n/\k.min<=n/\n<=k.max
 | .s x,c=>c= .string x
 | .pn,c=>c= .pointer none
 | .p n off,c=>c= .pointer (some ⟨n,off,none⟩)
 | .rp cs,c=> ∃b o,c= .pointer (some ⟨b,o,none⟩)/\Ba H (H b) o cs
 | .l es full,c=> ∃a cap,c= .slice a es.length cap/\es.length<=cap/\(full=true->cap=es.length)/\es.length<=Aa/\(a=none->cap=0)/\
  (es≠[]-> ∃b o sz,a=some ⟨b,o,none⟩/\BJ H (H b) sz o es)
 | .sl n len cap,c=>c= .slice (some ⟨n,0,none⟩) len cap/\len<=cap
 | .sv n sz off len,c=> ∃a cap,c= .slice a len cap/\len<=cap/\(len≠0->a=some ⟨n,off*sz,none⟩)
 | .pe n sz i off,c=>c= .pointer (some ⟨n,i*sz+off,none⟩)
 | .m n,c=>c= .map (some n)
 | .mn,c=>c= .map none
 | .f fn first cap,c=> ∃f' c',c= .func fn f' c'/\f'.size=first.length/\Ba H (fun i=>f'[i]?) 0 first/\c'.size=cap.length/\Ba H (fun i=>c'[i]?) 0 cap
 | .MK,c=>c= .nilFunc
 | .FV t v,c=> ∃c',c= .iface t c'/\Ah H v c'
 | .D0,c=>c= .nilIface
 | .a cs,c=> ∃c',c= .agg c'/\c'.size=cs.length/\Ba H (fun i=>c'[i]?) 0 cs
 | .t vs,c=> ∃c',c= .tuple c'/\c'.size=vs.length/\Ba H (fun i=>c'[i]?) 0 vs
 | .any,_=>True
def Ba (H:Nat->Nat->Option Value) (g:Nat->Option Value):Nat->List V->Prop
 | _,[]=>True
 | o,v::vs=>(∃c,g o=some c/\Ah H v c)/\Ba H g (o+1) vs
def BJ (H:Nat->Nat->Option Value) (g:Nat->Option Value) (sz:Nat):Nat->List (List V)->Prop
 | _,[]=>True
 | o,e::es=>e.length=sz/\Ba H g o e/\BJ H g sz (o+sz) es
end
inductive s9 where
 | ready
 | ret
 | exit (id:Nat)
inductive O where
 | cs (vs:List V)
 | arr (sz:Nat) (es:List (List V)) (cap:Nat)
 | map (kvs:List (V×V))
 | loop (st:s9) (env:List (Nat×V)) (ok:FuncId->Array Tmp->Code->Code->Nat->Prop)
 deriving Inhabited
def tG:s9->Loop->Prop
 | .ready,lp=>lp.state= .ready/\lp.pending=none
 | .ret,lp=>lp.state= .done/\lp.pending=some .ret
 | .exit id,lp=>lp.state= .done/\lp.pending=some (.exit id)
def GA (H:Nat->Nat->Option Value):List (V×V)->List MapEntry->Prop
 | [],[]=>True
 | (k,v)::r,e::es=>Ah H k e.key/\Ah H v e.val/\GA H r es
 | _,_=>False
def QT (H:Nat->Nat->Option Value):O->Obj->Prop
 | .cs vs,o=> ∃c e,o= .cells c e (0,0)/\c.size=vs.length/\Ba H (fun i=>c[i]?) 0 vs
 | .arr sz es cap,o=> ∃c e,o= .cells c e (0,0)/\cap*sz<=c.size/\es.length<=cap/\es.length<=Aa/\BJ H (fun i=>c[i]?) sz 0 es
 | .map kvs,o=> ∃es clk,o= .map es clk/\GA H kvs es.toList/\es.toList.Pairwise (fun a b=>a.key≠b.key)
 | .loop st env ok,o=> ∃lp,o= .loop lp/\tG st lp/\(∀k v,(k,v)∈env-> ∃c,lp.tmps[k]? =some c/\Ah H v c)/\ok lp.fn lp.params lp.assign lp.body lp.tmps.size
abbrev AE:=Nat->Option O
def Hh (F:Nat->Prop) (Z:AE) (w:World) (b o:Nat):Option Value:=
 open Classical in if F b\/(Z b).isSome=true then none else w.cell? ⟨b,o,none⟩
structure Rel (F:Nat->Prop) (Z:AE) (w:World):Prop where
 own: ∀n o,Z n=some o-> ¬F n/\ ∃ob,w.heap[n]? =some ob/\QT (Hh F Z w) o ob
 lock: ∀n,F n->n<w.heap.size
structure CD (F:Nat->Prop) (Z:AE) (w:World) (Z':AE) (w':World):Prop where
 frame: ∀n,n<w.heap.size->Z n=none->w'.heap[n]? =w.heap[n]?
 size:w.heap.size<=w'.heap.size
 os:w'.os=w.os
 tape:w'.tape=w.tape
 output:w'.output=w.output
 names: ∀n,Z n=none->n<w.heap.size->Z' n=none
def CD.refl (F:Nat->Prop) (Z:AE) (w:World):CD F Z w Z w:=
 ⟨fun _ _ _=>rfl,Hz _,rfl,rfl,rfl,fun _ h _=>h⟩
def CD.trans {F:Nat->Prop} {Z Z' Z'':AE} {w w' w'':World} (h:CD F Z w Z' w') (k:CD F Z' w' Z'' w''):CD F Z w Z'' w'' where
 frame n hn h0:=(k.frame n (Nat.lt_of_lt_of_le hn h.size) (h.names n h0 hn)).trans (h.frame n hn h0)
 size:=Nat.le_trans h.size k.size
 os:=k.os.trans h.os
 tape:=k.tape.trans h.tape
 output:=k.output.trans h.output
 names n h0 hn:=k.names n (h.names n h0 hn) (Nat.lt_of_lt_of_le hn h.size)
def aH (H H':Nat->Nat->Option Value):Prop:= ∀b o c,H b o=some c->H' b o=some c
mutual
def Ah.mono {H H':Nat->Nat->Option Value} (hle:aH H H'): ∀(v:V) (c:Value),Ah H v c->Ah H' v c
 | .b _,_,h| .i _ _,_,h| .s _,_,h| .pn,_,h| .p _ _,_,h| .sl _ _ _,_,h| .sv _ _ _ _,_,h| .pe _ _ _ _,_,h| .m _,_,h| .mn,_,h| .MK,_,h| .D0,_,h| .any,_,h=>by
   simp only[Ah]at h ⊢
   try exact h
 | .rp cs,_,h=>by
   simp only[Ah]at h ⊢;obtain⟨b,o,rfl,h⟩:=h;exact⟨b,o,rfl,Ba.mono hle (fun i c e=>hle b i c e) cs o h⟩
 | .l es full,_,h=>by
   simp only[Ah]at h ⊢;obtain⟨a,cap,h1,h2,h3,h4,h5,h6⟩:=h;refine⟨a,cap,h1,h2,h3,h4,h5,fun hne=>?_⟩;obtain⟨b,o,sz,h7,h8⟩:=h6 hne;exact⟨b,o,sz,h7,BJ.mono hle (fun i c e=>hle b i c e) sz es o h8⟩
 | .f fn first cap,_,h=>by
   simp only[Ah]at h ⊢;obtain⟨f',c',h1,h2,h3,h4,h5⟩:=h;exact⟨f',c',h1,h2,Ba.mono hle (fun _ _ e=>e) first 0 h3,h4,Ba.mono hle (fun _ _ e=>e) cap 0 h5⟩
 | .FV t v,_,h=>by
   simp only[Ah]at h ⊢;obtain⟨c',h1,h2⟩:=h;exact⟨c',h1,Ah.mono hle v c' h2⟩
 | .a cs,_,h=>by
   simp only[Ah]at h ⊢;obtain⟨c',h1,h2,h3⟩:=h;exact⟨c',h1,h2,Ba.mono hle (fun _ _ e=>e) cs 0 h3⟩
 | .t cs,_,h=>by
   simp only[Ah]at h ⊢;obtain⟨c',h1,h2,h3⟩:=h;exact⟨c',h1,h2,Ba.mono hle (fun _ _ e=>e) cs 0 h3⟩
def Ba.mono {H H':Nat->Nat->Option Value} (hle:aH H H') {g g':Nat->Option Value} (hg: ∀i c,g i=some c->g' i=some c) :
    ∀(vs:List V) (o:Nat),Ba H g o vs->Ba H' g' o vs
 | [],_,_=>trivial
 | v::vs,o,h=>by
   simp only[Ba]at h ⊢;obtain⟨⟨c,h1,h2⟩,h3⟩:=h;exact⟨⟨c,hg _ _ h1,Ah.mono hle v c h2⟩,Ba.mono hle hg vs (o+1) h3⟩
def BJ.mono {H H':Nat->Nat->Option Value} (hle:aH H H') {g g':Nat->Option Value} (hg: ∀i c,g i=some c->g' i=some c) (sz:Nat) :
    ∀(es:List (List V)) (o:Nat),BJ H g sz o es->BJ H' g' sz o es
 | [],_,_=>trivial
 | e::es,o,h=>by
   simp only[BJ]at h ⊢;obtain⟨h1,h2,h3⟩:=h;exact⟨h1,Ba.mono hle hg e o h2,BJ.mono hle hg sz es (o+sz) h3⟩
end
def GA.mono {H H':Nat->Nat->Option Value} (hle:aH H H'): ∀(r:List (V×V)) (es:List MapEntry),GA H r es->GA H' r es
 | [],[],_=>trivial
 | (k,v)::r,e::es,h=>by
   simp only[GA]at h ⊢;exact⟨Ah.mono hle _ _ h.1,Ah.mono hle _ _ h.2.1,GA.mono hle r es h.2.2⟩
 | [],_::_,h=>h.elim
 | _::_,[],h=>h.elim
def QT.mono {H H':Nat->Nat->Option Value} (hle:aH H H') {o:O} {ob:Obj} (h:QT H o ob):QT H' o ob:=by
 cases o with
 | cs vs=>obtain⟨c,e,h1,h2,h3⟩:=h;exact⟨c,e,h1,h2,Ba.mono hle (fun _ _ e=>e) _ _ h3⟩
 | arr sz es cap=>obtain⟨c,e,h1,h2,h3,h4,h5⟩:=h;exact⟨c,e,h1,h2,h3,h4,BJ.mono hle (fun _ _ e=>e) _ _ _ h5⟩
 | map kvs=>obtain⟨es,clk,h1,h2,h3⟩:=h;exact⟨es,clk,h1,GA.mono hle _ _ h2,h3⟩
 | loop st env ok=>obtain⟨lp,h1,h2,h3,h4⟩:=h;exact⟨lp,h1,h2,fun k v hm=>let⟨c,h5,h6⟩:=h3 k v hm;⟨c,h5,h6.mono hle⟩,h4⟩
def Ga {F:Nat->Prop} {Z:AE} {w:World} {b o:Nat} {c:Value} (h:Hh F Z w b o=some c) :
    ¬F b/\Z b=none/\w.cell? ⟨b,o,none⟩=some c:=by
 unfold Hh at h;split at h
 .cases h
 .rename_i hn
  refine⟨fun hl=>hn (.inl hl),?_,h⟩;cases hs:Z b with
  | none=>rfl
  | some o=>exact absurd (.inr (by simp[hs])) hn
def O6 {F:Nat->Prop} {Z:AE} {w:World} {b o:Nat} (h1: ¬F b) (h2:Z b=none):Hh F Z w b o=w.cell? ⟨b,o,none⟩:=by
 unfold Hh;rw[if_neg];simp[h1,h2]
def rA {w:World} {b o:Nat} {c:Value} (h:w.cell? ⟨b,o,none⟩=some c):b<w.heap.size:=by
 unfold World.cell? at h;rcases Nat.lt_or_ge b w.heap.size with h'|h'
 .exact h'
 .simp[Array.getElem?_eq_none h']at h
def CD.hle {F:Nat->Prop} {Z Z':AE} {w w':World} (h:CD F Z w Z' w'):aH (Hh F Z w) (Hh F Z' w'):=by
 intro b o c hc;obtain⟨h1,h2,h3⟩:=Ga hc;have hb:=rA h3;rw[O6 h1 (h.names b h2 hb),World.cell?_of_block (w:=w) (h.frame b hb h2)];exact h3
def FP {F:Nat->Prop} {Z Z':AE} {w:World} (hs: ∀n,Z n=none->Z' n=none):aH (Hh F Z w) (Hh F Z' w):=by
 intro b o c hc;obtain⟨h1,h2,h3⟩:=Ga hc;rw[O6 h1 (hs b h2)];exact h3
def Sub (Z' Z:AE):Prop:= ∀n o,Z' n=some o->Z n=some o
def Sub.none {Z' Z:AE} (h:Sub Z' Z) {n:Nat} (hn:Z n=none):Z' n=none:=by
 cases h':Z' n with
 | none=>rfl
 | some o=>rw[h n o h']at hn;cases hn
def Sub.refl (Z:AE):Sub Z Z:=fun _ _ h=>h
def Sub.trans {a b c:AE} (h:Sub a b) (k:Sub b c):Sub a c:=fun n o e=>k n o (h n o e)
def Rel.drop {F:Nat->Prop} {Z Z':AE} {w:World} (h:Rel F Z w) (hs:Sub Z' Z):Rel F Z' w where
 own n o ho:=by
  obtain⟨h1,ob,h2,h3⟩:=h.own n o (hs n o ho);exact⟨h1,ob,h2,QT.mono (FP fun n hn=>hs.none hn) h3⟩
 lock:=h.lock
def CD.drop {F:Nat->Prop} {Z Z':AE} (w:World) (hs:Sub Z' Z):CD F Z w Z' w:=
 ⟨fun _ _ _=>rfl,Hz _,rfl,rfl,rfl,fun _ hn _=>hs.none hn⟩
end Go.Gl
namespace Go.Gl
abbrev Env:=List (Nat×V)
def get (k:Nat):Env->Option V
 | []=>none
 | (j,v)::r=>bif Nat.beq j k then some v else get k r
inductive Bq where
 | t (n:Nat)
 | c (v:V)
 deriving Inhabited
def ev (env:Env):Bq->Option V
 | .t n=>get n env
 | .c v=>some v
def Vu (env:Env):List Bq->Option (List V)
 | []=>some []
 | x::r=>match ev env x,Vu env r with
   | some v,some vs=>some (v::vs)
   | _,_=>none
def B7 (Z:AE) (n:Nat) (o:O):AE:=fun k=>if k=n then some o else Z k
def del (Z:AE) (n:Nat):AE:=fun k=>if k=n then none else Z k
mutual
inductive F3 (Z Z':AE):V->V->Prop
 | refl (v:V):F3 Z Z' v v
 | arr {n sz cap len:Nat} {es es':List (List V)}:Z n=some (.arr sz es cap)->Z' n=none->len=es.length->Fa Z Z' es es'->F3 Z Z' (.sl n len cap) (.l es' false)
 | cs {n:Nat} {vs vs':List V}:Z n=some (.cs vs)->Z' n=none->DW Z Z' vs vs'->F3 Z Z' (.p n 0) (.rp vs')
 | a {vs vs':List V}:DW Z Z' vs vs'->F3 Z Z' (.a vs) (.a vs')
 | t {vs vs':List V}:DW Z Z' vs vs'->F3 Z Z' (.t vs) (.t vs')
 | FV {t:TypeId} {v v':V}:F3 Z Z' v v'->F3 Z Z' (.FV t v) (.FV t v')
 | l {es es':List (List V)} {f f':Bool}:(f'=true->f=true)->Fa Z Z' es es'->F3 Z Z' (.l es f) (.l es' f')
 | rp {vs vs':List V}:DW Z Z' vs vs'->F3 Z Z' (.rp vs) (.rp vs')
 | f {fn:Fn} {a a' b b':List V}:DW Z Z' a a'->DW Z Z' b b'->F3 Z Z' (.f fn a b) (.f fn a' b')
 | any {v:V}:F3 Z Z' v .any
inductive DW (Z Z':AE):List V->List V->Prop
 | nil:DW Z Z' [] []
 | cons {v v':V} {vs vs':List V}:F3 Z Z' v v'->DW Z Z' vs vs'->DW Z Z' (v::vs) (v'::vs')
inductive Fa (Z Z':AE):List (List V)->List (List V)->Prop
 | nil:Fa Z Z' [] []
 | cons {v v':List V} {vs vs':List (List V)}:DW Z Z' v v'->Fa Z Z' vs vs'->Fa Z Z' (v::vs) (v'::vs')
end
inductive KS where
 | i (k:IntKind)
 | a (l:List IntKind)
 | s
 deriving Inhabited
inductive GO where
 | mv (x:Bq)
 | nf (x:Bq)
 | pick (c a b:Bq)
 | bin (op:BinOp) (x y:Bq)
 | nk (neg:Bool) (x y:Bq)
 | nj (len:Nat) (neg:Bool) (x y:Bq)
 | gK (kind:Nat) (neg:Bool) (x:Bq)
 | not (x:Bq)
 | neg (xor:Bool) (x:Bq)
 | conv(k:IntKind) (x:Bq)
 | box (x:Bq)
 | Pa (x:Bq)
 | Sl (sz bytes:Nat) (x y:Bq)
 | alloc (zero:List V)
 | build (zero:List V) (parts:List (Nat×Nat×Bq))
 | Hs (sz len:Nat) (zero:List V) (parts:List (Nat×Bq))
 | load (agg:Option Nat) (x:Bq)
 | store (sz:Nat) (a x:Bq)
 | GS (off:Nat) (x:Bq)
 | field (agg:Option Nat) (off:Nat) (x:Bq)
 | MQ (sz:Nat) (arr:Option Nat) (x i:Bq)
 | index (len sz:Nat) (agg:Option Nat) (x i:Bq)
 | slice (sz:Nat) (x:Bq) (lo hi mx:Option Bq)
 | len (x:Bq)
 | UT (x:Bq)
 | str (x:Bq)
 | Vy (x i:Bq)
 | append (sz bytes:Nat) (x y:Bq)
 | copy (sz:Nat) (x y:Bq)
 | V1 (x y:Bq)
 | V0 (x y:Bq)
 | extract (i:Nat) (x:Bq)
 | JU (x:Bq)
 | gI (f:Fn) (first cap:List Bq)
 | Oz
 | GZ (sz bytes:Nat) (zero:List V) (len cap:Bq)
 | lookup (ks:KS) (zero:V) (ok:Bool) (m k:Bq)
 | Em (ks:KS) (m k v:Bq)
 | O0 (t:TypeId) (x:Bq)
 | gF (t:TypeId) (zero:V) (ok:Bool) (x:Bq)
 | panic (x:Bq)
 | call (f:FuncId) (args:List Bq)
 | MW (f:FuncId) (args:List Bq)
 | J7 (x:Bq) (args:List Bq)
 | ZC (x:Bq) (args:List Bq)
 | inv (tab:List (TypeId×FuncId)) (x:Bq) (args:List Bq)
 deriving Inhabited
abbrev wv (o:Option V) (k:V->Prop):Prop:=match o with|some v=>k v|none=>False
@[simp] theorem FJ (v:V) (k:V->Prop):wv (some v) k=k v:=rfl
@[simp] theorem ABg (k:V->Prop):wv none k=False:=rfl
def bits (op:BinOp) (k:IntKind) (x y:Int):Int:=
 let a:=BitVec.ofInt k.bits x
 let b:=BitVec.ofInt k.bits y
 k.wrap (match op with
  | .and=>a&&&b
  | .or=>a|||b
  | .xor=>a ^^^ b
  | _=>a&&& ~~~b:BitVec k.bits).toNat
def V4 (op:BinOp) (x y:V) (k:V->Prop):Prop:=
 match x,y with
 | .i ka a,.i kb b=>
   match op with
   | .add=>ka=kb/\k (.i ka (ka.wrap (a+b)))
   | .sub=>ka=kb/\k (.i ka (ka.wrap (a - b)))
   | .mul=>ka=kb/\k (.i ka (ka.wrap (a*b)))
   | .quo=>ka=kb/\b≠0/\k (.i ka (ka.wrap (a.tdiv b)))
   | .rem=>ka=kb/\b≠0/\k (.i ka (a.tmod b))
   | .eql=>ka=kb/\k (.b (a==b))
   | .neq=>ka=kb/\k (.b (a != b))
   | .lss=>ka=kb/\k (.b (decide (a<b)))
   | .leq=>ka=kb/\k (.b (decide (a<=b)))
   | .gtr=>ka=kb/\k (.b (decide (a > b)))
   | .geq=>ka=kb/\k (.b (decide (a≥b)))
   | .shl=>0<=b/\k (.i ka (ka.wrap (a*2 ^ (min b.toNat ka.bits))))
   | .shr=>0<=b/\k (.i ka (a.fdiv (2 ^ (min b.toNat ka.bits))))
   | op=>ka=kb/\k (.i ka (bits op ka a b))
 | _,_=>False
def cellsOf:V->Option (List V)
 | .a cs=>some cs
 | .t _=>none
 | .any=>none
 | v=>some [v]
def CR:V->Bool
 | .a _=>false
 | .t _=>false
 | .any=>false
 | _=>true
def putAt:List V->Nat->List V->List V
 | cs,_,[]=>cs
 | cs,o,v::vs=>putAt (cs.set o v) (o+1) vs
def LM (env:Env):List V->List (Nat×Nat×Bq)->Option (List V)
 | cs,[]=>some cs
 | cs,(off,sz,x)::r=>
   match ev env x with
   | some v=>match cellsOf v with
     | some vc=>bif Nat.beq vc.length sz&&Nat.ble (off+sz) cs.length then LM env (putAt cs off vc) r else none
     | none=>none
   | none=>none
def J4 (env:Env) (sz:Nat):List (List V)->List (Nat×Bq)->Option (List (List V))
 | es,[]=>some es
 | es,(i,x)::r=>
   match ev env x with
   | some v=>match cellsOf v with
     | some vc=>bif Nat.beq vc.length sz&&Nat.blt i es.length then J4 env sz (es.set i vc) r else none
     | none=>none
   | none=>none
def cut (agg:Option Nat) (cs:List V) (off:Nat) (k:V->Prop):Prop:=
 match agg with
 | none=>match cs[off]? with|some v=>k v|none=>False
 | some n=>off+n<=cs.length/\k (.a ((cs.drop off).take n))
def QW (Z:AE) (n off:Nat) (agg:Option Nat) (k:V->Prop):Prop:=
 match Z n with
 | some (.cs vs)=>cut agg vs off k
 | _=>False
def QX (Z:AE) (n sz i off:Nat) (agg:Option Nat) (k:V->Prop):Prop:=
 match Z n with
 | some (.arr sz' es _)=>sz=sz'/\match es[i]? with|some e=>cut agg e off k|none=>False
 | _=>False
def AU (Z:AE) (agg:Option Nat) (x:V) (k:V->Prop):Prop:=
 match x with
 | .rp cs=>cut agg cs 0 k
 | .p n off=>QW Z n off agg k
 | .pe n sz i off=>QX Z n sz i off agg k
 | _=>False
def AS (Z:AE) (sz:Nat) (a x:V) (k:AE->Prop):Prop:=
 match cellsOf x with
 | some vc=>
   vc.length=sz/\vc.all CR=true/\match a with
   | .p n off=>match Z n with
     | some (.cs vs)=>off+sz<=vs.length/\k (B7 Z n (.cs (putAt vs off vc)))
     | _=>False
   | .pe n s i off=>match Z n with
     | some (.arr s' es cap)=>s=s'/\match es[i]? with
       | some e=>off+sz<=s/\k (B7 Z n (.arr s (es.set i (putAt e off vc)) cap))
       | none=>False
     | _=>False
   | _=>False
 | none=>False
def Lk (off:Nat) (x:V) (k:V->Prop):Prop:=
 match x with
 | .rp cs=>k (.rp (cs.drop off))
 | .p n o=>k (.p n (o+off))
 | .pe n sz i o=>k (.pe n sz i (o+off))
 | _=>False
def AR (sz:Nat) (arr:Option Nat) (x i:V) (k:V->Prop):Prop:=
 match i with
 | .i _ j=>match arr,x with
   | none,.l es _=>0<=j/\ ∃e,es[j.toNat]? =some e/\e.length=sz/\k (.rp e)
   | none,.sl n len _=>0<=j/\j<len/\k (.pe n sz j.toNat 0)
   | none,.sv n s off len=>s=sz/\0<=j/\j<len/\k (.pe n sz (off+j.toNat) 0)
   | some m,.rp cs=>0<=j/\j<m/\k (.rp (cs.drop (j.toNat*sz)))
   | some m,.p n o=>0<=j/\j<m/\k (.p n (o+j.toNat*sz))
   | some m,.pe n s q o=>0<=j/\j<m/\k (.pe n s q (o+j.toNat*sz))
   | _,_=>False
 | _=>False
def Lj (len sz:Nat) (agg:Option Nat) (x i:V) (k:V->Prop):Prop:=
 match x,i with
 | .a cs,.i _ j=>0<=j/\j<len/\cut agg cs (j.toNat*sz) k
 | _,_=>False
def Qa (x i:V) (k:V->Prop):Prop:=
 match x,i with
 | .s b,.i _ j=>0<=j/\match b.data.toList[j.toNat]? with|some c=>k (.i .u8 c.toNat)|none=>False
 | _,_=>False
def Ay (x:V) (k:V->Prop):Prop:=
 match x with
 | .l es _=>k (.i .i64 es.length)
 | .sl _ len _=>len<=Aa/\k (.i .i64 len)
 | .sv _ _ _ len=>len<=Aa/\k (.i .i64 len)
 | _=>False
def LK (Z:AE) (x:V) (k:V->Prop):Prop:=
 match x with
 | .m n=>match Z n with
   | some (.map kvs)=>kvs.length<=Aa/\k (.i .i64 kvs.length)
   | _=>False
 | .mn=>k (.i .i64 0)
 | _=>False
def rowsOf (Z:AE) (sz:Nat) (y:V) (k:List (List V)->Prop):Prop:=
 match y with
 | .l ys _=>(∀e∈ys,e.length=sz)/\k ys
 | .sl m len _=>match Z m with
   | some (.arr s ys _)=>s=sz/\len<=ys.length/\k (ys.take len)
   | _=>False
 | .sv m s off len=>match Z m with
   | some (.arr s' ys _)=>s=sz/\s'=sz/\off+len<=ys.length/\k ((ys.drop off).take len)
   | _=>False
 | _=>False
def Fk:List (List V)->Option (List Int)
 | []=>some []
 | [.i .u8 n]::r=>match Fk r with|some l=>some (n::l)|none=>none
 | _=>none
def gm (Z:AE) (x:V) (k:V->Prop):Prop:=rowsOf Z 1 x fun ys=>match Fk ys with|some ns=>k (.s ⟨(ns.map fun n=>UInt8.ofNat n.toNat).toArray⟩)|none=>False
def AK (b : Nat) (Z:AE) (sz:Nat) (x y:V) (k:V->AE->Prop):Prop:=
 rowsOf Z sz y fun ys=>
 (∀e∈ys,∀v∈e,CR v=true)/\match x with
 | .l es full=>(∀e∈es,e.length=sz)/\(es.length+ys.length<=Aa/\(es.length+ys.length)*b<=140737488355328)/\(ys= []->k (.l es full) Z)/\
  (ys≠[]->full=true/\ ∀n cap,Z n=none->es.length+ys.length<=cap->k (.sl n (es.length+ys.length) cap) (B7 Z n (.arr sz (es++ys) cap)))
 | .sl n len cap=>match Z n with
   | some (.arr s es c)=>s=sz/\c=cap/\len=es.length/\(es.length+ys.length<=Aa/\(es.length+ys.length)*b<=140737488355328)/\
    ∀ n' cap',del Z n n'=none->es.length+ys.length<=cap'->
      k (.sl n' (es.length+ys.length) cap') (B7 (del Z n) n' (.arr sz (es++ys) cap'))
   | _=>False
 | _=>False
def QM (Z:AE) (sz:Nat) (ys:List (List V)) (n off len:Nat) (k:V->AE->Prop):Prop:=
 match Z n with
 | some (.arr s es c)=>s=sz/\off+len<=es.length/\k (.i .i64 (min ys.length len:Nat)) (B7 Z n (.arr s (es.take off++(ys.take (min ys.length len)++es.drop (off+min ys.length len))) c))
 | _=>False
def AX (Z:AE) (sz:Nat) (x y:V) (k:V->AE->Prop):Prop:=
 rowsOf Z sz y fun ys=>(∀e∈ys,∀v∈e,CR v=true)/\match x with
 | .sl n len _=>QM Z sz ys n 0 len k
 | .sv n s off len=>s=sz/\QM Z sz ys n off len k
 | _=>False
def AY (b:Nat) (Z:AE) (sz:Nat) (x y:V) (k:V->Prop):Prop:=
 rowsOf Z sz y fun ys=>
 (∀e∈ys,∀v∈e,CR v=true)/\match x with
 | .l es full=>(∀e∈es,e.length=sz)/\(es.length+ys.length<=Aa/\(es.length+ys.length)*b<=140737488355328)/\(ys≠[]->full=true)/\k (.l (es++ys) false)
 | _=>False
def Ow (o:Option V) (d:Int) (k:Int->Prop):Prop:=
 match o with
 | none=>k d
 | some (.i _ n)=>k n
 | _=>False
def AQ (Z:AE) (sz:Nat) (x:V) (lo hi mx:Option V) (k:V->AE->Prop):Prop:=
 match x with
 | .l es full=>(∀e∈es,e.length=sz)/\Ow hi es.length fun h=>Ow lo 0 fun l=>0<=l/\l<=h/\h<=es.length/\
  match mx with
  | none=>k (.l ((es.take h.toNat).drop l.toNat) (full&&decide (h=es.length))) Z
  | some (.i _ m)=>m=h/\k (.l ((es.take h.toNat).drop l.toNat) true) Z
  | _=>False
 | .sl n len cap=>Ow hi len fun h=>Ow lo 0 fun l=>0<=l/\l<=h/\h<=len/\
  match mx with
  | none=>k (.sv n sz l.toNat (h - l).toNat) Z
  | some (.i _ m)=>m=h/\h=len/\l=0/\match Z n with
    | some (.arr s es c)=>s=sz/\c=cap/\len=es.length/\(k (.l es true) (del Z n)\/k (.sl n len len) (B7 Z n (.arr s es len)))
    | _=>False
  | _=>False
 | .sv n s off len=>Ow hi len fun h=>Ow lo 0 fun l=>0<=l/\l<=h/\h<=len/\s=sz/\mx=none/\k (.sv n sz (off+l.toNat) (h - l).toNat) Z
 | _=>False
def IB (env:Env):Option Bq->Option (Option V)
 | none=>some none
 | some x=>match ev env x with|some v=>some (some v)|none=>none
abbrev wo (o:Option (Option V)) (k:Option V->Prop):Prop:=match o with|some v=>k v|none=>False
@[simp] theorem aZ (v:Option V) (k:Option V->Prop):wo (some v) k=k v:=rfl
abbrev ws (o:Option (List V)) (k:List V->Prop):Prop:=match o with|some v=>k v|none=>False
@[simp] theorem ABh (v:List V) (k:List V->Prop):ws (some v) k=k v:=rfl
abbrev wr (o:Option (List (List V))) (k:List (List V)->Prop):Prop:=match o with|some v=>k v|none=>False
@[simp] theorem ABi (v:List (List V)) (k:List (List V)->Prop):wr (some v) k=k v:=rfl
def Bz:List V->List V->Option Bool
 | [],[]=>some true
 | .i k a::r,.i k' b::s=>if k=k' then(Bz r s).map ((a==b)&& ·)else none
 | _,_=>none
def UU (len:Nat) (neg:Bool) (x y:V) (k:V->Prop):Prop:=
 match x,y with
 | .a cs,.a ds=>match Nat.beq cs.length len,Bz cs ds with|true,some t=>k (.b (bif neg then !t else t))|_,_=>False
 | _,_=>False
def Jq (kind:Nat) (neg:Bool) (x:V) (k:V->Prop):Prop:=
 match kind,x with
 | 0,.pn=>k (.b (!neg))
 | 0,.rp _|0,.p _ _|0,.pe _ _ _ _=>k (.b neg)
 | 1,.sl _ _ _=>k (.b neg)
 | 1,.l es _=>(es= []-> ∀t,k (.b t))/\(es≠[]->k (.b neg))
 | 2,.D0=>k (.b (!neg))
 | 2,.FV _ _=>k (.b neg)
 | 3,.mn=>k (.b (!neg))
 | 3,.m _=>k (.b neg)
 | 4,.MK=>k (.b (!neg))
 | 4,.f _ _ _=>k (.b neg)
 | _,_=>False
def AJ (Z:AE) (sz:Nat) (z:List V) (x y:V) (k:V->AE->Prop):Prop:=
 match x,y with
 | .i _ n,.i _ m=>0<=n/\n<=m/\m<=1073741824/\ ∀id,Z id=none->k (.sl id n.toNat m.toNat) (B7 Z id (.arr sz (List.replicate n.toNat z) m.toNat))
 | _,_=>False
def Dp:List IntKind->List V->Bool
 | [],[]=>true
 | q::l,.i q' _::cs=>decide (q=q')&&Dp l cs
 | _,_=>false
def BW (ks:KS) (v:V):Bool:=
 match ks,v with
 | .i k,.i k' _=>decide (k=k')
 | .a l,.a cs=>Dp l cs
 | .s,.s b=>Nat.ble b.size 1048576
 | _,_=>false
def D6 (x y:V):Bool:=
 match x,y with
 | .i _ a,.i _ b=>a==b
 | .s b,.s c=>decide (b=c)
 | .a cs,.a ds=>(Bz cs ds).getD false
 | _,_=>false
def Cn (key:V):List (V×V)->Option V
 | []=>none
 | (k,v)::r=>bif D6 key k then some v else Cn key r
def DZ (key val:V):List (V×V)->List (V×V)
 | []=>[(key,val)]
 | (k,v)::r=>bif D6 key k then(key,val)::r else(k,v)::DZ key val r
def found (z:V) (ok:Bool) (o:Option V):V:=match o with|some v=>bif ok then .t [v,.b true]else v|none=>bif ok then .t [z,.b false]else z
def AM (Z:AE) (ks:KS) (z:V) (ok:Bool) (vm vk:V) (k:V->Prop):Prop:=
 BW ks vk=true/\match vm with
 | .m n=>match Z n with
   | some (.map kvs)=>(∀kv∈kvs,BW ks kv.1=true)/\k (found z ok (Cn vk kvs))
   | _=>False
 | .mn=>k (found z ok none)
 | _=>False
def AO (Z:AE) (ks:KS) (vm vk vv:V) (k:AE->Prop):Prop:=
 BW ks vk=true/\match vm with
 | .m n=>match Z n with
   | some (.map kvs)=>(∀kv∈kvs,BW ks kv.1=true)/\k (B7 Z n (.map (DZ vk vv kvs)))
   | _=>False
 | _=>False
inductive R where
 | ret (v:V)
 | Bk (v:V)
def WL (H:Nat->Nat->Option Value):R->Ending->Prop
 | .ret v,e=> ∃c,e= .returned c/\Ah H v c
 | .Bk v,e=> ∃c,e= .panicked [{v:=c,recovered:=false}]/\Ah H v c
def okF (P:Program) (f:FuncId):Bool:=
 match P.funcs[f]? with
 | some fn=>fn.body.isSome&&fn.name != "runtime.NumGoroutine"
 | none=>false
def gT (H:Nat->Nat->Option Value) (vs:List V) (cs:Array Value):Prop:=cs.size=vs.length/\Ba H (fun i=>cs[i]?) 0 vs
def Au (P:Program) (f:FuncId) (args:List V) (Z:AE) (Q:R->AE->Prop):Prop:=
 okF P f=true/\ ∀(F:Nat->Prop) (w:World) (cs:Array Value),Rel F Z w->gT (Hh F Z w) args cs->
  Calls P f cs w fun e w'=> ∃r Z',Q r Z'/\WL (Hh F Z' w') r e/\Rel F Z' w'/\CD F Z w Z' w'
def Ny (P:Program) (l:Nat) (args:List V) (Z:AE) (Q:R->AE->Prop):Prop:=
 ∀ (F:Nat->Prop) (w:World) (cs:Array Value),Rel F Z w->gT (Hh F Z w) args cs->
   ∃ f tmps assign body,(Instr.yield l cs).run P w= .ok (.round l f tmps assign body) w/\
     RoundIn Fence.wide 0 P l f tmps assign body w fun e w'=> ∃r Z',Q r Z'/\WL (Hh F Z' w') r e/\Rel F Z' w'/\CD F Z w Z' w'
def Ao (P:Program) (x:V) (args:List V) (Z:AE) (Q:R->AE->Prop):Prop:=
 match x with
 | .f (.func f) first cap=>Au P f (first++args++cap) Z Q
 | .f (.yield l) [] []=>Ny P l args Z Q
 | _=>False
def look (t:TypeId):List (TypeId×FuncId)->Option FuncId
 | []=>none
 | (u,f)::r=>bif Nat.beq u t then some f else look t r
def A0 (P:Program) (tab:List (TypeId×FuncId)) (x:V) (args:List V) (Z:AE) (Q:R->AE->Prop):Prop:=
 match x with
 | .FV t v=>match look t tab with
   | some f=>Au P f (v::args) Z Q
   | none=>False
 | _=>False
def qk (k kp:V->AE->Prop):R->AE->Prop
 | .ret v,Z=>k v Z
 | .Bk v,Z=>kp v Z
def Fw (P:Program) (o:GO) (env:Env) (Z:AE) (k kp:V->AE->Prop):Prop:=
 match o with
 | .mv x=>wv (ev env x) fun v=>k v Z
 | .nf x=>wv (ev env x) fun v=> ∃vf Z2,Sub Z2 Z/\F3 Z Z2 v vf/\k vf Z2
 | .pick c a b=>wv (ev env c) fun vc=>wv (ev env a) fun va=>wv (ev env b) fun vb=>
  match vc with| .b t=>(match va,vb with| .b x,.b y=>k (.b (bif t then x else y)) Z|_,_=>k (bif t then va else vb) Z)|_=>False
 | .bin op x y=>wv (ev env x) fun vx=>wv (ev env y) fun vy=>V4 op vx vy fun v=>k v Z
 | .nk neg x y=>wv (ev env x) fun vx=>wv (ev env y) fun vy=>
  match vx,vy with| .b p,.b q=>k (.b (bif neg then p != q else p==q)) Z|_,_=>False
 | .not x=>wv (ev env x) fun vx=>match vx with| .b p=>k (.b (!p)) Z|_=>False
 | .neg xor x=>wv (ev env x) fun vx=>match vx with
  | .i ka a=>k (.i ka (bif xor then bits .xor ka (bif ka.signed then -1 else ka.max) a else ka.wrap (0 - a))) Z
  | _=>False
 | .conv ka x=>wv (ev env x) fun vx=>match vx with| .i _ a=>k (.i ka (ka.wrap a)) Z|_=>False
 | .box x=>wv (ev env x) fun vx=>match cellsOf vx with
  | some cs=> ∀n,Z n=none->k (.p n 0) (B7 Z n (.cs cs))
  | none=>False
 | .Pa x=>wv (ev env x) fun vx=>match cellsOf vx with
  | some cs=>k (.rp cs) Z
  | none=>False
 | .Sl sz b x y=>wv (ev env x) fun vx=>wv (ev env y) fun vy=>AY b Z sz vx vy fun v=>k v Z
 | .alloc z=> ∀n,Z n=none->k (.p n 0) (B7 Z n (.cs z))
 | .build z parts=>ws (LM env z parts) fun cs=>k (.a cs) Z
 | .Hs _ len z parts=>wr (J4 env z.length (List.replicate len z) parts) fun es=>k (.l es true) Z
 | .load agg x=>wv (ev env x) fun vx=>AU Z agg vx fun v=>k v Z
 | .store sz a x=>wv (ev env a) fun va=>wv (ev env x) fun vx=>AS Z sz va vx fun Z'=>k (.t []) Z'
 | .GS off x=>wv (ev env x) fun vx=>Lk off vx fun v=>k v Z
 | .field agg off x=>wv (ev env x) fun vx=>match vx with| .a cs=>cut agg cs off fun v=>k v Z|_=>False
 | .MQ sz arr x i=>wv (ev env x) fun vx=>wv (ev env i) fun vi=>AR sz arr vx vi fun v=>k v Z
 | .index len sz agg x i=>wv (ev env x) fun vx=>wv (ev env i) fun vi=>Lj len sz agg vx vi fun v=>k v Z
 | .slice sz x lo hi mx=>wv (ev env x) fun vx=>wo (IB env lo) fun l=>wo (IB env hi) fun h=>wo (IB env mx) fun m=>AQ Z sz vx l h m k
 | .len x=>wv (ev env x) fun vx=>Ay vx fun v=>k v Z
 | .UT x=>wv (ev env x) fun vx=>LK Z vx fun v=>k v Z
 | .Vy x i=>wv (ev env x) fun vx=>wv (ev env i) fun vi=>Qa vx vi fun v=>k v Z
 | .str x=>wv (ev env x) fun vx=>gm Z vx fun v=>k v Z
 | .append sz b x y=>wv (ev env x) fun vx=>wv (ev env y) fun vy=>AK b Z sz vx vy k
 | .copy sz x y=>wv (ev env x) fun vx=>wv (ev env y) fun vy=>AX Z sz vx vy k
 | .V1 x y=>wv (ev env x) fun vx=>wv (ev env y) fun vy=>match vx,vy with
  | .i ka a,.i kb b=>ka=kb/\k (.i ka (if b > a then b else a)) Z
  | _,_=>False
 | .V0 x y=>wv (ev env x) fun vx=>wv (ev env y) fun vy=>match vx,vy with
  | .i ka a,.i kb b=>ka=kb/\k (.i ka (if b<a then b else a)) Z
  | _,_=>False
 | .extract i x=>wv (ev env x) fun vx=>match vx with| .t vs=>(match vs[i]? with|some v=>k v Z|none=>False)|_=>False
 | .JU x=>wv (ev env x) fun vx=>match vx with
  | .p n off=>k (.p n off) Z
  | .rp cs=>k (.rp cs) Z
  | .pe n sz i off=>k (.pe n sz i off) Z
  | .f (.func f) first cap=>k (.f (.func f) first cap) Z
  | .f (.yield l) first cap=>k (.f (.yield l) first cap) Z
  | _=>False
 | .gI f first cap=>ws (Vu env first) fun vf=>ws (Vu env cap) fun vc=>k (.f f vf vc) Z
 | .O0 t x=>wv (ev env x) fun vx=>k (.FV t vx) Z
 | .gF t z ok x=>wv (ev env x) fun vx=>match vx with
  | .FV t' v=>(t'=t->k (bif ok then .t [v,.b true]else v) Z)/\(t'≠t->ok=true/\k (.t [z,.b false]) Z)
  | .D0=>ok=true/\k (.t [z,.b false]) Z
  | _=>False
 | .panic x=>wv (ev env x) fun vx=>match vx with| .FV t v=>kp (.FV t v) Z|_=>False
 | .call f args=>ws (Vu env args) fun vs=>Au P f vs Z (qk k kp)
 | .nj len neg x y=>wv (ev env x) fun vx=>wv (ev env y) fun vy=>UU len neg vx vy fun v=>k v Z
 | .gK kind neg x=>wv (ev env x) fun vx=>Jq kind neg vx fun v=>k v Z
 | .GZ sz _ z x y=>wv (ev env x) fun vx=>wv (ev env y) fun vy=>AJ Z sz z vx vy k
 | .Oz=> ∀n,Z n=none->k (.m n) (B7 Z n (.map []))
 | .lookup ks z ok m key=>wv (ev env m) fun vm=>wv (ev env key) fun vk=>AM Z ks z ok vm vk fun v=>k v Z
 | .Em ks m key x=>wv (ev env m) fun vm=>wv (ev env key) fun vk=>wv (ev env x) fun vx=>AO Z ks vm vk vx fun Z'=>k (.t []) Z'
 | .MW f args=>ws (Vu env args) fun vs=> ∃v,Au P f vs (fun _=>none) (fun r Z'=>r= .ret v/\Z'=fun _=>none)/\k v Z
 | .J7 x args=>wv (ev env x) fun vx=>ws (Vu env args) fun vs=>Ao P vx vs Z (qk k kp)
 | .inv tab x args=>wv (ev env x) fun vx=>ws (Vu env args) fun vs=>A0 P tab vx vs Z (qk k kp)
 | _=>False
end Go.Gl
namespace Go.Gl
def Bj {H:Nat->Nat->Option Value} {g:Nat->Option Value}: ∀ {vs:List V} {o:Nat},
    Ba H g o vs↔ ∀i v,vs[i]? =some v-> ∃c,g (o+i)=some c/\Ah H v c
 | [],o=>by simp[Ba]
 | v ::vs,o=>by
   simp only[Ba];rw[Bj (vs:=vs) (o:=o+1)];constructor
   .rintro⟨h1,h2⟩ i u hu
    cases i with
    | zero=>simp at hu;subst hu;simpa using h1
    | succ i=>
      obtain⟨c,hc,hr⟩:=h2 i u (by simpa using hu);exact⟨c,by rw[<-hc];congr 1;omega,hr⟩
   .intro h
    refine⟨by simpa using h 0 v rfl,fun i u hu=>?_⟩;obtain⟨c,hc,hr⟩:=h (i+1) u (by simpa using hu);exact⟨c,by rw[<-hc];congr 1;omega,hr⟩
def BH {H:Nat->Nat->Option Value} {g:Nat->Option Value} {sz:Nat}: ∀ {es:List (List V)} {o:Nat},
    BJ H g sz o es↔ ∀i e,es[i]? =some e->e.length=sz/\Ba H g (o+i*sz) e
 | [],o=>by simp[BJ]
 | v ::vs,o=>by
   simp only[BJ];rw[BH (es:=vs) (o:=o+sz)];constructor
   .rintro⟨h1,h2,h3⟩ i u hu
    cases i with
    | zero=>simp at hu;subst hu;exact⟨h1,by simpa using h2⟩
    | succ i=>
      obtain⟨h4,h5⟩:=h3 i u (by simpa using hu);refine⟨h4,?_⟩;rw[show o+(i+1)*sz=o+sz+i*sz by rw[Nat.add_mul];omega];exact h5
   .intro h
    have h0:=h 0 v rfl;refine⟨h0.1,by simpa using h0.2,fun i u hu=>?_⟩;obtain⟨h4,h5⟩:=h (i+1) u (by simpa using hu);refine⟨h4,?_⟩;rw[show o+sz+i*sz=o+(i+1)*sz by rw[Nat.add_mul];omega];exact h5
def BF {H:Nat->Nat->Option Value} {g g':Nat->Option Value} {o o':Nat} {vs:List V} (h:Ba H g o vs) (hg: ∀i,i<vs.length->g' (o'+i)=g (o+i)):Ba H g' o' vs:=by
 rw[Bj]at *;intro i v hv;obtain⟨c,hc,hr⟩:=h i v hv;exact⟨c,by rw[hg i (by rw[JL]at hv;exact hv.1)];exact hc,hr⟩
def Kl {H:Nat->Nat->Option Value} {g:Nat->Option Value} {o:Nat} {vs:List V} (h:Ba H g o vs) (n:Nat):Ba H g (o+n) (vs.drop n):=by
 rw[Bj]at *;intro i v hv;rw[zZ]at hv;obtain⟨c,hc,hr⟩:=h (n+i) v hv;exact⟨c,by rw[<-hc];congr 1;omega,hr⟩
def TB {H:Nat->Nat->Option Value} {g:Nat->Option Value} {o:Nat} {vs:List V} (h:Ba H g o vs) (n:Nat):Ba H g o (vs.take n):=by
 rw[Bj]at *;intro i v hv;rw[List.getElem?_take]at hv;split at hv
 .exact h i v hv
 .cases hv
def O7 {H:Nat->Nat->Option Value} {g:Nat->Option Value} {o:Nat} {vs us:List V} (h:Ba H g o vs) (k:Ba H g (o+vs.length) us):Ba H g o (vs++us):=by
 rw[Bj]at *;intro i v hv;rw[List.getElem?_append]at hv;split at hv
 .exact h i v hv
 .obtain⟨c,hc,hr⟩:=k _ v hv
  exact⟨c,by rw[<-hc];congr 1;omega,hr⟩
def Rel.lt {F:Nat->Prop} {Z:AE} {w:World} (h:Rel F Z w) {n:Nat} {o:O} (ho:Z n=some o):n<w.heap.size:=by
 obtain⟨_,ob,h2,_⟩:=h.own n o ho;rcases Nat.lt_or_ge n w.heap.size with h'|h'
 .exact h'
 .simp[Array.getElem?_eq_none h']at h2
def Rel.new {F:Nat->Prop} {Z:AE} {w:World} (h:Rel F Z w):Z w.heap.size=none:=by
 cases h':Z w.heap.size with
 | none=>rfl
 | some o=>exact absurd (h.lt h') (Nat.lt_irrefl _)
def Rel.step {F:Nat->Prop} {Z Z':AE} {w w':World} (h:Rel F Z w) (ha:CD F Z w Z' w')
    (hn: ∀n o,Z' n=some o->(Z n=some o/\w'.heap[n]? =w.heap[n]?)\/(¬F n/\ ∃ob,w'.heap[n]? =some ob/\QT (Hh F Z' w') o ob)):Rel F Z' w' where
 own n o ho:=by
  rcases hn n o ho with⟨h1,h2⟩|h1
  .obtain⟨h3,ob,h4,h5⟩:=h.own n o h1
   exact⟨h3,ob,h2.trans h4,h5.mono ha.hle⟩
  .exact h1
 lock n hl:=Nat.lt_of_lt_of_le (h.lock n hl) ha.size
def DJ (Z:AE) (n:Nat) (o:O):B7 Z n o n=some o:=by simp[B7]
def Cm (Z:AE) {n m:Nat} (o:O) (h:m≠n):B7 Z n o m=Z m:=by simp[B7,h]
def De (Z:AE) (n:Nat):del Z n n=none:=by simp[del]
def Hp (Z:AE) {n m:Nat} (h:m≠n):del Z n m=Z m:=by simp[del,h]
def GY (Z:AE) (n:Nat):Sub (del Z n) Z:=by
 intro m o h;unfold del at h;split at h
 .cases h
 .exact h
def EM {F:Nat->Prop} {Z:AE} {w:World} (o:O) (ob:Obj):CD F Z w (B7 Z w.heap.size o) (w.alloc ob) where
 frame n hn _:=RowKit.Below.heap_alloc _ _ _ hn
 size:=by simp
 os:=rfl
 tape:=rfl
 output:=rfl
 names n h0 hn:=by rw[Cm _ _ (by omega)];exact h0
def IX {F:Nat->Prop} {Z:AE} {w:World} (h:Rel F Z w) {o:O} {ob:Obj} (ho:QT (Hh F Z w) o ob):Rel F (B7 Z w.heap.size o) (w.alloc ob):=
 h.step (EM o ob) fun n o' hn=>by
  by_cases e:n=w.heap.size
  .subst e
   rw[DJ]at hn;cases hn;exact .inr ⟨fun hl=>absurd (h.lock _ hl) (Nat.lt_irrefl _),ob,heap_alloc_new _ _,ho.mono (EM o ob).hle⟩
  .rw[Cm _ _ e]at hn
   exact .inl ⟨hn,RowKit.Below.heap_alloc _ _ _ (h.lt hn)⟩
def JF {F:Nat->Prop} {Z:AE} (w:World) (ob:Obj):CD F Z w Z (w.alloc ob) where
 frame n hn _:=RowKit.Below.heap_alloc _ _ _ hn
 size:=by simp
 os:=rfl
 tape:=rfl
 output:=rfl
 names n h0 _:=h0
def Lv {F:Nat->Prop} {Z:AE} {w:World} (h:Rel F Z w) (ob:Obj):Rel F Z (w.alloc ob):=
 h.step (JF w ob) fun _ _ hn=> .inl ⟨hn,RowKit.Below.heap_alloc _ _ _ (h.lt hn)⟩
def Cf (w:World) (n:Nat) (ob:Obj):World:={w with heap:=w.heap.setIfInBounds n ob}
def PB {w:World} {n:Nat} {ob:Obj} (h:n<w.heap.size):(Cf w n ob).heap[n]? =some ob:=by
 simp[Cf,h]
def TM {w:World} {n m:Nat} {ob:Obj} (h:m≠n):(Cf w n ob).heap[m]? =w.heap[m]? :=by
 simp only[Cf];rw[Array.getElem?_setIfInBounds_ne (Ne.symm h)]
@[simp] theorem sh (w:World) (n:Nat) (ob:Obj):(Cf w n ob).heap.size=w.heap.size:=by simp[Cf]
def HV {F:Nat->Prop} {Z:AE} {w:World} {n:Nat} {o:O} (hn:Z n=some o) (o':O) (ob:Obj):CD F Z w (B7 Z n o') (Cf w n ob) where
 frame m _ h0:=TM (fun e=>by rw[e,hn]at h0;cases h0)
 size:=by simp
 os:=rfl
 tape:=rfl
 output:=rfl
 names m h0 _:=by rw[Cm _ _ (fun e=>by rw[e,hn]at h0;cases h0)];exact h0
def KZ {F:Nat->Prop} {Z:AE} {w:World} (h:Rel F Z w) {n:Nat} {o o':O} {ob:Obj} (hn:Z n=some o) (ho:QT (Hh F Z w) o' ob):Rel F (B7 Z n o') (Cf w n ob):=
 h.step (HV hn o' ob) fun m o'' hm=>by
  by_cases e:m=n
  .subst e
   rw[DJ]at hm;cases hm;exact .inr ⟨(h.own _ _ hn).1,ob,PB (h.lt hn),ho.mono (HV hn o' ob).hle⟩
  .rw[Cm _ _ e]at hm
   exact .inl ⟨hm,TM e⟩
def ZD {w:World} {n:Nat} {ob:Obj} (h:w.heap[n]? =some ob):n<w.heap.size:=by
 rcases Nat.lt_or_ge n w.heap.size with h'|h'
 .exact h'
 .simp[Array.getElem?_eq_none h']at h
def setCell_eq {w:World} {n i:Nat} {c:Array Value} {e:TypeId} (h:w.heap[n]? =some (.cells c e (0,0))) (v:Value) :
    w.setCell ⟨n,i,none⟩ v=Cf w n (.cells (c.setIfInBounds i v) e (0,0)):=by
 unfold World.setCell Cf;congr 1;apply Array.ext_getElem?;intro j;by_cases hj:n=j
 .subst hj
  rw[Array.getElem?_modify,if_pos rfl,Array.getElem?_setIfInBounds_self_of_lt (ZD h),h];rfl
 .rw[Array.getElem?_modify,if_neg hj,Array.getElem?_setIfInBounds_ne hj]
def Df {w:World} {n i:Nat} {c:Array Value} {e:TypeId} {fr:Nat×Nat} (h:w.heap[n]? =some (.cells c e fr)):w.cell? ⟨n,i,none⟩=c[i]? :=
 cell_of_row w n i c e fr h
def R4 {w:World} {n i:Nat} {c:Array Value} {e:TypeId} (h:w.heap[n]? =some (.cells c e (0,0))):w.frozen? ⟨n,i,none⟩=false:=
 frozen_of_row w n i c e h
def Cv (n o i:Nat):(⟨n,o,none⟩:Addr).add i=⟨n,o+i,none⟩:=by
 unfold Addr.add;split
 .subst_vars;rfl
 .rfl
def C8:Array Value->Nat->List Value->Array Value
 | c,_,[]=>c
 | c,o,v::vs=>C8 (c.setIfInBounds o v) (o+1) vs
def EF: ∀(vs:List Value) (c:Array Value) (o:Nat),(C8 c o vs).size=c.size
 | [],_,_=>rfl
 | v::vs,c,o=>by simp only[C8];rw[EF vs];simp
def dk {w:World} {n:Nat} {ob:Obj} (h:w.heap[n]? =some ob):Cf w n ob=w:=by
 unfold Cf
 have:w.heap.setIfInBounds n ob=w.heap:=by
  apply Array.ext_getElem?;intro j;by_cases hj:n=j
  .subst hj
   rw[Array.getElem?_setIfInBounds_self_of_lt (ZD h),h]
  .rw[Array.getElem?_setIfInBounds_ne hj]
 rw[this]
def Sq (w:World) (n:Nat) (a b:Obj):Cf (Cf w n a) n b=Cf w n b:=by
 simp[Cf]
def Cw {P:Program} {n:Nat} {e:TypeId}: ∀(vs:List Value) (w:World) (c:Array Value) (o i:Nat),w.heap[n]? =some (.cells c e (0,0))->
    o+i+vs.length<=c.size->(∀v∈vs,v.oneCell'=true)->
    (storeCells ⟨n,o,none⟩ vs i).run P w= .ok () (Cf w n (.cells (C8 c (o+i) vs) e (0,0)))
 | [],w,c,o,i,h,_,_=>by
   simp only[storeCells,FF,C8];rw[dk h]
 | v::vs,w,c,o,i,h,hl,hv=>by
   have hlt:o+i<c.size:=by simp at hl;omega
   have h1:w.cell? ⟨n,o+i,none⟩=some c[o+i]:=by rw[Df h];rw[Array.getElem?_eq_getElem hlt]
   have hone:=hv v (by simp);simp only[storeCells,DU,Cv,run_store P w _ v _ hone,h1,R4 h,ME,if_false,Result.andThen];rw[setCell_eq h];rw[Cw vs _ (c.setIfInBounds (o+i) v) o (i+1) (PB (ZD h)) (by simp at hl ⊢;omega) (fun u hu=>hv u (by simp[hu]))];rw[Sq];rfl
end Go.Gl
namespace Go.Gl
def nu:Value->Option V
 | .bool b=>some (.b b)
 | .int k n=>if k.min<=n/\n<=k.max then some (.i k n)else none
 | .string s=>some (.s s)
 | .pointer none=>some .pn
 | .slice none 0 0=>some (.l [] true)
 | .map none=>some .mn
 | .nilFunc=>some .MK
 | .nilIface=>some .D0
 | _=>none
def gV:List Value->Option (List V)
 | []=>some []
 | c::cs=>match nu c,gV cs with
   | some v,some vs=>some (v::vs)
   | _,_=>none
def ss:Value->Option V
 | .agg cs=>(gV cs.toList).map .a
 | .tuple cs=>if cs.size=0 then some (.t [])else none
 | c=>nu c
def BY:Operand->Option Bq
 | .tmp t=>some (.t t)
 | .const v=>(ss v).map .c
 | .func f=>some (.c (.f (.func f) [] []))
 | .global _=>none
def LG:List Operand->Option (List Bq)
 | []=>some []
 | x::r=>match BY x,LG r with
   | some v,some vs=>some (v::vs)
   | _,_=>none
def dJ:Option Operand->Option (Option Bq)
 | none=>some none
 | some x=>(BY x).map some
def EY (P:Program) (t:TypeId):Option Nat:=(P.info? t).map (·.size)
def Ja (P:Program) (t:TypeId):Option (Option Nat):=
 match P.underlying t with
 | some (.struct _)=>(EY P t).map some
 | some (.array _ _)=>(EY P t).map some
 | some _=>some none
 | none=>none
def zeroOf (P:Program) (t:TypeId):Option V:=(((P.info? t).bind (·.zero))).bind ss
def isInt (P:Program) (t:TypeId):Bool:=match P.underlying t with|some (.int _)=>true|_=>false
def isBool (P:Program) (t:TypeId):Bool:=match P.underlying t with|some .bool=>true|_=>false
def AAG (P:Program) (op:BinOp) (t:TypeId) (x y:Bq):Option GO:=
 if isInt P t then some (.bin op x y)
 else if isBool P t then match op with
  | .eql=>some (.nk false x y)
  | .neq=>some (.nk true x y)
  | _=>none
 else none
def Uc (fields:Array Field) (P:Program):List (Nat×Operand)->Option (List (Nat×Nat×Bq))
 | []=>some []
 | (i,x)::r=>match fields[i]?,BY x,Uc fields P r with
   | some f,some o,some ps=>(EY P f.type).map fun s=>(f.offset,s,o)::ps
   | _,_,_=>none
def Pt (sz:Nat):List (Nat×Operand)->Option (List (Nat×Nat×Bq))
 | []=>some []
 | (i,x)::r=>match BY x,Pt sz r with
   | some o,some ps=>some ((i*sz,sz,o)::ps)
   | _,_=>none
def Ps:List (Nat×Operand)->Option (List (Nat×Bq))
 | []=>some []
 | (i,x)::r=>match BY x,Ps r with
   | some o,some ps=>some ((i,o)::ps)
   | _,_=>none
def Lm:Option V->Option (List V)
 | some (.a cs)=>some cs
 | some (.t _)=>none
 | some .any=>none
 | some v=>some [v]
 | none=>none
def iF (P:Program) (c:Call):Option GO:=
 match c.callee,c.args.toList,c.argTypes.toList with
 | .builtin .len,[x],[t]=>match P.underlying t with
   | some (.slice _)=>(BY x).map .len
   | some (.map _ _)=>(BY x).map .UT
   | some (.array n _)=>if(n:Int)<=IntKind.i64.max then some (.mv (.c (.i .i64 n)))else none
   | _=>none
 | .builtin .append,[x,y],[t,u]=>match P.underlying t,P.underlying u with
   | some (.slice e),some (.slice _)=>match BY x,BY y,P.info? e with
     | some x',some y',some i=>if t=u/\i.bytes<=4096/\i.zero.map (fun z=>z.cells.size)=some i.size then some (.append i.size i.bytes x' y')else none
     | _,_,_=>none
   | _,_=>none
 | .builtin .max,[x,y],_=>match BY x,BY y with|some x',some y'=>some (.V1 x' y')|_,_=>none
 | .builtin .min,[x,y],_=>match BY x,BY y with|some x',some y'=>some (.V0 x' y')|_,_=>none
 | .value (.func f),_,_=>(LG c.args.toList).map (.call f)
 | .value x,_,_=>match BY x,LG c.args.toList with|some x',some as=>some (.J7 x' as)|_,_=>none
 | _,_,_=>none
def rOp (P:Program):Op->Option GO
 | .move x=>(BY x).map .mv
 | .assign x=>(BY x).map .mv
 | .pick c a b=>match BY c,BY a,BY b with|some c,some a,some b=>some (.pick c a b)|_,_,_=>none
 | .box _ x=>(BY x).map .box
 | .alloc e=>(Lm (zeroOf P e)).map .alloc
 | .build t parts=>match Lm (zeroOf P t),P.underlying t with
   | some z,some (.struct fields)=>if fields.toList.all (fun f=>(EY P f.type).isSome)then(Uc fields P parts.toList).map (.build z)else none
   | some z,some (.array _ e)=>(EY P e).bind fun sz=>(Pt sz parts.toList).map (.build z)
   | _,_=>none
 | .buildSlice t len parts=>match P.underlying t with
   | some (.slice e)=>match Lm (zeroOf P e),EY P e with
     | some z,some sz=>if z.length=sz/\0<sz/\0<len/\len*sz<=2 ^ 24 then(Ps parts.toList).map (.Hs sz len z)else none
     | _,_=>none
   | _=>none
 | .load t x=>match Ja P t,BY x with|some a,some x=>some (.load a x)|_,_=>none
 | .store t a x=>match EY P t,BY a,BY x with|some s,some a,some x=>some (.store s a x)|_,_,_=>none
 | .binOp op t x y _=>match BY x,BY y with|some x,some y=>AAG P op t x y|_,_=>none
 | .unOp .not _ x=>(BY x).map .not
 | .unOp .neg t x=>if isInt P t then(BY x).map (.neg false)else none
 | .unOp .xor t x=>if isInt P t then(BY x).map (.neg true)else none
 | .convert s d x=>match P.underlying s,P.underlying d with
   | some (.int _),some (.int k)=>(BY x).map (.conv k)
   | _,_=>none
 | .makeInterface t x=>match P.underlying t with
   | some (.interface _)=>none
   | some _=>(BY x).map (.O0 t)
   | none=>none
 | .makeFunc (.func f) first cap=>match LG first.toList,LG cap.toList with|some a,some b=>some (.gI (.func f) a b)|_,_=>none
 | .slice t x lo hi mx=>match P.underlying t with
   | some (.slice e)=>match EY P e,BY x,dJ lo,dJ hi,dJ mx with
     | some s,some x,some l,some h,some m=>if 0<s/\(m.isSome->h.isSome)then some (.slice s x l h m)else none
     | _,_,_,_,_=>none
   | _=>none
 | .fieldAddr s x f=>match P.underlying s with
   | some (.struct fields)=>match fields[f]? with
     | some fd=>match EY P fd.type with
       | some sz=>if sz=0 then none else(BY x).map (.GS fd.offset)
       | none=>none
     | none=>none
   | _=>none
 | .field t x f=>match P.underlying t with
   | some (.struct fields)=>match fields[f]? with
     | some fd=>match Ja P fd.type,BY x with|some a,some x=>some (.field a fd.offset x)|_,_=>none
     | none=>none
   | _=>none
 | .indexAddr t x i=>match P.underlying t with
   | some (.slice e)=>match EY P e,BY x,BY i with|some s,some x,some i=>some (.MQ s none x i)|_,_,_=>none
   | some (.array n e)=>match EY P e,BY x,BY i with|some s,some x,some i=>some (.MQ s (some n) x i)|_,_,_=>none
   | _=>none
 | .index t x i=>match P.underlying t with
   | some (.array n e)=>match EY P e,Ja P e,BY x,BY i with|some s,some a,some x,some i=>some (.index n s a x i)|_,_,_,_=>none
   | _=>none
 | .extract x i=>(BY x).map (.extract i)
 | .nilCheck x=>(BY x).map .JU
 | .typeAssert x _ t ok=>match P.underlying t with
   | some (.interface _)=>none
   | some _=>match BY x,zeroOf P t with|some x,some z=>some (.gF t z ok x)|_,_=>none
   | none=>none
 | .panic x=>(BY x).map .panic
 | .call c=>iF P c
 | _=>none
def Cl (F:Nat->Prop) (Z:AE) (w:World) (k kp:V->AE->Prop):Result Value->Prop
 | .ok c w'=> ∃v Z',k v Z'/\Ah (Hh F Z' w') v c/\Rel F Z' w'/\CD F Z w Z' w'
 | .halt (.panic c) w'=> ∃v Z',kp v Z'/\Ah (Hh F Z' w') v c/\Rel F Z' w'/\CD F Z w Z' w'
 | _=>False
def Good (P:Program) (F:Nat->Prop) (Z:AE) (w:World) (k kp:V->AE->Prop):Result Next->Prop
 | .ok (.value c) w'=> ∃v Z',k v Z'/\Ah (Hh F Z' w') v c/\Rel F Z' w'/\CD F Z w Z' w'
 | .ok .skip w'=> ∃Z',k (.t []) Z'/\Rel F Z' w'/\CD F Z w Z' w'
 | .ok (.enter f args) w'=>Calls P f args w' fun e w''=> ∃r Z',qk k kp r Z'/\WL (Hh F Z' w'') r e/\Rel F Z' w''/\CD F Z w Z' w''
 | .ok (.round l f tmps assign body) w'=>RoundIn Fence.wide 0 P l f tmps assign body w' fun e w''=> ∃r Z',qk k kp r Z'/\WL (Hh F Z' w'') r e/\Rel F Z' w''/\CD F Z w Z' w''
 | .halt (.panic c) w'=> ∃v Z',kp v Z'/\Ah (Hh F Z' w') v c/\Rel F Z' w'/\CD F Z w Z' w'
 | _=>False
def A6 {P:Program} {F:Nat->Prop} {Z:AE} {w:World} {k kp:V->AE->Prop} {s:Sem Value} (h:Cl F Z w k kp (s.run P w)) :
    Good P F Z w k kp ((do pure (.value (<-s)):Sem Next).run P w):=by
 simp only[DU];generalize s.run P w=r at *;cases r with
 | ok c w'=>exact h
 | halt x w'=>cases x<;>first|exact h|exact h.elim
def Fu {F:Nat->Prop} {Z:AE} {w:World} {k kp:V->AE->Prop} (hR:Rel F Z w) {v:V} {c:Value} (hv:Ah (Hh F Z w) v c) (hk:k v Z):Cl F Z w k kp (.ok c w):=
 ⟨v,Z,hk,hv,hR,CD.refl _ _ _⟩
def Aw {F:Nat->Prop} {Z:AE} {w:World} {k kp:V->AE->Prop} (hR:Rel F Z w) {v:V} {c:Value} (hk:k v Z) (hv:Ah (Hh F Z w) v c):Cl F Z w k kp (.ok c w):=
 Fu hR hv hk
def CY (H:Nat->Nat->Option Value) (env:Env) (tmps:Array Value):Prop:= ∀k v,get k env=some v-> ∃c,tmps[k]? =some c/\Ah H v c
def CY.mono {H H':Nat->Nat->Option Value} (hle:aH H H') {env:Env} {tmps:Array Value} (h:CY H env tmps):CY H' env tmps:=
 fun k v hv=>let⟨c,h1,h2⟩:=h k v hv;⟨c,h1,h2.mono hle⟩
def W0 {H:Nat->Nat->Option Value} {c:Value} {v:V} (h:nu c=some v):Ah H v c:=by
 unfold nu at h
 split at h<;>first
  | (cases h;simp[Ah];done)
  | (split at h<;>first|(rename_i hc;cases h;simpa[Ah]using hc)|cases h)
  | cases h
 .exact⟨none,0,rfl,by simp,by simp,by simp[Aa],by simp,by simp⟩
def Wz {H:Nat->Nat->Option Value}: ∀ {cs:List Value} {vs:List V},gV cs=some vs->cs.length=vs.length/\Ba H (fun i=>cs[i]?) 0 vs
 | [],vs,h=>by cases h;exact⟨rfl,trivial⟩
 | c ::cs,vs,h=>by
   simp only[gV]at h;split at h
   .rename_i v vs' h1 h2
    cases h;obtain⟨h3,h4⟩:=Wz (H:=H) h2;refine⟨by simp[h3],⟨c,by simp,W0 h1⟩,?_⟩;exact BF h4 (fun i _=>by rw[show 0+1+i=i+1 by omega];simp)
   .cases h
def HN {H:Nat->Nat->Option Value} {c:Value} {v:V} (h:ss c=some v):Ah H v c:=by
 unfold ss at h;split at h
 .rename_i cs
  cases hq:gV cs.toList with
  | none=>rw[hq]at h;cases h
  | some vs=>
    rw[hq]at h;cases h;obtain⟨h1,h2⟩:=Wz (H:=H) hq;refine⟨cs,rfl,by simpa using h1,BF h2 (fun i _=>by simp)⟩
 .rename_i cs
  split at h
  .rename_i h0
   cases h;exact⟨cs,rfl,by simpa using h0,trivial⟩
  .cases h
 .exact W0 h
def Ap {H:Nat->Nat->Option Value} {env:Env} {a:Act} (he:CY H env a.tmps) {x:Operand} {o:Bq} (ho:BY x=some o) {v:V} (hv:ev env o=some v):Ah H v (a.eval x):=by
 cases x with
 | tmp t=>
   cases ho;obtain⟨c,h1,h2⟩:=he t v hv;simp only[Act.eval,Array.getD_eq_getD_getElem?,h1,Option.getD_some];exact h2
 | const c=>
   simp only[BY]at ho;cases hq:ss c with
   | none=>rw[hq]at ho;cases ho
   | some u=>
     rw[hq]at ho;cases ho;cases hv;exact HN hq
 | func f=>
   cases ho;cases hv;exact⟨#[],#[],rfl,rfl,trivial,rfl,trivial⟩
 | global g=>cases ho
def cE {H:Nat->Nat->Option Value} {env:Env} {a:Act} (he:CY H env a.tmps): ∀ {xs:List Operand} {os:List Bq},LG xs=some os-> ∀ {vs:List V},Vu env os=some vs->
    xs.length=vs.length/\Ba H (fun i=>(xs.map a.eval)[i]?) 0 vs
 | [],os,ho,vs,hv=>by cases ho;cases hv;exact⟨rfl,trivial⟩
 | x ::xs,os,ho,vs,hv=>by
   simp only[LG]at ho;split at ho
   .rename_i o os' h1 h2
    cases ho;simp only[Vu]at hv;split at hv
    .rename_i v vs' h3 h4
     cases hv;obtain⟨h5,h6⟩:=cE he h2 h4;refine⟨by simp[h5],⟨a.eval x,by simp,Ap he h1 h3⟩,?_⟩;exact BF h6 (fun i _=>by rw[show 0+1+i=i+1 by omega];simp)
    .cases hv
   .cases ho
def Ak {o:Option V} {k:V->Prop} (h:wv o k): ∃v,o=some v/\k v:=by
 cases o with
 | none=>exact h.elim
 | some v=>exact⟨v,rfl,h⟩
def Iu {o:Option (List V)} {k:List V->Prop} (h:ws o k): ∃v,o=some v/\k v:=by
 cases o with
 | none=>exact h.elim
 | some v=>exact⟨v,rfl,h⟩
def aY {o:Option (List (List V))} {k:List (List V)->Prop} (h:wr o k): ∃v,o=some v/\k v:=by
 cases o with
 | none=>exact h.elim
 | some v=>exact⟨v,rfl,h⟩
def U3 {o:Option (Option V)} {k:Option V->Prop} (h:wo o k): ∃v,o=some v/\k v:=by
 cases o with
 | none=>exact h.elim
 | some v=>exact⟨v,rfl,h⟩
end Go.Gl
namespace Go.Gl
variable {P:Program} {F:Nat->Prop} {Z:AE} {w:World} {k kp:V->AE->Prop}
def NY {t:TypeId} {n:Nat} (h:EY P t=some n): ∃i,P.info? t=some i/\i.size=n:=by
 unfold EY at h;cases hi:P.info? t with
 | none=>rw[hi]at h;cases h
 | some i=>rw[hi]at h;cases h;exact⟨i,rfl,rfl⟩
def Ed {t:TypeId} {n:Nat} (h:EY P t=some n) (w:World):(sizeOf t).run P w= .ok n w:=by
 obtain⟨i,h1,h2⟩:=NY h;simp[sizeOf,typeInfo,h1,h2]
def BK {t:TypeId} {d:TypeDesc} (h:P.underlying t=some d) (w:World):(underlying t).run P w= .ok d w:=by
 simp[underlying,h]
def Eu {t:TypeId} {z:V} (h:zeroOf P t=some z) (w:World): ∃c,(zeroValue t).run P w= .ok c w/\ss c=some z:=by
 unfold zeroOf at h;cases hi:P.info? t with
 | none=>rw[hi]at h;cases h
 | some i=>
   rw[hi]at h;cases hz:i.zero with
   | none=>simp[hz]at h
   | some c=>
     refine⟨c,by simp[zeroValue,typeInfo,hi,hz],?_⟩;simpa[hz]using h
def Xz {t:TypeId} {z:V} (h:zeroOf P t=some z): ∃i c,P.info? t=some i/\i.zero=some c/\ss c=some z:=by
 unfold zeroOf at h;cases hi:P.info? t with
 | none=>rw[hi]at h;cases h
 | some i=>
   rw[hi]at h;cases hz:i.zero with
   | none=>simp[hz]at h
   | some c=>exact⟨i,c,rfl,hz,by simpa[hz]using h⟩
def TN {t:TypeId} {a:Option Nat} (h:Ja P t=some a) (w:World):(isAgg t).run P w= .ok a.isSome w/\ ∀n,a=some n->(sizeOf t).run P w= .ok n w:=by
 unfold Ja at h;cases hu:P.underlying t with
 | none=>rw[hu]at h;cases h
 | some d=>
   rw[hu]at h;unfold isAgg;simp only[DU,BK hu,Result.andThen]
   cases d<;>simp only at h ⊢ <;>first
    | (cases h;exact⟨rfl,fun n e=>by cases e⟩)
    | (cases hs:EY P t with
       | none=>rw[hs]at h;cases h
       | some n=>rw[hs]at h;cases h;exact⟨rfl,fun n e=>by cases e;exact Ed hs w⟩)
def Vg {g:Nat->Option Value} {b o n:Nat} {vs:List V} {H:Nat->Nat->Option Value} (hg: ∀i c,g i=some c->w.cell? ⟨b,i,none⟩=some c) (hv:Ba H g o vs) (hn:vs.length=n) :
    ∃cs:Array Value,(loadCells ⟨b,o,none⟩ n).run P w= .ok cs w/\cs.size=n/\Ba H (fun i=>cs[i]?) 0 vs:=by
 rw[Bj]at hv
 have hch: ∀i,i<n-> ∃c,g (o+i)=some c:=fun i hi=>by
  obtain⟨c,hc,_⟩:=hv i vs[i] (Cs (by omega));exact⟨c,hc⟩
 let f:Nat->Value:=fun i=>(g (o+i)).getD undef
 refine⟨((List.range n).map f).toArray,?_,by simp,?_⟩
 .rw[run_loadCells w _ n f (fun j hj=>by
   obtain⟨c,hc⟩:=hch j hj;rw[Cv,hg _ _ hc]
   simp[f,hc])]
 .rw[Bj]
  intro i v hi;obtain⟨c,hc,hr⟩:=hv i v hi;have hlt:i<n:=by rw[<-hn];exact(JL.1 hi).1
  refine⟨c,?_,hr⟩;simp[f,hc,hlt]
def Fs {t:TypeId} {agg:Option Nat} (hA:Ja P t=some agg) {g:Nat->Option Value} {b o off:Nat} {vs:List V} {H:Nat->Nat->Option Value} (hg: ∀i c,g i=some c->w.cell? ⟨b,i,none⟩=some c) (hv:Ba H g o vs)
    {K:V->Prop} (hk:cut agg vs off K): ∃v c,(loadVar t ⟨b,o+off,none⟩).run P w= .ok c w/\Ah H v c/\K v:=by
 obtain⟨h1,h2⟩:=TN hA w;unfold loadVar;simp only[DU,h1,Result.andThen];cases agg with
 | none=>
   simp only[cut]at hk;split at hk
   .rename_i v hv'
    obtain⟨c,hc,hr⟩:=Bj.1 hv off v hv';refine⟨v,c,?_,hr,hk⟩;simp[hg _ _ hc]
   .exact hk.elim
 | some n=>
   simp only[cut]at hk;obtain⟨cs,h3,h4,h5⟩:=Vg (P:=P) (n:=n) hg (TB (Kl hv off) n) (by simp;omega);refine⟨.a ((vs.drop off).take n),.agg cs,?_,⟨cs,rfl,by simp[h4];omega,h5⟩,hk.2⟩;simp[h2 n rfl,h3]
def K1 (hR:Rel F Z w) {n:Nat} {vs:List V} (h:Z n=some (.cs vs)): ∃c e,w.heap[n]? =some (.cells c e (0,0))/\c.size=vs.length/\Ba (Hh F Z w) (fun i=>c[i]?) 0 vs:=by
 obtain⟨_,ob,h2,c,e,rfl,h4,h5⟩:=hR.own n _ h;exact⟨c,e,h2,h4,h5⟩
def FL (hR:Rel F Z w) {n sz cap:Nat} {es:List (List V)} (h:Z n=some (.arr sz es cap)): ∃c e,w.heap[n]? =some (.cells c e (0,0))/\cap*sz<=c.size/\es.length<=cap/\es.length<=Aa/\BJ (Hh F Z w) (fun i=>c[i]?) sz 0 es:=by
 obtain⟨_,ob,h2,c,e,rfl,h4,h5⟩:=hR.own n _ h;exact⟨c,e,h2,h4,h5⟩
def Zk {t:TypeId} {agg:Option Nat} (hA:Ja P t=some agg) (hR:Rel F Z w) {vx:V} {c:Value} (hx:Ah (Hh F Z w) vx c) (h:AU Z agg vx fun v=>k v Z) :
    Cl F Z w k kp ((Instr.loadAt t c).run P w):=by
 unfold Instr.loadAt;unfold AU at h;split at h
 .rename_i cs
  obtain⟨b,o,rfl,hv⟩:=hx;obtain⟨v,c,h1,h2,h3⟩:=Fs (P:=P) (w:=w) (b:=b) (off:=0) hA (fun i c hc=>(Ga hc).2.2) hv h;simp only[DU,Instr.sureAddr,FF,Result.andThen,Nat.add_zero]at h1 ⊢;rw[h1];exact Fu hR h2 h3
 .rename_i n off
  simp only[Ah]at hx;subst hx;unfold QW at h;split at h
  .rename_i vs hs
   obtain⟨c,e,h1,h2,h3⟩:=K1 hR hs;obtain⟨v,c',h4,h5,h6⟩:=Fs (P:=P) (w:=w) (b:=n) (off:=off) hA (fun i c hc=>by rw[Df h1];exact hc) h3 h;simp only[DU,Instr.sureAddr,FF,Result.andThen,HG]at h4 ⊢;rw[h4];exact Fu hR h5 h6
  .exact h.elim
 .rename_i n sz i off
  simp only[Ah]at hx;subst hx;unfold QX at h;split at h
  .rename_i sz' es cap hs
   obtain⟨rfl,h⟩:=h;split at h
   .rename_i e he
    obtain⟨c,e',h1,_,_,_,h3⟩:=FL hR hs;obtain⟨h7,h8⟩:=BH.1 h3 i e he;obtain⟨v,c',h4,h5,h6⟩:=Fs (P:=P) (w:=w) (b:=n) (off:=off) hA (fun i c hc=>by rw[Df h1];exact hc) h8 h;simp only[DU,Instr.sureAddr,FF,Result.andThen,HG]at h4 ⊢;rw[h4];exact Fu hR h5 h6
   .exact h.elim
  .exact h.elim
 .exact h.elim
def C4 {H:Nat->Nat->Option Value} {v:V} {c:Value} (hv:Ah H v c) {vs:List V} (h:cellsOf v=some vs):c.cells.size=vs.length/\Ba H (fun i=>c.cells[i]?) 0 vs:=by
 cases v<;>simp only[cellsOf]at h<;>first
  | (cases h;done)
  | (cases h
     have hc:c.cells= #[c]:=by
      first
       | (simp only[Ah]at hv;subst hv;rfl)
       | (simp only[Ah]at hv;obtain⟨rfl,_⟩:=hv;rfl)
       | (simp only[Ah]at hv;obtain⟨_,rfl,_⟩:=hv;rfl)
       | (simp only[Ah]at hv;obtain⟨_,_,rfl,_⟩:=hv;rfl)
     rw[hc]
     exact⟨rfl,⟨c,rfl,hv⟩,trivial⟩)
  | skip
 rename_i cs;cases h;obtain⟨c',rfl,h2,h3⟩:=hv;exact⟨h2,h3⟩
def Qy {H:Nat->Nat->Option Value} {v:V} {c:Value} (hv:Ah H v c) (h:CR v=true):c.oneCell'=true:=by
 cases v<;>first
  | (simp[CR]at h;done)
  | (simp only[Ah]at hv;subst hv;rfl)
  | (simp only[Ah]at hv;obtain⟨rfl,_⟩:=hv;rfl)
  | (simp only[Ah]at hv;obtain⟨_,rfl,_⟩:=hv;rfl)
  | (simp only[Ah]at hv;obtain⟨_,_,rfl,_⟩:=hv;rfl)
def lX {H:Nat->Nat->Option Value} {vs:List V} {c:Array Value} (hs:c.size=vs.length) (hv:Ba H (fun i=>c[i]?) 0 vs) (h:vs.all CR=true): ∀u∈c.toList,u.oneCell'=true:=by
 intro u hu;obtain⟨i,hi⟩:=List.mem_iff_getElem?.1 hu;have hlt:i<vs.length:=by rw[<-hs];have:=(JL.1 hi).1;simpa using this
 obtain⟨d,hd,hr⟩:=Bj.1 hv i vs[i] (Cs hlt);have:d=u:=by simp only[HG]at hd;rw[Array.getElem?_toList]at hi;rw[hi]at hd;cases hd;rfl
 subst this;exact Qy hr (EG.1 h _ (List.getElem_mem hlt))
def FR: ∀(us cs:List V) (o:Nat),(putAt cs o us).length=cs.length
 | [],_,_=>rfl
 | u::us,cs,o=>by simp only[putAt];rw[FR us];simp
def kx {H:Nat->Nat->Option Value} {c:Array Value} {vs:List V} {i:Nat} {v:V} {d:Value} (hs:c.size=vs.length) (h:Ba H (fun i=>c[i]?) 0 vs) (hv:Ah H v d) :
    Ba H (fun j=>(c.setIfInBounds i d)[j]?) 0 (vs.set i v):=by
 rw[Bj]at *;intro j u hu;simp only[HG]at h ⊢;rw[List.getElem?_set]at hu;split at hu
 .rename_i e
  subst e;split at hu
  .rename_i hlt
   cases hu;exact⟨d,by rw[Array.getElem?_setIfInBounds_self_of_lt (by omega)],hv⟩
  .cases hu
 .rename_i e
  obtain⟨c',h1,h2⟩:=h j u hu;exact⟨c',by rw[Array.getElem?_setIfInBounds_ne e];exact h1,h2⟩
def Mt {H:Nat->Nat->Option Value}: ∀ {us:List V} {ds:List Value} {c:Array Value} {vs:List V} {o:Nat},c.size=vs.length->Ba H (fun i=>c[i]?) 0 vs->ds.length=us.length->Ba H (fun i=>ds[i]?) 0 us->
    Ba H (fun i=>(C8 c o ds)[i]?) 0 (putAt vs o us)
 | [],[],c,vs,o,_,h,_,_=>h
 | u::us,d::ds,c,vs,o,hs,h,hl,hu=>by
   simp only[C8,putAt];obtain⟨⟨d',hd,hr⟩,hu'⟩:=hu;have e:d'=d:=by simp at hd;exact hd.symm
   subst e;exact Mt (by simpa using hs) (kx hs h hr) (by simpa using hl) (BF hu' (fun i _=>by rw[show 0+1+i=i+1 by omega];simp))
 | [],_::_,_,_,_,_,_,hl,_=>by simp at hl
 | _::_,[],_,_,_,_,_,hl,_=>by simp at hl
def DR: ∀(ds:List Value) (c:Array Value) (o i:Nat),(i<o\/o+ds.length<=i)->(C8 c o ds)[i]? =c[i]?
 | [],_,_,_,_=>rfl
 | d::ds,c,o,i,h=>by
   simp only[C8];rw[DR ds _ _ _ (by simp at h;omega),Array.getElem?_setIfInBounds_ne (by simp at h;omega)]
def Gh: ∀(ds:List Value) (c:Array Value) (o i:Nat),i<ds.length->o+ds.length<=c.size->(C8 c o ds)[o+i]? =ds[i]?
 | d ::ds,c,o,i,h,hs=>by
   simp only[C8];cases i with
   | zero=>
     simp at hs;rw[DR ds _ _ _ (by omega),Nat.add_zero,Array.getElem?_setIfInBounds_self_of_lt (by omega)];rfl
   | succ i=>
     rw[show o+(i+1)=o+1+i by omega,Gh ds _ _ i (by simpa using h) (by simp at hs ⊢;omega)];simp
 | [],_,_,_,h,_=>by simp at h
def YJ {t : TypeId} {sz:Nat} (hS:EY P t=some sz) (hR:Rel F Z w) {va vx:V} {ca cx:Value} (ha:Ah (Hh F Z w) va ca) (hx:Ah (Hh F Z w) vx cx)
    (h:AS Z sz va vx fun Z'=>k (.t []) Z'): ∃Z' w',(Instr.storeAt t ca cx).run P w= .ok () w'/\k (.t []) Z'/\Rel F Z' w'/\CD F Z w Z' w':=by
 unfold AS at h;split at h
 .rename_i vc hc
  obtain⟨hlen,hone,h⟩:=h;obtain⟨hcs,hcv⟩:=C4 hx hc;have h1s:=lX hcs hcv hone;have hcv':Ba (Hh F Z w) (fun i=>cx.cells.toList[i]?) 0 vc:=BF hcv (fun i _=>by simp)
  have hrun: ∀n o,ca= .pointer (some ⟨n,o,none⟩)->(Instr.storeAt t ca cx).run P w=(storeCells ⟨n,o,none⟩ cx.cells.toList).run P w:=by
   rintro n o rfl;have:cx.cells.size=sz:=by omega
   simp[Instr.storeAt,Instr.sureAddr,storeVar,Ed hS,this]
  split at h
  .rename_i n off
   split at h
   .rename_i vs hs
    obtain⟨hle,hk⟩:=h;simp only[Ah]at ha;obtain⟨c,e,h1,h2,h3⟩:=K1 hR hs;refine⟨_,Cf w n (.cells (C8 c off cx.cells.toList) e (0,0)),?_,hk,?_,HV hs _ _⟩
    .rw[hrun n off ha,Cw cx.cells.toList w c off 0 h1 (by simp;omega) h1s]
     rfl
    .exact KZ hR hs ⟨_,e,rfl,by rw[EF,FR];exact h2,Mt h2 h3 (by simp;omega) hcv'⟩
   .exact h.elim
  .rename_i n s i off
   split at h
   .rename_i s' es cap hs
    obtain⟨rfl,h⟩:=h;split at h
    .rename_i e he
     obtain⟨hle,hk⟩:=h;simp only[Ah]at ha;obtain⟨c,et,h1,h2,h3,h4,h5⟩:=FL hR hs;obtain⟨h6,h7⟩:=BH.1 h5 i e he;have hi:i<es.length:=(JL.1 he).1
     have hb:i*s+s<=c.size:=by
      rw[<-Nat.succ_mul];exact Nat.le_trans (Vr _ (by omega)) h2
     refine⟨_,Cf w n (.cells (C8 c (i*s+off) cx.cells.toList) et (0,0)),?_,hk,?_,HV hs _ _⟩
     .rw[hrun n _ ha,Cw cx.cells.toList w c _ 0 h1 (by simp;omega) h1s]
      rfl
     .refine KZ hR hs ⟨_,et,rfl,by rw[EF];exact h2,by simpa using h3,by simpa using h4,?_⟩
      rw[BH];intro j u hu;rw[List.getElem?_set]at hu;split at hu
      .rename_i ej
       subst ej;cases hu;refine⟨by rw[FR];exact h6,?_⟩
       have hrow:Ba (Hh F Z w) (fun q=>(c.extract (i*s) (i*s+s))[q]?) 0 e:=by
        refine BF h7 (fun q hq=>?_);simp only[HG];rw[Array.getElem?_extract_of_lt (by omega)];exact(Array.getElem?_eq_getElem (by omega)).symm
       have:=Mt (o:=off) (by simp;omega) hrow (by simp;omega) hcv';refine BF this (fun q hq=>?_);rw[FR]at hq;simp only[HG];by_cases hin:off<=q/\q<off+cx.cells.toList.length
       .obtain⟨r,rfl⟩: ∃r,q=off+r:=⟨q - off,by omega⟩
        rw[show i*s+(off+r)=i*s+off+r by omega,Gh _ _ _ _ (by omega) (by simp;omega),Gh _ _ _ _ (by omega) (by simp;omega)]
       .rw[DR _ _ _ _ (by omega),DR _ _ _ _ (by omega),Array.getElem?_extract_of_lt (by omega)]
        exact Array.getElem?_eq_getElem (by omega)
      .rename_i ej
       obtain⟨h8,h9⟩:=BH.1 h5 j u hu;refine⟨h8,BF h9 (fun q hq=>?_)⟩;rw[DR];rcases Nat.lt_or_ge j i with hji|hji
       .left
        have:(j+1)*s<=i*s:=Vr _ hji;rw[Nat.succ_mul]at this;omega
       .right
        have:(i+1)*s<=j*s:=Vr _ (by omega);rw[Nat.succ_mul]at this;simp;omega
    .exact h.elim
   .exact h.elim
  .exact h.elim
 .exact h.elim
end Go.Gl
namespace Go.Gl
variable {P:Program} {F:Nat->Prop} {Z:AE} {w:World} {k kp:V->AE->Prop}
def Tk (hR:Rel F Z w) {cells:Array Value} {e:TypeId} {cs:List V} (hs:cells.size=cs.length) (hv:Ba (Hh F Z w) (fun i=>cells[i]?) 0 cs)
    (h: ∀n,Z n=none->k (.p n 0) (B7 Z n (.cs cs))):Cl F Z w k kp ((do pure (.pointer (some (<-newRow e cells))):Sem Value).run P w):=by
 simp only[newRow,DU,run_newObj,FF,Result.andThen,World.alloc_eq];exact⟨.p w.heap.size 0,_,h _ hR.new,rfl,IX hR ⟨cells,e,rfl,hs,hv⟩,EM _ _⟩
def fD (e:TypeId) (hR:Rel F Z w) {vx:V} {c:Value} (hx:Ah (Hh F Z w) vx c) {cs:List V} (hc:cellsOf vx=some cs) (h: ∀n,Z n=none->k (.p n 0) (B7 Z n (.cs cs))) :
    Cl F Z w k kp ((Instr.box e c).run P w):=by
 obtain⟨h1,h2⟩:=C4 hx hc;exact Tk hR h1 h2 h
def G3 {z:Option V} {cs:List V} (h:Lm z=some cs): ∃v,z=some v/\cellsOf v=some cs:=by
 cases z with
 | none=>cases h
 | some v=>cases v<;>first|(cases h;done)|(cases h;exact⟨_,rfl,rfl⟩)
def YO {e:TypeId} {z:List V} (hz:Lm (zeroOf P e)=some z) (hR:Rel F Z w) (h: ∀n,Z n=none->k (.p n 0) (B7 Z n (.cs z))) :
    Cl F Z w k kp ((Instr.alloc e true (.tuple #[])).run P w):=by
 obtain⟨v,h1,h2⟩:=G3 hz;obtain⟨c,h3,h4⟩:=Eu h1 w;obtain⟨h5,h6⟩:=C4 (HN (H:=Hh F Z w) h4) h2;have:=Tk (P:=P) (kp:=kp) (e:=e) hR h5 h6 h;unfold Instr.alloc;simp only[DU,h3,Result.andThen]at this ⊢;simpa[newVar,newRow]using this
def YN {s:TypeId} {fields:Array Field} {f:Nat} {fd:Field} {sz:Nat} (hu:P.underlying s=some (.struct fields)) (hf:fields[f]? =some fd) (hs:EY P fd.type=some sz) (h0:sz≠0)
    (hR:Rel F Z w) {vx:V} {c:Value} (hx:Ah (Hh F Z w) vx c) (h:Lk fd.offset vx fun v=>k v Z):Cl F Z w k kp ((Instr.fieldAt s c f).run P w):=by
 have hrun: ∀b o,c= .pointer (some ⟨b,o,none⟩)->(Instr.fieldAt s c f).run P w= .ok (.pointer (some ⟨b,o+fd.offset,none⟩)) w:=by
  rintro b o rfl;simp[Instr.fieldAt,BK hu,hf,Instr.sureAddr,fieldPlace,Ed hs,h0,Cv]
 unfold Lk at h;split at h
 .obtain⟨b,o,hc,hv⟩:=hx
  rw[hrun b o hc];exact Aw hR h ⟨b,_,rfl,Kl hv _⟩
 .rw[hrun _ _ hx]
  exact Aw hR h rfl
 .simp only[Ah]at hx
  rw[hrun _ _ hx,Nat.add_assoc];exact Aw hR h rfl
 .exact h.elim
def bK {t:TypeId} {agg:Option Nat} (hA:Ja P t=some agg) {H:Nat->Nat->Option Value} {c:Array Value} {off:Nat} {vs:List V} (hs:c.size=vs.length) (hv:Ba H (fun i=>c[i]?) 0 vs)
    {K:V->Prop} (hk:cut agg vs off K) (w:World): ∃v d,(part t c off).run P w= .ok d w/\Ah H v d/\K v:=by
 obtain⟨h1,h2⟩:=TN hA w;unfold part;simp only[DU,h1,Result.andThen];cases agg with
 | none=>
   simp only[cut]at hk;split at hk
   .rename_i v hv'
    obtain⟨d,hd,hr⟩:=Bj.1 hv off v hv';refine⟨v,d,?_,hr,hk⟩;simp only[HG]at hd;simp[hd]
   .exact hk.elim
 | some n=>
   simp only[cut]at hk;refine⟨.a ((vs.drop off).take n),.agg (c.extract off (off+n)),by simp[h2 n rfl],⟨_,rfl,by simp;omega,?_⟩,hk.2⟩;refine BF (TB (Kl hv off) n) (fun i hi=>?_);simp at hi;rw[Array.getElem?_extract_of_lt (by omega)];rw[show 0+off+i=off+(0+i) by omega];exact(Array.getElem?_eq_getElem (by omega)).symm
def YM {s:TypeId} {fields:Array Field} {f:Nat} {fd:Field} {agg:Option Nat} (hu:P.underlying s=some (.struct fields)) (hf:fields[f]? =some fd) (hA:Ja P fd.type=some agg)
    (hR:Rel F Z w) {cs:List V} {c:Value} (hx:Ah (Hh F Z w) (.a cs) c) (h:cut agg cs fd.offset fun v=>k v Z):Cl F Z w k kp ((Instr.field s c f).run P w):=by
 obtain⟨c',rfl,h1,h2⟩:=hx;obtain⟨v,d,h3,h4,h5⟩:=bK hA h1 h2 h w;simp only[Instr.field,DU,BK hu,Result.andThen,hf,asAgg,FF,h3];exact Fu hR h4 h5
def YL {t e:TypeId} {len sz:Nat} {agg:Option Nat} (hu:P.underlying t=some (.array len e)) (hs:EY P e=some sz) (hA:Ja P e=some agg)
    (hR:Rel F Z w) {vx vi:V} {cx ci:Value} (hx:Ah (Hh F Z w) vx cx) (hi:Ah (Hh F Z w) vi ci) (h:Lj len sz agg vx vi fun v=>k v Z):Cl F Z w k kp ((Instr.index t cx ci).run P w):=by
 unfold Lj at h;split at h
 .rename_i cs ki j
  obtain⟨h0,h1,h⟩:=h;obtain⟨c',rfl,h2,h3⟩:=hx;obtain⟨rfl,_⟩:=hi;obtain⟨v,d,h4,h5,h6⟩:=bK hA h2 h3 h w;simp only[Instr.index,DU,asIntOf,FF,Result.andThen,BK hu,h0,h1,and_self,if_true,Ed hs,h4];exact Fu hR h5 h6
 .exact h.elim
def run_indexAt_slice {t e:TypeId} {sz:Nat} (hu:P.underlying t=some (.slice e)) (hs:EY P e=some sz) {b o:Nat} {n cap:Nat} {j:Int} {ki:IntKind} (h0:0<=j) (h1:j<n) :
    (Instr.indexAt t (.slice (some ⟨b,o,none⟩) n cap) (.int ki j)).run P w= .ok (.pointer (some ⟨b,o+j.toNat*sz,none⟩)) w:=by
 simp[Instr.indexAt,asIntOf,BK hu,h0,h1,Ed hs,Cv]
def run_indexAt_array {t e:TypeId} {sz m:Nat} (hu:P.underlying t=some (.array m e)) (hs:EY P e=some sz) {b o:Nat} {j:Int} {ki:IntKind} (h0:0<=j) (h1:j<m) :
    (Instr.indexAt t (.pointer (some ⟨b,o,none⟩)) (.int ki j)).run P w= .ok (.pointer (some ⟨b,o+j.toNat*sz,none⟩)) w:=by
 simp[Instr.indexAt,asIntOf,BK hu,h0,h1,Ed hs,Cv,Instr.sureAddr]
def Ng {t e:TypeId} {sz:Nat} (hu:P.underlying t=some (.slice e)) (hs:EY P e=some sz)
    (hR:Rel F Z w) {vx vi:V} {cx ci:Value} (hx:Ah (Hh F Z w) vx cx) (hi:Ah (Hh F Z w) vi ci) (h:AR sz none vx vi fun v=>k v Z):Cl F Z w k kp ((Instr.indexAt t cx ci).run P w):=by
 cases vi<;>simp only[AR]at h
 rename_i ki j;obtain⟨rfl,_⟩:=hi;cases vx<;>simp only at h
 .rename_i es full
  obtain⟨h0,e',he,hl,h⟩:=h;obtain⟨a,cap,rfl,_,_,_,_,h6⟩:=hx;have hlt:=(JL.1 he).1;obtain⟨b,o,s,rfl,h7⟩:=h6 (by rintro rfl;simp at he);obtain⟨h8,h9⟩:=BH.1 h7 _ _ he;have:s=sz:=by omega
  subst this;rw[run_indexAt_slice hu hs h0 (by omega)];exact Aw hR h ⟨b,_,rfl,h9⟩
 .rename_i n len cap
  obtain⟨h0,h1,h⟩:=h;obtain⟨rfl,_⟩:=hx;rw[run_indexAt_slice hu hs h0 h1];exact Aw hR h (by simp[Ah])
 .rename_i n s off len
  obtain⟨rfl,h0,h1,h⟩:=h;obtain⟨a,cap,rfl,_,h3⟩:=hx;obtain rfl:=h3 (by omega);rw[run_indexAt_slice hu hs h0 h1];exact Aw hR h (by simp[Ah,Nat.add_mul])
def Nh {t e:TypeId} {sz m:Nat} (hu:P.underlying t=some (.array m e)) (hs:EY P e=some sz)
    (hR:Rel F Z w) {vx vi:V} {cx ci:Value} (hx:Ah (Hh F Z w) vx cx) (hi:Ah (Hh F Z w) vi ci) (h:AR sz (some m) vx vi fun v=>k v Z):Cl F Z w k kp ((Instr.indexAt t cx ci).run P w):=by
 cases vi<;>simp only[AR]at h
 rename_i ki j;obtain⟨rfl,_⟩:=hi;cases vx<;>simp only at h
 .rename_i n o
  obtain⟨h0,h1,h⟩:=h;simp only[Ah]at hx;subst hx;rw[run_indexAt_array hu hs h0 h1];exact Aw hR h rfl
 .rename_i cs
  obtain⟨h0,h1,h⟩:=h;obtain⟨b,o,rfl,hv⟩:=hx;rw[run_indexAt_array hu hs h0 h1];exact Aw hR h ⟨b,_,rfl,Kl hv _⟩
 .rename_i n s q o
  obtain⟨h0,h1,h⟩:=h;simp only[Ah]at hx;subst hx;rw[run_indexAt_array hu hs h0 h1,Nat.add_assoc];exact Aw hR h rfl
end Go.Gl
namespace Go.Gl
variable {P:Program} {F:Nat->Prop} {Z:AE} {w:World} {k kp:V->AE->Prop}
def VA {n sz j:Nat} (h:j<n*sz):j / sz<n/\j % sz<sz:=by
 have hs:0<sz:=by
  rcases Nat.eq_zero_or_pos sz with h0|h0
  .subst h0;simp at h
  .exact h0
 exact⟨(Nat.div_lt_iff_lt_mul hs).2 h,Nat.mod_lt _ hs⟩
def Kr {H:Nat->Nat->Option Value} {g:Nat->Option Value} {sz o:Nat} {es:List (List V)} (h:BJ H g sz o es) :
    ∃cs:List Value,cs.length=es.length*sz/\(∀j v,cs[j]? =some v->g (o+j)=some v)/\BJ H (fun i=>cs[i]?) sz 0 es:=by
 have hex: ∀j,j<es.length*sz-> ∃c,g (o+j)=some c:=fun j hj=>by
  obtain⟨h1,h2⟩:=VA hj;obtain⟨h3,h4⟩:=BH.1 h (j / sz) es[j / sz] (Cs h1);obtain⟨c,hc,_⟩:=Bj.1 h4 (j % sz) _ (Cs (by omega));refine⟨c,?_⟩;rw[<-hc];congr 1;have:=Nat.div_add_mod' j sz;omega
 refine⟨(List.range (es.length*sz)).map fun j=>(g (o+j)).getD undef,by simp,fun j v hv=>?_,?_⟩
 .have hlt:j<es.length*sz:=by simpa using(JL.1 hv).1
  rw[Jm,List.getElem?_range hlt]at hv;obtain⟨c,hc⟩:=hex j hlt;simp[hc]at hv;rw[hc,hv]
 .rw[BH]at *
  intro i e he;obtain⟨h1,h2⟩:=h i e he;refine⟨h1,BF h2 (fun q hq=>?_)⟩;have hi:=(JL.1 he).1
  have hlt:0+i*sz+q<es.length*sz:=by
   have:(i+1)*sz<=es.length*sz:=Vr _ hi;rw[Nat.succ_mul]at this;omega
  obtain⟨c,hc⟩:=hex _ hlt;rw[Jm,List.getElem?_range hlt];rw[show o+i*sz+q=o+(0+i*sz+q) by omega,hc];simp only[Ya,hc,Option.getD_some]
def HX {H:Nat->Nat->Option Value} {g:Nat->Option Value} {sz o:Nat} {es fs:List (List V)} (h:BJ H g sz o es) (k:BJ H g sz (o+es.length*sz) fs):BJ H g sz o (es++fs):=by
 rw[BH]at *;intro i e he;rw[List.getElem?_append]at he;split at he
 .exact h i e he
 .rename_i hlt
  obtain⟨h1,h2⟩:=k _ e he;refine⟨h1,?_⟩
  have:o+es.length*sz+(i - es.length)*sz=o+i*sz:=by
   rw[Nat.add_assoc,<-Nat.add_mul];congr 2;omega
  rw[<-this];exact h2
def Ev {H:Nat->Nat->Option Value} {g g':Nat->Option Value} {sz o o':Nat} {es:List (List V)} (h:BJ H g sz o es) (hg: ∀j,j<es.length*sz->g' (o'+j)=g (o+j)):BJ H g' sz o' es:=by
 rw[BH]at *;intro i e he;obtain⟨h1,h2⟩:=h i e he;refine⟨h1,BF h2 (fun q hq=>?_)⟩;have hi:=(JL.1 he).1
 have hlt:i*sz+q<es.length*sz:=by
  have:(i+1)*sz<=es.length*sz:=Vr _ hi;rw[Nat.succ_mul]at this;omega
 have:=hg _ hlt;rw[Nat.add_assoc,Nat.add_assoc];exact this
def IW {H:Nat->Nat->Option Value} {g:Nat->Option Value} {sz o:Nat} {es:List (List V)} (h:BJ H g sz o es) (n:Nat):BJ H g sz o (es.take n):=by
 rw[BH]at *;intro i e he;rw[List.getElem?_take]at he;split at he
 .exact h i e he
 .cases he
def OR {H:Nat->Nat->Option Value} {g:Nat->Option Value} {sz o:Nat} {es:List (List V)} (h:BJ H g sz o es) (n:Nat):BJ H g sz (o+n*sz) (es.drop n):=by
 rw[BH]at *;intro i e he;rw[zZ]at he;obtain⟨h1,h2⟩:=h _ e he;refine⟨h1,?_⟩;rw[Nat.add_mul,<-Nat.add_assoc]at h2;exact h2
def KA {H:Nat->Nat->Option Value} {g:Nat->Option Value} {sz o:Nat} {es:List (List V)} (h:BJ H g sz o es) {e:List V} (he:e∈es):e.length=sz:=by
 obtain⟨i,hi⟩:=List.mem_iff_getElem?.1 he;exact(BH.1 h i e hi).1
def Lt (hR:Rel F Z w) {sz:Nat} {vy:V} {cy:Value} (hy:Ah (Hh F Z w) vy cy) {K:List (List V)->Prop} (h:rowsOf Z sz vy K) :
    ∃ ys base cap,K ys/\cy= .slice base ys.length cap/\(∀e∈ys,e.length=sz)/\
      (ys= []\/ ∃b o g,base=some ⟨b,o,none⟩/\(∀i c,g i=some c->w.cell? ⟨b,i,none⟩=some c)/\BJ (Hh F Z w) g sz o ys):=by
 cases vy<;>simp only[rowsOf]at h
 .rename_i ys full
  obtain⟨hl,h⟩:=h;obtain⟨a,cap,rfl,_,_,_,_,h6⟩:=hy;refine⟨ys,a,cap,h,rfl,hl,?_⟩;by_cases hne:ys= []
  .exact .inl hne
  .obtain⟨b,o,s,rfl,h7⟩:=h6 hne
   right;obtain⟨e,r,rfl⟩:=List.exists_cons_of_ne_nil hne;have:s=sz:=by rw[<-hl e (by simp)];exact(KA h7 (by simp)).symm
   subst this;exact⟨b,o,_,rfl,fun i c hc=>(Ga hc).2.2,h7⟩
 .rename_i m len cap
  split at h
  .rename_i s ys c hs
   obtain⟨rfl,hle,h⟩:=h;obtain⟨rfl,_⟩:=hy;obtain⟨c',e,h1,h2,h3,h4,h5⟩:=FL hR hs;refine⟨_,_,cap,h,by simp[Nat.min_eq_left hle],fun e he=>KA h5 (List.mem_of_mem_take he),.inr ⟨m,0,_,rfl,fun i c hc=>?_,IW h5 _⟩⟩;rw[Df h1];exact hc
  .exact h.elim
 .rename_i m s off len
  split at h
  .rename_i s' ys c hs
   obtain⟨rfl,rfl,hle,h⟩:=h;obtain⟨a,cap,rfl,_,h6⟩:=hy;obtain⟨c',e,h1,h2,h3,h4,h5⟩:=FL hR hs;refine⟨_,a,cap,h,by simp;omega,fun e he=>KA h5 (List.mem_of_mem_drop (List.mem_of_mem_take he)),?_⟩;by_cases h0:len=0
   .left;simp[h0]
   .right
    obtain rfl:=h6 h0;refine⟨m,off*s',_,rfl,fun i c hc=>?_,IW (by have:=OR h5 off;simpa using this) _⟩;rw[Df h1];exact hc
  .exact h.elim
def MD (t ty e:TypeId) (i:TypeInfo) (ht:P.underlying t=some (.slice e)) (hi:P.info? e=some i) (base:Option Addr) (n cap:Nat) (hn:n<=cap) (b2:Option Addr) (c2:Nat) :
    (Builtin.append_ #[t,t] ty #[.slice base n cap,.slice b2 0 c2]).run P w= .ok (.slice base n cap) w:=by
 cases base<;>cases b2<;>simp[Builtin.append_,run_underlying ht,sizeOf,typeInfo,hi,Builtin.lenOf,hn,Builtin.firstCells,loadCells,loadCellsFrom,storeCells]
def YV {o:O} {ob:Obj} {n:Nat}:CD F Z w (B7 (del Z n) w.heap.size o) (w.drew.alloc ob) where
 frame m hm _:=RowKit.Below.heap_alloc _ _ _ hm
 size:=by simp
 os:=rfl
 tape:=rfl
 output:=rfl
 names m h0 hm:=by
  rw[Cm _ _ (by omega)];by_cases e:m=n
  .subst e;exact De _ _
  .rw[Hp _ e];exact h0
def Vl {t e : TypeId} {i:TypeInfo} {z:Value} (ty:TypeId) (ht:P.underlying t=some (.slice e)) (hi:P.info? e=some i) (hz:i.zero=some z) (hzs:z.cells.size=i.size) (hb:i.bytes<=4096)
    (hR:Rel F Z w) {vx vy:V} {cx cy:Value} (hx:Ah (Hh F Z w) vx cx) (hy:Ah (Hh F Z w) vy cy) (h:AK i.bytes Z i.size vx vy k) :
    Cl F Z w k kp ((Builtin.append_ #[t,t] ty #[cx,cy]).run P w):=by
 have h':=Lt hR hy h;clear h;obtain⟨ys,base,c2,⟨hone,h⟩,rfl,hyl,hys⟩:=h'
 have hnews:ys≠[]-> ∃b o,base=some ⟨b,o,none⟩/\ ∃news:List Value,news.length=ys.length*i.size/\(∀j v,news[j]? =some v->w.cell? ((⟨b,o,none⟩:Addr).add j)=some v)/\
  BJ (Hh F Z w) (fun q=>news[q]?) i.size 0 ys/\ ∀u∈news,u.oneCell'=true:=fun hne=>by
  rcases hys with hys|⟨b,o,g,rfl,hg,hrow⟩
  .exact absurd hys hne
  .obtain⟨news,h1,h2,h3⟩:=Kr hrow
   refine⟨b,o,rfl,news,h1,fun j v hv=>by rw[Cv];exact hg _ _ (h2 j v hv),h3,fun u hu=>?_⟩;obtain⟨j,hj⟩:=List.mem_iff_getElem?.1 hu;have hlt:j<ys.length*i.size:=by rw[<-h1];exact(JL.1 hj).1
   obtain⟨h4,h5⟩:=VA hlt;obtain⟨h6,h7⟩:=BH.1 h3 (j / i.size) _ (Cs h4);obtain⟨c,hc,hr⟩:=Bj.1 h7 (j % i.size) _ (Cs (by omega));have hdm:=Nat.div_add_mod' j i.size;rw[show 0+j / i.size*i.size+j % i.size=j by omega,hj]at hc;cases hc;exact Qy hr (hone _ (List.getElem_mem h4) _ (List.getElem_mem _))
 have grown: ∀(es:List (List V)) (olds news:List Value) (L cap n:Nat),olds.length=es.length*i.size->news.length=ys.length*i.size->BJ (Hh F Z w) (fun q=>olds[q]?) i.size 0 es->BJ (Hh F Z w) (fun q=>news[q]?) i.size 0 ys->
  L=es.length+ys.length->L<=Aa->
  (∀n' cap',del Z n n'=none->L<=cap'->k (.sl n' L cap') (B7 (del Z n) n' (.arr i.size (es++ys) cap')))->
  Cl F Z w k kp (.ok (.slice (some ⟨w.heap.size,0,none⟩) L (grownCap w L cap e)) (w.drew.alloc (.cells (olds.toArray++news.toArray++Builtin.zeroCells z.cells (grownCap w L cap e - L)) e))):=by
  intro es olds news L cap n ho hn hro hrn hL hLm hk;have hge:=grownCap_ge w L cap e;have ha:CD F Z w (B7 (del Z n) w.heap.size (.arr i.size (es++ys) (grownCap w L cap e))) (w.drew.alloc (.cells (olds.toArray++news.toArray++Builtin.zeroCells z.cells (grownCap w L cap e - L)) e)):=YV
  have hfresh:del Z n w.heap.size=none:=by
   unfold del;split
   .rfl
   .exact hR.new
  refine⟨_,_,hk w.heap.size _ hfresh hge,⟨rfl,hge⟩,?_,ha⟩;refine hR.step ha fun m o' hm=>?_
  by_cases em:m=w.heap.size
  .subst em
   rw[DJ]at hm;cases hm;refine .inr ⟨fun hl=>absurd (hR.lock _ hl) (Nat.lt_irrefl _),_,heap_alloc_new w.drew _,_,e,rfl,?_,by simp;omega,by simp;omega,?_⟩
   .refine Nat.le_of_eq (Eq.symm ?_)
    simp only[Array.size_append,List.size_toArray,size_zeroCells,hzs,ho,hn,<-Nat.add_mul];congr 1;omega
   .refine HX (BJ.mono ha.hle (fun _ _ e=>e) _ _ _ (Ev hro fun j hj=>?_)) (BJ.mono ha.hle (fun _ _ e=>e) _ _ _ (Ev hrn fun j hj=>?_))
    .simp only[HG]
     rw[Array.getElem?_append_left (by simp[ho,hn];omega),Array.getElem?_append_left (by simp[ho];omega)];simp
    .simp only[HG]
     rw[Array.getElem?_append_left (by simp[ho,hn];omega),Array.getElem?_append_right (by simp[ho])];simp[ho]
  .rw[Cm _ _ em]at hm
   have hmn:m≠n:=fun e=>by rw[e,De]at hm;cases hm
   rw[Hp _ hmn]at hm;exact .inl ⟨hm,heap_alloc_old w.drew _ _ (hR.lt hm)⟩
 by_cases hne:ys= []
 .subst hne
  have hrun: ∀(n cap:Nat) (b:Option Addr),n<=cap->(Builtin.append_ #[t,t] ty #[.slice b n cap,.slice base ([]:List (List V)).length c2]).run P w= .ok (.slice b n cap) w:=fun n cap b hn=>MD t ty e i ht hi b n cap hn base c2
  cases vx<;>simp only at h
  .rename_i es full
   obtain⟨_,_,h,_⟩:=h;have hx':=hx;obtain⟨a,cap,rfl,h2,_⟩:=hx;rw[hrun _ _ _ h2];exact Aw hR (h trivial) hx'
  .rename_i n len cap
   split at h
   .rename_i s es c hs
    obtain⟨rfl,rfl,rfl,hm,h⟩:=h;have hx':=hx;obtain⟨rfl,h2⟩:=hx;rw[hrun _ _ _ h2];have:=h n c (De _ _) (by simpa using h2);simp only[List.length_nil,Nat.add_zero,Ez]at this
    have e:B7 (del Z n) n (.arr i.size es c)=Z:=by
     funext m;unfold B7 del;split
     .rename_i e;rw[e,hs]
     .rfl
    rw[e]at this;exact Aw hR this hx'
   .exact h.elim
 .obtain ⟨b,o,rfl,news,hnl,hnc,hnr,hn1⟩:=hnews hne
  have hpos:0<ys.length:=List.length_pos_iff.2 hne;cases vx<;>simp only at h
  .rename_i es full
   obtain⟨hel,hm,_,h⟩:=h;obtain⟨rfl,hkk⟩:=h hne;obtain⟨a,cap,rfl,h2,h3,h4,h5,h6⟩:=hx;obtain rfl:=h3 rfl
   have hk': ∀n' cap',del Z w.heap.size n'=none->es.length+ys.length<=cap'->k (.sl n' (es.length+ys.length) cap') (B7 (del Z w.heap.size) n' (.arr i.size (es++ys) cap')):=by
    have hd:del Z w.heap.size=Z:=by
     funext m;unfold del;split
     .rename_i e;rw[e,hR.new]
     .rfl
    rw[hd];exact hkk
   cases a with
   | none=>
     have h0:es.length=0:=by simpa using h5 rfl
     obtain rfl:es= []:=List.eq_nil_of_length_eq_zero h0;simp only[List.length_nil,HG]at hm hk' ⊢;rw[run_append_nil w t ty e i z ht hi hz ⟨b,o,none⟩ ys.length c2 news hnl hnc hpos (by have:=hm.1;unfold Aa at this;omega) (by have:=hm.2;omega)];have hgo:=grown [] [] news ys.length 0 w.heap.size (by simp) hnl trivial hnr (by simp) hm.1 hk';simpa using hgo
   | some a=>
     have holds: ∃olds:List Value,olds.length=es.length*i.size/\(∀j v,olds[j]? =some v->w.cell? (a.add j)=some v)/\BJ (Hh F Z w) (fun q=>olds[q]?) i.size 0 es:=by
      by_cases hes:es= []
      .subst hes;exact⟨[],by simp,by simp,trivial⟩
      .obtain⟨b',o',s,ha,h7⟩:=h6 hes
       cases ha;obtain⟨e0,r,rfl⟩:=List.exists_cons_of_ne_nil hes;have:s=i.size:=by rw[<-hel e0 (by simp)];exact(KA h7 (by simp)).symm
       subst this;obtain⟨olds,h8,h9,h10⟩:=Kr h7;exact⟨olds,h8,fun j v hv=>by rw[Cv];exact(Ga (h9 j v hv)).2.2,h10⟩
     obtain⟨olds,h8,h9,h10⟩:=holds;rw[run_append_grow w t ty e i z ht hi hz a es.length es.length olds h8 h9 ⟨b,o,none⟩ ys.length c2 news hnl hnc (by omega) (by have:=hm.1;unfold Aa at this;omega) (growslice_fits (by omega) hm.2)];exact grown es olds news _ _ w.heap.size h8 hnl h10 hnr rfl hm.1 hk'
  .rename_i n len cap
   split at h
   .rename_i s es c hs
    obtain⟨rfl,rfl,rfl,hm,h⟩:=h;obtain⟨rfl,h2⟩:=hx;obtain⟨cur,et,h3,h4,h5,h6,h7⟩:=FL hR hs;by_cases hroom:es.length+ys.length<=c
    ·
     have hmul:(es.length+ys.length)*i.size<=c*i.size:=Vr _ hroom;rw[Nat.add_mul]at hmul;have hcell:et=et:=rfl;have hrunF:=run_firstCells_some (P:=P) w i.size ys.length ⟨b,o,none⟩ ys.length c2 news hnl hnc;have hst:=Cw (P:=P) news w cur (es.length*i.size) 0 h3 (by omega) hn1;simp only[Nat.add_zero]at hst
     have hrun:(Builtin.append_ #[t,t] ty #[.slice (some ⟨n,0,none⟩) es.length c,.slice (some ⟨b,o,none⟩) ys.length c2]).run P w =
      .ok (.slice (some ⟨n,0,none⟩) (es.length+ys.length) c) (Cf w n (.cells (C8 cur (es.length*i.size) news) et (0,0))):=by
      simp[Builtin.append_,run_underlying ht,sizeOf,typeInfo,hi,Builtin.lenOf,hroom,hrunF,Cv,hst]
     rw[hrun];have hk:=h n c (De _ _) hroom
     have eu:B7 (del Z n) n (.arr i.size (es++ys) c)=B7 Z n (.arr i.size (es++ys) c):=by
      funext m;unfold B7 del;split
      .rfl
      .rfl
     rw[eu]at hk;refine⟨_,_,hk,⟨rfl,hroom⟩,KZ hR hs ⟨_,et,rfl,by rw[EF];exact h4,by simp;omega,by simp;omega,?_⟩,HV hs _ _⟩;refine HX (Ev h7 fun j hj=>?_) (Ev hnr fun j hj=>?_)
     .exact DR _ _ _ _ (by omega)
     .simp only[HG]
      exact Gh _ _ _ _ (by omega) (by omega)
    .obtain⟨olds,h8,h9,h10⟩:=Kr h7
     rw[run_append_grow w t ty e i z ht hi hz ⟨n,0,none⟩ es.length c olds h8 (fun j v hv=>by rw[Cv,Df h3];simpa using h9 j v hv) ⟨b,o,none⟩ ys.length c2 news hnl hnc (by omega) (by have:=hm.1;unfold Aa at this;omega)
      (growslice_fits (by omega) hm.2)]
     exact grown es olds news _ _ n h8 hnl h10 hnr rfl hm.1 h
   .exact h.elim
end Go.Gl
namespace Go.Gl
variable {P:Program} {F:Nat->Prop} {Z:AE} {w:World} {k kp:V->AE->Prop}
def Zp (hR:Rel F Z w) {n sz cap:Nat} {es:List (List V)} (hs:Z n=some (.arr sz es cap)):BJ (Hh F (del Z n) w) (Hh F (del Z n) w n) sz 0 es/\es.length<=cap/\es.length<=Aa:=by
 obtain⟨c,e,h1,h2,h3,h4,h5⟩:=FL hR hs;refine⟨BJ.mono (FP fun m hm=>(GY Z n).none hm) (fun i v hv=>?_) _ _ _ h5,h3,h4⟩;rw[O6 (hR.own n _ hs).1 (De Z n),Df h1];exact hv
def eY (hR:Rel F Z w) {n sz cap:Nat} {es:List (List V)} (hs:Z n=some (.arr sz es cap)):Rel F (B7 Z n (.arr sz es es.length)) w/\CD F Z w (B7 Z n (.arr sz es es.length)) w:=by
 have hh:Hh F (B7 Z n (.arr sz es es.length)) w=Hh F Z w:=by
  funext b o
  have e:(B7 Z n (.arr sz es es.length) b).isSome=(Z b).isSome:=by
   by_cases e:b=n
   .rw[e,DJ,hs];rfl
   .rw[Cm _ _ e]
  unfold Hh;by_cases hl:F b\/(Z b).isSome=true
  .rw[if_pos hl,if_pos (by rw[e];exact hl)]
  .rw[if_neg hl,if_neg (by rw[e];exact hl)]
 refine⟨⟨fun m o ho=>?_,hR.lock⟩,⟨fun _ _ _=>rfl,Hz _,rfl,rfl,rfl,fun m hm _=>?_⟩⟩
 .rw[hh]
  by_cases e:m=n
  .subst e
   rw[DJ]at ho;cases ho;obtain⟨h1,ob,h2,c,ce,h3,h4,h5,h6,h7⟩:=hR.own m _ hs;exact⟨h1,ob,h2,c,ce,h3,Nat.le_trans (Vr _ h5) h4,Hz _,h6,h7⟩
  .rw[Cm _ _ e]at ho
   exact hR.own m o ho
 .have e:m≠n:=fun e=>by rw[e,hs]at hm;cases hm
  rw[Cm _ _ e];exact hm
def hZ (H:Nat->Nat->Option Value) (v:Option V) (c:Option Value):Prop:=match v,c with|none,none=>True|some v,some c=>Ah H v c|_,_=>False
def BRel (o:Option V) (c:Option Value):Prop:=
 match o,c with
 | none,none=>True
 | some v,some c=> ∃ki n,v= .i ki n/\c= .int ki n
 | _,_=>False
def OF {o:Option V} {c:Option Value} {H:Nat->Nat->Option Value} {d:Int} {K:Int->Prop} (hr:hZ H o c) (h:Ow o d K) :
    BRel o c/\ ∃n,K n/\((o=none/\n=d)\/ ∃ki,c=some (.int ki n)):=by
 cases o with
 | none=>
   cases c with
   | none=>exact⟨trivial,d,h,.inl ⟨rfl,rfl⟩⟩
   | some c=>exact hr.elim
 | some v=>
   cases c with
   | none=>exact hr.elim
   | some c=>
     cases v<;>simp only[Ow]at h
     rename_i ki n;obtain⟨rfl,_⟩:=hr;exact⟨⟨ki,n,rfl,rfl⟩,n,h,.inr ⟨ki,rfl⟩⟩
def Pe {len cap:Nat} {lo hi mx:Option Value} {l h m:Int} (hl:(lo=none/\l=0)\/ ∃ki,lo=some (.int ki l)) (hh:(hi=none/\h=len)\/ ∃ki,hi=some (.int ki h))
    (hm:(mx=none/\m=cap)\/ ∃ki,mx=some (.int ki m)) (hmh:mx.isSome=true->hi.isSome=true) (h0:0<=l) (h1:l<=h) (h2:h<=m) (h3:m<=cap) :
    (Instr.sliceBounds true len cap lo hi mx).run P w= .ok (l.toNat,h.toNat,m.toNat) w:=by
 have eh:(h.toNat:Int)=h:=Int.toNat_of_nonneg (by omega);have em:(m.toNat:Int)=m:=Int.toNat_of_nonneg (by omega);have bl: ∀ki code,(Instr.sliceBound (.int ki l) h.toNat code).run P w= .ok l.toNat w:=fun ki code=>run_sliceBound w ki l _ code h0 (by omega)
 have bh: ∀ki code,(Instr.sliceBound (.int ki h) m.toNat code).run P w= .ok h.toNat w:=fun ki code=>run_sliceBound w ki h _ code (by omega) (by omega)
 have bm: ∀ki code,(Instr.sliceBound (.int ki m) cap code).run P w= .ok m.toNat w:=fun ki code=>run_sliceBound w ki m _ code (by omega) (by omega)
 unfold Instr.sliceBounds;rcases hm with⟨rfl,rfl⟩|⟨km,rfl⟩
 .simp only[Fi]at bh
  rcases hh with⟨rfl,rfl⟩|⟨kh,rfl⟩
  .simp only[Fi]at bl
   rcases hl with⟨rfl,rfl⟩|⟨kl,rfl⟩
   .simp
   .simp[bl]
  .rcases hl with⟨rfl,rfl⟩|⟨kl,rfl⟩
   .simp[bh]
   .simp[bh,bl]
 .rcases hh with⟨rfl,rfl⟩|⟨kh,rfl⟩
  .simp at hmh
  .rcases hl with⟨rfl,rfl⟩|⟨kl,rfl⟩
   .simp[bm,bh]
   .simp[bm,bh,bl]
def GF {t e:TypeId} {sz:Nat} (hu:P.underlying t=some (.slice e)) (hs:EY P e=some sz) {a:Option Addr} {len cap:Nat} {lo hi mx:Option Value} {l h m:Int} (hl:(lo=none/\l=0)\/ ∃ki,lo=some (.int ki l)) (hh:(hi=none/\h=len)\/ ∃ki,hi=some (.int ki h))
    (hm:(mx=none/\m=cap)\/ ∃ki,mx=some (.int ki m)) (hmh:mx.isSome=true->hi.isSome=true) (h0:0<=l) (h1:l<=h) (h2:h<=m) (h3:m<=cap) :
    (Instr.sliceAt t (.slice a len cap) lo hi mx).run P w= .ok (.slice (if m.toNat=l.toNat then a else a.map (·.add (l.toNat*sz))) (h.toNat - l.toNat) (m.toNat - l.toNat)) w:=by
 simp only[Instr.sliceAt,DU,BK hu,Result.andThen,Instr.slice,Pe hl hh hm hmh h0 h1 h2 h3,Ed hs,FF]
def YK {t e : TypeId} {sz:Nat} (hu:P.underlying t=some (.slice e)) (hs:EY P e=some sz) (h0:0<sz)
    (hR:Rel F Z w) {vx:V} {cx:Value} (hx:Ah (Hh F Z w) vx cx) {vl vh vm:Option V} {cl ch cm:Option Value}
    (hl:hZ (Hh F Z w) vl cl)
    (hh:hZ (Hh F Z w) vh ch)
    (hm:hZ (Hh F Z w) vm cm)
    (hmh:cm.isSome=true->ch.isSome=true) (h:AQ Z sz vx vl vh vm k):Cl F Z w k kp ((Instr.sliceAt t cx cl ch cm).run P w):=by
 have hlo: ∀n,((vl=none/\n=0)\/ ∃ki,cl=some (.int ki n))->(cl=none/\n=0)\/ ∃ki,cl=some (.int ki n):=by
  rintro n (⟨rfl,rfl⟩|h)
  .cases cl with
   | none=>exact .inl ⟨rfl,rfl⟩
   | some c=>exact hl.elim
  .exact .inr h
 have hhi: ∀n (d:Int),((vh=none/\n=d)\/ ∃ki,ch=some (.int ki n))->(ch=none/\n=d)\/ ∃ki,ch=some (.int ki n):=by
  rintro n d (⟨rfl,rfl⟩|h)
  .cases ch with
   | none=>exact .inl ⟨rfl,rfl⟩
   | some c=>exact hh.elim
  .exact .inr h
 have hno:vm=none->cm=none:=by
  rintro rfl;cases cm with
  | none=>rfl
  | some c=>exact hm.elim
 cases vx<;>simp only[AQ]at h
 .rename_i es full
  obtain⟨hel,h⟩:=h;obtain⟨a,cap,rfl,h2,h3,h4,h5,h6⟩:=hx;replace h:=OF hh h;obtain⟨_,hi,h,hhi'⟩:=h;replace h:=OF hl h;obtain⟨_,li,⟨hl0,hlh,hhl,h⟩,hli'⟩:=h;have hlen:((es.take hi.toNat).drop li.toNat).length=hi.toNat - li.toNat:=by simp;omega
  have hrow: ∀cap':Nat,(es.take hi.toNat).drop li.toNat≠[]->cap'≠li.toNat->
   ∃b o s,(if cap'=li.toNat then a else a.map (·.add (li.toNat*sz)))=some ⟨b,o,none⟩/\BJ (Hh F Z w) (Hh F Z w b) s o ((es.take hi.toNat).drop li.toNat):=fun cap' hne hcap=>by
   have hes:es≠[]:=by rintro rfl;simp at hne
   obtain⟨b,o,s,rfl,h7⟩:=h6 hes
   have hss:s=sz:=by
    obtain⟨e0,r,rfl⟩:=List.exists_cons_of_ne_nil hes;rw[<-hel e0 (by simp)];exact(KA h7 (by simp)).symm
   subst hss;refine⟨b,o+li.toNat*s,s,?_,OR (IW h7 _) _⟩;rw[if_neg hcap];simp[Cv]
  have hne: ∀cap':Nat,hi.toNat<=cap'->(es.take hi.toNat).drop li.toNat≠[]->cap'≠li.toNat:=fun cap' hc hn=>by
   have:=List.length_pos_iff.2 hn;rw[hlen]at this;omega
  cases vm with
  | none=>
    obtain rfl:=hno rfl;rw[GF (m:=cap) hu hs (hlo _ hli') (hhi _ _ hhi') (.inl ⟨rfl,rfl⟩) (by simp) hl0 hlh (by omega) (Int.le_refl _)];refine Aw hR h ?_;simp only[Fi];refine⟨_,_,by rw[hlen],by rw[hlen];omega,fun hf=>?_,by rw[hlen];omega,fun ha=>?_,fun hn=>hrow _ hn (hne _ (by omega) hn)⟩
    .simp at hf
     have:=h3 hf.1;rw[hlen];omega
    .cases a with
     | none=>have:=h5 rfl;omega
     | some a=>split at ha<;>simp at ha
  | some v=>
    cases v<;>simp only at h
    rename_i km mi;obtain⟨rfl,h⟩:=h;cases cm with
    | none=>exact hm.elim
    | some c=>
      obtain⟨rfl,_⟩:=hm;rw[GF (m:=mi) hu hs (hlo _ hli') (hhi _ _ hhi') (.inr ⟨_,rfl⟩) hmh hl0 hlh (Int.le_refl _) (by omega)];refine Aw hR h ?_;refine⟨_,_,by rw[hlen],by rw[hlen];omega,fun _=>by rw[hlen],by rw[hlen];omega,fun ha=>?_,fun hn=>hrow _ hn (hne _ (Hz _) hn)⟩;cases a with
      | none=>have:=h5 rfl;omega
      | some a=>split at ha<;>simp at ha
 .rename_i n len cap
  obtain⟨rfl,h2⟩:=hx;replace h:=OF hh h;obtain⟨_,hi,h,hhi'⟩:=h;replace h:=OF hl h;obtain⟨_,li,⟨hl0,hlh,hhl,h⟩,hli'⟩:=h;cases vm with
  | none=>
    obtain rfl:=hno rfl;rw[GF (m:=cap) hu hs (hlo _ hli') (hhi _ _ hhi') (.inl ⟨rfl,rfl⟩) (by simp) hl0 hlh (by omega) (Int.le_refl _)];refine Aw hR h ⟨_,_,by congr 1;omega,by omega,fun hn=>?_⟩;rw[if_neg (by omega)];simp[Cv]
  | some v=>
    cases v<;>simp only at h
    rename_i km mi;obtain⟨rfl,rfl,rfl,h⟩:=h;split at h
    .rename_i s es c hs'
     obtain⟨rfl,rfl,rfl,h⟩:=h;cases cm with
     | none=>exact hm.elim
     | some c=>
       obtain⟨rfl,_⟩:=hm;rw[GF (m:=(es.length:Int)) hu hs (hlo _ hli') (hhi _ _ hhi') (.inr ⟨_,rfl⟩) hmh hl0 hlh (Int.le_refl _) (by omega)];rcases h with h|h
       .obtain⟨h7,h8,h9⟩:=Zp hR hs'
        refine⟨_,_,h,?_,hR.drop (GY Z n),CD.drop w (GY Z n)⟩;refine⟨some ⟨n,0,none⟩,es.length,?_,Hz _,fun _=>rfl,h9,fun ha=>by simp at ha,fun hn=>⟨n,0,s,rfl,h7⟩⟩;simp only[Fi,Int.toNat_zero,Nat.sub_zero,Nat.zero_mul,Ya,Cv,Nat.add_zero,ite_self]
       .obtain⟨cc,ce,g1,g2,g3,g4,g5⟩:=FL hR hs'
        have hle:=eY hR hs';refine⟨_,_,h,⟨?_,Hz _⟩,hle.1,hle.2⟩;simp only[Fi,Int.toNat_zero,Nat.sub_zero,Nat.zero_mul,Ya,Cv,Nat.add_zero,ite_self]
    .exact h.elim
 .rename_i n s off len
  obtain⟨a,cap,rfl,h2,h3⟩:=hx;replace h:=OF hh h;obtain⟨_,hi,h,hhi'⟩:=h;replace h:=OF hl h;obtain⟨_,li,⟨hl0,hlh,hhl,rfl,rfl,h⟩,hli'⟩:=h;obtain rfl:=hno rfl;rw[GF (m:=cap) hu hs (hlo _ hli') (hhi _ _ hhi') (.inl ⟨rfl,rfl⟩) (by simp) hl0 hlh (by omega) (Int.le_refl _)];refine Aw hR h ⟨_,_,by congr 1;omega,by omega,fun hn=>?_⟩;obtain rfl:=h3 (by omega);rw[if_neg (by omega)];simp[Cv,Nat.add_mul]
def NW {H:Nat->Nat->Option Value}: ∀ {kvs:List (V×V)} {es:List MapEntry},GA H kvs es->es.length=kvs.length
 | [],[],_=>rfl
 | (_,_)::r,_::es,h=>by simp only[GA]at h;simp[NW h.2.2]
 | [],_::_,h=>h.elim
 | _::_,[],h=>h.elim
def pZ (hR:Rel F Z w) {n:Nat} {kvs:List (V×V)} (h:Z n=some (.map kvs)): ∃es clk,w.heap[n]? =some (.map es clk)/\GA (Hh F Z w) kvs es.toList:=by
 obtain⟨_,ob,h2,es,clk,rfl,h4⟩:=hR.own n _ h;exact⟨es,clk,h2,h4.1⟩
def Iy {n:Nat} (h:n<=Aa):IntKind.i64.min<=(n:Int)/\(n:Int)<=IntKind.i64.max:=by
 unfold Aa at h;simp only[IntKind.min,IntKind.max,IntKind.signed,IntKind.bits,if_true];omega
def ez {t e:TypeId} (ty:TypeId) (hu:P.underlying t=some (.slice e))
    (hR:Rel F Z w) {vx:V} {cx:Value} (hx:Ah (Hh F Z w) vx cx) (h:Ay vx fun v=>k v Z):Cl F Z w k kp ((Builtin.len_ #[t] ty #[cx]).run P w):=by
 cases vx<;>simp only[Ay]at h
 .rename_i es full
  obtain⟨a,cap,rfl,h2,h3,h4,h5,h6⟩:=hx;have:(Builtin.len_ #[t] ty #[.slice a es.length cap]).run P w= .ok (goInt es.length) w:=by simp[Builtin.len_,BK hu]
  rw[this];exact Aw hR h ⟨rfl,Iy h4⟩
 .rename_i n len cap
  obtain⟨rfl,_⟩:=hx;have:(Builtin.len_ #[t] ty #[.slice (some ⟨n,0,none⟩) len cap]).run P w= .ok (goInt len) w:=by simp[Builtin.len_,BK hu]
  rw[this];exact Aw hR h.2 ⟨rfl,Iy h.1⟩
 .rename_i n s o len
  obtain⟨a,cap,rfl,_⟩:=hx;have:(Builtin.len_ #[t] ty #[.slice a len cap]).run P w= .ok (goInt len) w:=by simp[Builtin.len_,BK hu]
  rw[this];exact Aw hR h.2 ⟨rfl,Iy h.1⟩
def Zl {t e f:TypeId} (ty:TypeId) (hu:P.underlying t=some (.map e f))
    (hR:Rel F Z w) {vx:V} {cx:Value} (hx:Ah (Hh F Z w) vx cx) (h:LK Z vx fun v=>k v Z):Cl F Z w k kp ((Builtin.len_ #[t] ty #[cx]).run P w):=by
 cases vx<;>simp only[LK]at h
 .rename_i n
  split at h
  .rename_i kvs hs
   obtain⟨es,clk,h1,h2⟩:=pZ hR hs;simp only[Ah]at hx;subst hx;have hl:=NW h2
   have:(Builtin.len_ #[t] ty #[.map (some n)]).run P w= .ok (goInt kvs.length) w:=by
    simp[Builtin.len_,BK hu,getObj,Sem.run,h1,<-hl]
   rw[this];exact Aw hR h.2 ⟨rfl,Iy h.1⟩
  .exact h.elim
 .simp only[Ah]at hx
  subst hx;have:(Builtin.len_ #[t] ty #[.map none]).run P w= .ok (goInt 0) w:=by simp[Builtin.len_,BK hu]
  rw[this];exact Aw hR h ⟨rfl,Iy (Nat.zero_le _)⟩
end Go.Gl
namespace Go.Gl
variable {P:Program} {F:Nat->Prop} {Z:AE} {w:World} {k kp:V->AE->Prop}
def KX (ki:IntKind) (n:Int):ki.min<=ki.wrap n/\ki.wrap n<=ki.max:=by
 have:=WideShapes.wf_wrap ki n;simpa[Lit.wf]using this
def L0 (ki:IntKind):ki.min<=0:=by cases ki<;>decide
def Ru (ki:IntKind):0<=ki.max:=by cases ki<;>decide
def oW {ki:IntKind} {a:Int} (b:Int) (h:ki.min<=a/\a<=ki.max):ki.min<=a.tmod b/\a.tmod b<=ki.max:=by
 have h1:=L0 ki;have h2:=Ru ki;have h5:(a.tmod b).natAbs<=a.natAbs:=by rw[Int.natAbs_tmod];exact Nat.mod_le _ _
 rcases Int.le_total 0 a with h0|h0
 .have h3:=Int.tmod_nonneg b h0
  omega
 .have h4:=Int.tmod_nonneg b (show 0<= -a by omega)
  rw[Int.neg_tmod]at h4;omega
def qb {ki:IntKind} {a:Int} (n:Nat) (h:ki.min<=a/\a<=ki.max):ki.min<=a.fdiv (2 ^ n)/\a.fdiv (2 ^ n)<=ki.max:=by
 have h1:=L0 ki;have h2:=Ru ki;have hp:(0:Int)<2 ^ n:=Int.pow_pos (by omega);rw[Int.fdiv_eq_ediv_of_nonneg _ (by omega)];constructor
 .rw[Int.le_ediv_iff_mul_le hp]
  have:ki.min*2 ^ n<=ki.min*1:=Int.mul_le_mul_of_nonpos_left h1 (by omega);omega
 .have:a / 2 ^ n<ki.max+1:=by
   rw[Int.ediv_lt_iff_lt_mul hp];have:(ki.max+1)*1<=(ki.max+1)*2 ^ n:=Int.mul_le_mul_of_nonneg_left (by omega) (by omega);omega
  omega
def fE {t : TypeId} (op:BinOp) (x y:Operand) (hR:Rel F Z w) {vx vy:V} {cx cy:Value} (hx:Ah (Hh F Z w) vx cx) (hy:Ah (Hh F Z w) vy cy) (h:V4 op vx vy fun v=>k v Z) :
    Cl F Z w k kp ((do eqGuard op t x y cx cy;binOp op t cx cy:Sem Value).run P w):=by
 cases vx<;>simp only[V4]at h
 cases vy<;>simp only at h
 rename_i ka a kb b;obtain⟨rfl,ha⟩:=hx;obtain⟨rfl,hb⟩:=hy
 have hg:(eqGuard op t x y (.int ka a) (.int kb b)).run P w= .ok () w:=by
  unfold eqGuard;cases op<;>rfl
 simp only[DU,hg,Result.andThen]
 cases op<;>simp only at h<;>first
  | (obtain ⟨rfl,h⟩:=h
     first
      | (obtain⟨hb0,h⟩:=h
         simp only[binOp,Op.intDiv,hb0,if_false,ne_eq,not_true_eq_false]
         first
          | exact Aw hR h ⟨rfl,KX _ _⟩
          | exact Aw hR h ⟨rfl,oW _ ha⟩)
      | (simp only[binOp,Op.intArith,Op.intCmp,Op.intBits,ne_eq,not_true_eq_false,if_false]
         first
          | exact Aw hR h rfl
          | exact Aw hR h ⟨rfl,KX _ _⟩))
  | (obtain⟨h0,h⟩:=h
     have hn: ¬b<0:=by omega
     simp only[binOp,Op.shift,hn,if_false]
     first
      | exact Aw hR h ⟨rfl,KX _ _⟩
      | exact Aw hR h ⟨rfl,qb _ ha⟩)
def Vn {t:TypeId} (hu:P.underlying t=some .bool) (d:Nat) (p q:Bool):(Op.equalIn (d+1) t (.bool p) (.bool q)).run P w= .ok (p==q) w:=by
 simp only[Op.equalIn,DU,BK hu,Result.andThen,FF]
def Tl {t:TypeId} (hu:P.underlying t=some .bool) (op:BinOp) (hop:op= .eql\/op= .neq) (x y:Operand) (hR:Rel F Z w) {p q:Bool} (h:k (.b (bif (match op with| .neq=>true|_=>false)then p != q else p==q)) Z) :
    Cl F Z w k kp ((do eqGuard op t x y (.bool p) (.bool q);binOp op t (.bool p) (.bool q):Sem Value).run P w):=by
 have hg:(eqGuard op t x y (.bool p) (.bool q)).run P w= .ok () w:=by
  unfold eqGuard;rcases hop with rfl|rfl<;>rfl
 simp only[DU,hg,Result.andThen]
 have he:(Op.equal t (.bool p) (.bool q)).run P w= .ok (p==q) w:=by
  exact Vn hu 9999 p q
 rcases hop with rfl|rfl
 .simp only[binOp,DU,he,Result.andThen,FF]
  exact Aw hR h rfl
 .simp only[binOp,DU,he,Result.andThen,FF]
  exact Aw hR h (by simp only[Ah,cond_true];cases p<;>cases q<;>rfl)
def Tn (off:Nat): ∀(l:List Value) (j:Nat) (c:Array Value),(l.zipIdx j).foldl (fun cs (x:Value×Nat)=>cs.setIfInBounds (off+x.2) x.1) c=C8 c (off+j) l
 | [],_,_=>rfl
 | v::l,j,c=>by
   simp only[List.zipIdx_cons,List.foldl_cons,C8];rw[Tn off l (j+1),show off+(j+1)=off+j+1 by omega]
def RY (off:Nat) (d c:Array Value):d.zipIdx.foldl (fun cs (x:Value×Nat)=>cs.setIfInBounds (off+x.2) x.1) c=C8 c off d.toList:=by
 rw[<-Array.foldl_toList,Array.toList_zipIdx];exact Tn off d.toList 0 c
def RH {H : Nat->Nat->Option Value} {env:Env} {a:Act} (he:CY H env a.tmps) {place:Nat->Option (Nat×Nat)}: ∀ {parts:List (Nat×Operand)} {ps:List (Nat×Nat×Bq)},
    (List.length parts=ps.length/\ ∀(i:Nat) (q:Nat×Operand) (r:Nat×Nat×Bq),parts[i]? =some q->ps[i]? =some r->place q.1=some (r.1,r.2.1)/\BY q.2=some r.2.2)->
    ∀ {c:Array Value} {vs us:List V},c.size=vs.length->Ba H (fun i=>c[i]?) 0 vs->LM env vs ps=some us->
    ∃d,Instr.fill place c (parts.map fun(i,x)=>(i,a.eval x))=some d/\d.size=us.length/\Ba H (fun i=>d[i]?) 0 us
 | [],ps,hp,c,vs,us,hs,hv,hf=>by
   have:ps= []:=List.eq_nil_of_length_eq_zero hp.1.symm;subst this;cases hf;exact⟨c,rfl,hs,hv⟩
 | (i, x) :: parts,ps,hp,c,vs,us,hs,hv,hf=>by
   cases ps with
   | nil=>simp at hp
   | cons r ps=>
     obtain⟨off,sz,o⟩:=r;obtain⟨h1,h2⟩:=hp.2 0 _ _ rfl rfl;simp only at h1 h2;simp only[LM]at hf;split at hf
     .rename_i v hev
      split at hf
      .rename_i vc hc
       cases hq:(Nat.beq vc.length sz&&Nat.ble (off+sz) vs.length)with
       | false=>rw[hq]at hf;simp at hf
       | true=>
         rw[hq]at hf;simp only[cond_true]at hf;simp only[A9,Nat.beq_eq,Nat.ble_eq]at hq;obtain⟨h3,h4⟩:=C4 (Ap he h2 hev) hc
         obtain⟨d,h5,h6⟩:=RH he (parts:=parts) (ps:=ps) ⟨by simpa using hp.1,fun j q r hq hr=>hp.2 (j+1) q r (by simpa using hq) (by simpa using hr)⟩ (c:=C8 c off (a.eval x).cells.toList) (vs:=putAt vs off vc)
          (by rw[EF,FR];exact hs) (Mt hs hv (by simpa using h3) (BF h4 (fun i _=>by simp))) hf
         refine⟨d,?_,h6⟩;simp only[FA,Instr.fill,h1];rw[if_neg (by simp;omega),RY];exact h5
      .cases hf
     .cases hf
def Rk {fields:Array Field}: ∀ {parts:List (Nat×Operand)} {ps:List (Nat×Nat×Bq)},Uc fields P parts=some ps->
    parts.length=ps.length/\ ∀(i:Nat) (q:Nat×Operand) (r:Nat×Nat×Bq),parts[i]? =some q->ps[i]? =some r->(∃f:Field,fields[q.1]? =some f/\r.1=f.offset/\EY P f.type=some r.2.1)/\BY q.2=some r.2.2
 | [],ps,h=>by cases h;simp
 | (i, x)::parts,ps,h=>by
   simp only[Uc]at h;split at h
   .rename_i f o ps' h1 h2 h3
    cases hs:EY P f.type with
    | none=>rw[hs]at h;cases h
    | some s=>
      rw[hs]at h;cases h;obtain⟨h4,h5⟩:=Rk h3;refine⟨by simp[h4],fun j q r hq hr=>?_⟩;cases j with
      | zero=>simp at hq hr;subst hq;subst hr;exact⟨⟨f,h1,rfl,hs⟩,h2⟩
      | succ j=>exact h5 j q r (by simpa using hq) (by simpa using hr)
   .cases h
def PE {sz:Nat}: ∀ {parts:List (Nat×Operand)} {ps:List (Nat×Nat×Bq)},Pt sz parts=some ps->
    parts.length=ps.length/\ ∀(i:Nat) (q:Nat×Operand) (r:Nat×Nat×Bq),parts[i]? =some q->ps[i]? =some r->(r.1=q.1*sz/\r.2.1=sz)/\BY q.2=some r.2.2
 | [],ps,h=>by cases h;simp
 | (i,x)::parts,ps,h=>by
   simp only[Pt]at h;split at h
   .rename_i o ps' h2 h3
    cases h;obtain⟨h4,h5⟩:=PE h3;refine⟨by simp[h4],fun j q r hq hr=>?_⟩;cases j with
    | zero=>simp at hq hr;subst hq;subst hr;exact⟨⟨rfl,rfl⟩,h2⟩
    | succ j=>exact h5 j q r (by simpa using hq) (by simpa using hr)
   .cases h
def PD: ∀ {parts:List (Nat×Operand)} {ps:List (Nat×Bq)},Ps parts=some ps->
    parts.length=ps.length/\ ∀(i:Nat) (q:Nat×Operand) (r:Nat×Bq),parts[i]? =some q->ps[i]? =some r->r.1=q.1/\BY q.2=some r.2
 | [],ps,h=>by cases h;simp
 | (i,x)::parts,ps,h=>by
   simp only[Ps]at h;split at h
   .rename_i o ps' h2 h3
    cases h;obtain⟨h4,h5⟩:=PD h3;refine⟨by simp[h4],fun j q r hq hr=>?_⟩;cases j with
    | zero=>simp at hq hr;subst hq;subst hr;exact⟨rfl,h2⟩
    | succ j=>exact h5 j q r (by simpa using hq) (by simpa using hr)
   .cases h
end Go.Gl
namespace Go.Gl
variable {P:Program} {F:Nat->Prop} {Z:AE} {w:World} {k kp:V->AE->Prop}
def JG {f:FuncId} (h:okF P f=true) (args:Array Value) (w:World):(callFunc f args).run P w= .ok (.enter f args) w:=by
 unfold okF at h;split at h
 .rename_i fn hf
  simp only[A9,zrJ,ne_eq]at h;have hb:fn.body.isNone=false:=by cases hb:fn.body<;>simp[hb]at h ⊢
  have hn:(fn.name== "runtime.NumGoroutine")=false:=by simpa using h.2
  simp only[callFunc,DU,run_program,G9,hf,hn,hb,ME,if_false,FF]
 .cases h
def I3 {H:Nat->Nat->Option Value} {vs us:List V} {cs ds:Array Value} (h:gT H vs cs) (k:gT H us ds):gT H (vs++us) (cs++ds):=by
 refine⟨by simp[h.1,k.1],O7 (BF h.2 fun i hi=>?_) (BF k.2 fun i hi=>?_)⟩
 .simp only[HG]
  rw[Array.getElem?_append_left (by rw[h.1];exact hi)]
 .simp only[HG]
  rw[Array.getElem?_append_right (by rw[h.1];omega),h.1];simp
def Kc {H:Nat->Nat->Option Value} {env:Env} {a:Act} (he:CY H env a.tmps) {xs:Array Operand} {os:List Bq} (ho:LG xs.toList=some os) {vs:List V} (hv:Vu env os=some vs):gT H vs (xs.map a.eval):=by
 obtain⟨h1,h2⟩:=cE he ho hv;exact⟨by simpa using h1,BF h2 (fun i _=>by simp)⟩
def Ew {s:Sem Value} (h:Cl F Z w k kp (s.run P w)):Good P F Z w k kp ((s.run P w).andThen fun c w=> .ok (.value c) w):=by
 have:=A6 (P:=P) h;simpa only[DU,FF]using this
def Q9 {f:FuncId} {vs:List V} {cs:Array Value} (hR:Rel F Z w) (hv:gT (Hh F Z w) vs cs) (h:Au P f vs Z (qk k kp)):Good P F Z w k kp ((callFunc f cs).run P w):=by
 rw[JG h.1];exact h.2 F w cs hR hv
def OU {H:Nat->Nat->Option Value} {env:Env} {a:Act} (he:CY H env a.tmps) {x:Option Operand} {o:Option Bq} (ho:dJ x=some o) {v:Option V} (hv:IB env o=some v) :
    hZ H v (x.map a.eval):=by
 cases x with
 | none=>
   cases ho;cases hv;trivial
 | some x=>
   simp only[dJ]at ho;cases hq:BY x with
   | none=>rw[hq]at ho;cases ho
   | some q=>
     rw[hq]at ho;cases ho;simp only[IB]at hv;split at hv
     .rename_i u hu
      cases hv;exact Ap he hq hu
     .cases hv
def Zi {env : Env} {a:Act} {c:Call} {ao:GO} (ty:TypeId) (ho:iF P c=some ao) (h:Fw P ao env Z k kp) (he:CY (Hh F Z w) env a.tmps) (hR:Rel F Z w) :
    Good P F Z w k kp ((do let d<-resolve a.eval c ty;invoke d.target d.args:Sem Next).run P w):=by
 obtain⟨callee,args,tys⟩:=c;unfold iF at ho;split at ho
 ·
  rename_i x t hc ha ht;simp only at hc ha ht;subst hc;obtain rfl:args= #[x]:=by apply Array.ext';simpa using ha
  obtain rfl:tys= #[t]:=by apply Array.ext';simpa using ht
  simp only[resolve,DU,FF,G9,invoke,builtin,List.map_toArray,FA,List.map_nil];split at ho
  .rename_i e hu
   cases hx:BY x with
   | none=>rw[hx]at ho;cases ho
   | some o=>
     rw[hx]at ho;cases ho;obtain⟨v,h1,h2⟩:=Ak h;exact Ew (ez (P:=P) (kp:=kp) ty hu hR (Ap he hx h1) h2)
  .rename_i e f hu
   cases hx:BY x with
   | none=>rw[hx]at ho;cases ho
   | some o=>
     rw[hx]at ho;cases ho;obtain⟨v,h1,h2⟩:=Ak h;exact Ew (Zl (P:=P) (kp:=kp) ty hu hR (Ap he hx h1) h2)
  .rename_i n e hu
   split at ho
   .rename_i hn
    cases ho;simp only[Fw,ev,FJ]at h;have hr:(Builtin.len_ #[t] ty #[a.eval x]).run P w= .ok (goInt n) w:=by simp[Builtin.len_,BK hu]
    exact Ew (s:=Builtin.len_ #[t] ty #[a.eval x]) (k:=k) (kp:=kp) (by rw[hr];exact Aw hR h ⟨rfl,by have:=L0 .i64;omega,hn⟩)
   .cases ho
  .cases ho
 ·
  rename_i x y t u hc ha ht;simp only at hc ha ht;subst hc;obtain rfl:args= #[x,y]:=by apply Array.ext';simpa using ha
  obtain rfl:tys= #[t,u]:=by apply Array.ext';simpa using ht
  split at ho
  .rename_i e e2 hu1 hu2
   split at ho
   .rename_i x' y' i hx hy hi
    split at ho
    .rename_i hcond
     obtain⟨rfl,hb,hz⟩:=hcond;cases ho;obtain⟨vx,h1,h⟩:=Ak h;obtain⟨vy,h2,h⟩:=Ak h;cases hzz:i.zero with
     | none=>rw[hzz]at hz;cases hz
     | some z=>
       rw[hzz]at hz;simp only[Ya,JM]at hz;simp only[resolve,DU,FF,G9,invoke,builtin,List.map_toArray,FA,List.map_nil];exact Ew (Vl (P:=P) (kp:=kp) ty hu1 hi hzz hz hb hR (Ap he hx h1) (Ap he hy h2) h)
    .cases ho
   .cases ho
  .cases ho
 ·
  rename_i x y hc ha;simp only at hc ha;subst hc;obtain rfl:args= #[x,y]:=by apply Array.ext';simpa using ha
  split at ho
  .rename_i x' y' hx hy
   cases ho;obtain⟨vx,h1,g⟩:=Ak h;clear h;obtain⟨vy,h2,h⟩:=Ak g;clear g;cases vx<;>try exact h.elim
   cases vy<;>try exact h.elim
   rename_i ka p kb q;obtain⟨rfl,h⟩:=h;obtain⟨ex,bx⟩:=Ap he hx h1;obtain⟨ey,by'⟩:=Ap he hy h2
   have hr:(Builtin.max_ tys ty #[a.eval x,a.eval y]).run P w= .ok (.int ka (if q > p then q else p)) w:=by
    rw[ex,ey];simp[Builtin.max_,Builtin.max2]
   simp only[resolve,DU,FF,G9,invoke,builtin,List.map_toArray,FA,List.map_nil];exact Ew (s:=Builtin.max_ tys ty #[a.eval x,a.eval y]) (k:=k) (kp:=kp) (by rw[hr];exact Aw hR h ⟨rfl,by split<;>assumption⟩)
  .cases ho
 ·
  rename_i x y hc ha;simp only at hc ha;subst hc;obtain rfl:args= #[x,y]:=by apply Array.ext';simpa using ha
  split at ho
  .rename_i x' y' hx hy
   cases ho;obtain⟨vx,h1,g⟩:=Ak h;clear h;obtain⟨vy,h2,h⟩:=Ak g;clear g;cases vx<;>try exact h.elim
   cases vy<;>try exact h.elim
   rename_i ka p kb q;obtain⟨rfl,h⟩:=h;obtain⟨ex,bx⟩:=Ap he hx h1;obtain⟨ey,by'⟩:=Ap he hy h2
   have hr:(Builtin.min_ tys ty #[a.eval x,a.eval y]).run P w= .ok (.int ka (if q<p then q else p)) w:=by
    rw[ex,ey];simp[Builtin.min_,Builtin.min2]
   simp only[resolve,DU,FF,G9,invoke,builtin,List.map_toArray,FA,List.map_nil];exact Ew (s:=Builtin.min_ tys ty #[a.eval x,a.eval y]) (k:=k) (kp:=kp) (by rw[hr];exact Aw hR h ⟨rfl,by split<;>assumption⟩)
  .cases ho
 ·
  rename_i f hc;simp only at hc;subst hc;cases hx:LG args.toList with
  | none=>simp[hx]at ho
  | some os=>
    simp only[hx,Ya,JM]at ho;subst ho;obtain⟨vs,h1,h⟩:=Iu h;have:=Q9 hR (Kc he hx h1) h;simp only[resolve,Act.eval,Deferred.ofValue,DU,FF,G9,invoke,Array.append_empty,Array.empty_append];exact this
 ·
  rename_i x _ hc;simp only at hc;subst hc;split at ho
  .rename_i x' os hx hos
   cases ho;obtain⟨vx,h1,g⟩:=Ak h;clear h;obtain⟨vs,h2,h⟩:=Iu g;clear g;cases vx<;>try exact h.elim
   rename_i fn first cap
   cases fn<;>try exact h.elim
   case yield l=>
    have hfc:first= []/\cap= []:=by
     cases first<;>cases cap<;>first|exact⟨rfl,rfl⟩|exact h.elim
    obtain⟨rfl,rfl⟩:=hfc;obtain⟨f',c',e1,e2,e3,e4,e5⟩:=Ap he hx h1;obtain⟨f,tmps,assign,body,e6,e7⟩:=h F w _ hR (Kc he hos h2);have e2':f'= #[]:=Array.size_eq_zero_iff.1 e2;have e4':c'= #[]:=Array.size_eq_zero_iff.1 e4;subst e2' e4';simp only[resolve,e1,Deferred.ofValue,DU,FF,G9,invoke,Array.append_empty,Array.empty_append];rw[e6];exact e7
   rename_i f;simp only[Ao]at h;obtain⟨f',c',e1,e2,e3,e4,e5⟩:=Ap he hx h1;have:=Q9 hR (I3 (I3 ⟨e2,e3⟩ (Kc he hos h2)) ⟨e4,e5⟩) h;simp only[resolve,e1,Deferred.ofValue,DU,FF,G9,invoke];exact this
  .cases ho
 .cases ho
end Go.Gl
namespace Go.Gl
variable {P:Program} {F:Nat->Prop} {Z:AE} {w:World} {k kp:V->AE->Prop}
def KU {sz:Nat} {z:List V} (hz:z.length=sz) {H:Nat->Nat->Option Value} {c:Array Value} (hc:c.size=sz) (hv:Ba H (fun i=>c[i]?) 0 z) (len:Nat) :
    BJ H (fun i=>((Array.range (len*sz)).map (c[· % c.size]!))[i]?) sz 0 (List.replicate len z):=by
 rw[BH];intro i e he;have hi:i<len:=by have:=(JL.1 he).1;simpa using this
 rw[List.getElem?_replicate,if_pos hi]at he;cases he;refine⟨hz,BF hv (fun q hq=>?_)⟩
 have hlt:0+i*sz+q<len*sz:=by
  have:(i+1)*sz<=len*sz:=Vr _ hi;rw[Nat.succ_mul]at this;omega
 rw[Array.getElem?_map,Array.getElem?_range,if_pos hlt];simp only[Ya,hc,HG];rw[Nat.add_comm,Nat.add_mul_mod_self_right,Nat.mod_eq_of_lt (by omega)];rw[getElem!_pos c q (by omega)];exact(Array.getElem?_eq_getElem (by omega)).symm
def Tw {H : Nat -> Nat->Option Value} {env:Env} {a:Act} (he:CY H env a.tmps) {sz:Nat}: ∀ {parts:List (Nat×Operand)} {ps:List (Nat×Bq)},
    (List.length parts=ps.length/\ ∀(i:Nat) (q:Nat×Operand) (r:Nat×Bq),parts[i]? =some q->ps[i]? =some r->r.1=q.1/\BY q.2=some r.2)->
    ∀ {c:Array Value} {es fs:List (List V)},c.size=es.length*sz->BJ H (fun i=>c[i]?) sz 0 es->J4 env sz es ps=some fs->
    ∃d,Instr.fill (fun i=>some (i*sz,sz)) c (parts.map fun(i,x)=>(i,a.eval x))=some d/\d.size=fs.length*sz/\BJ H (fun i=>d[i]?) sz 0 fs/\fs.length=es.length
 | [],ps,hp,c,es,fs,hs,hv,hf=>by
   have:ps= []:=List.eq_nil_of_length_eq_zero hp.1.symm;subst this;cases hf;exact⟨c,rfl,hs,hv,rfl⟩
 | (i, x) :: parts,ps,hp,c,es,fs,hs,hv,hf=>by
   cases ps with
   | nil=>simp at hp
   | cons r ps =>
     obtain⟨j,o⟩:=r;obtain⟨h1,h2⟩:=hp.2 0 _ _ rfl rfl;simp only at h1 h2;subst h1;simp only[J4]at hf;split at hf
     .rename_i v hev
      split at hf
      .rename_i vc hc
       cases hq:(Nat.beq vc.length sz&&Nat.blt j es.length)with
       | false=>rw[hq]at hf;simp at hf
       | true=>
         rw[hq]at hf;simp only[cond_true]at hf;simp only[A9,Nat.beq_eq,Nat.blt_eq]at hq;obtain⟨h3,h4⟩:=C4 (Ap he h2 hev) hc
         have hb:j*sz+sz<=c.size:=by
          rw[hs,<-Nat.succ_mul];exact Vr _ hq.2
         have hrow:BJ H (fun i=>(C8 c (j*sz) (a.eval x).cells.toList)[i]?) sz 0 (es.set j vc):=by
          rw[BH]at hv ⊢;intro q u hu;rw[List.getElem?_set]at hu;split at hu
          .rename_i ej
           subst ej;rw[if_pos hq.2]at hu;cases hu;refine⟨hq.1,BF h4 (fun p hp=>?_)⟩;simp only[HG];rw[Gh _ _ _ _ (by simp;omega) (by simp;omega)];simp
          .rename_i ej
           obtain⟨h5,h6⟩:=hv q u hu;refine⟨h5,BF h6 (fun p hp=>?_)⟩;rw[DR];rcases Nat.lt_or_ge q j with hji|hji
           .left
            have:(q+1)*sz<=j*sz:=Vr _ hji;rw[Nat.succ_mul]at this;omega
           .right
            have:(j+1)*sz<=q*sz:=Vr _ (by omega);rw[Nat.succ_mul]at this;simp;omega
         obtain⟨d,h5,h6,h7,h8⟩:=Tw he (parts:=parts) (ps:=ps) ⟨by simpa using hp.1,fun j q r hq hr=>hp.2 (j+1) q r (by simpa using hq) (by simpa using hr)⟩ (c:=C8 c (j*sz) (a.eval x).cells.toList) (es:=es.set j vc)
          (by rw[EF];simpa using hs) hrow hf
         refine⟨d,?_,h6,h7,by simpa using h8⟩;simp only[FA,Instr.fill];rw[if_neg (by simp;omega),RY];exact h5
      .cases hf
     .cases hf
def TE {t:TypeId} (h:isInt P t=true): ∃ki,P.underlying t=some (.int ki):=by
 unfold isInt at h;split at h
 .rename_i ki hu;exact⟨ki,hu⟩
 .cases h
def Rc {t:TypeId} (h:isBool P t=true):P.underlying t=some .bool:=by
 unfold isBool at h;split at h
 .assumption
 .cases h
def Aj {α β:Type} {f:α->β} {o:Option α} {b:β} (h:o.map f=some b): ∃a,o=some a/\f a=b:=by
 cases o with
 | none=>cases h
 | some a=>exact⟨a,rfl,by simpa using h⟩
def dw {env : Env} {a:Act} {o:Oper} {ao:GO} (ho:rOp P o.op=some ao) (h:Fw P ao env Z k kp) (he:CY (Hh F Z w) env a.tmps) (hR:Rel F Z w) :
    Good P F Z w k kp ((execOp a.eval o).run P w):=by
 unfold execOp;cases hop:o.op<;>simp only[hop,rOp]at ho<;>try(cases ho;done)
 all_goals dsimp only
 case move x=>
  obtain⟨x',hx,rfl⟩:=Aj ho;obtain⟨v,h1,h2⟩:=Ak h;exact⟨v,Z,h2,Ap he hx h1,hR,CD.refl _ _ _⟩
 case assign x=>
  obtain⟨x',hx,rfl⟩:=Aj ho;obtain⟨v,h1,h2⟩:=Ak h;exact⟨v,Z,h2,Ap he hx h1,hR,CD.refl _ _ _⟩
 case pick c x y=>
  split at ho
  .rename_i c' x' y' hc hx hy
   cases ho;obtain⟨vc,h1,g⟩:=Ak h;clear h;obtain⟨vx,h2,h⟩:=Ak g;clear g;obtain⟨vy,h3,g⟩:=Ak h;clear h;cases vc<;>try exact g.elim
   rename_i t;have hct:=Ap he hc h1;simp only[Ah]at hct;simp only[hct,asBool,DU,FF,G9]
   have g':k (bif t then vx else vy) Z:=by
    simp only at g;split at g
    .cases t<;>exact g
    .exact g
   cases t
   .exact⟨vy,Z,g',Ap he hy h3,hR,CD.refl _ _ _⟩
   .exact⟨vx,Z,g',Ap he hx h2,hR,CD.refl _ _ _⟩
  .cases ho
 case alloc e=>
  obtain⟨z,hz,rfl⟩:=Aj ho;exact A6 (YO hz hR h)
 case box e x=>
  obtain⟨x',hx,rfl⟩:=Aj ho;obtain⟨v,h1,h2⟩:=Ak h;cases hc:cellsOf v with
  | none=>rw[hc]at h2;exact h2.elim
  | some cs=>
    rw[hc]at h2;exact A6 (fD e hR (Ap he hx h1) hc h2)
 case build t parts=>
  split at ho
  .rename_i z fields hz hu
   split at ho
   .rename_i hall
    obtain⟨ps,hps,rfl⟩:=Aj ho;obtain⟨us,h1,h2⟩:=Iu h;obtain⟨v,hz1,hz2⟩:=G3 hz;obtain⟨c,hz3,hz4⟩:=Eu hz1 w;obtain⟨h5,h6⟩:=C4 (HN (H:=Hh F Z w) hz4) hz2;obtain⟨h7,h8⟩:=Rk hps
    have hplaces: ∃places,fields.toList.mapM (fun f=>(P.info? f.type).map fun i=>(f.offset,i.size))=some places/\places.length=fields.size/\ ∀(j:Nat) (f:Field) (s:Nat),fields[j]? =some f->EY P f.type=some s->places[j]? =some (f.offset,s):=by
     have hgen: ∀l:List Field,l.all (fun f=>(EY P f.type).isSome)=true-> ∃places,l.mapM (fun f=>(P.info? f.type).map fun i=>(f.offset,i.size))=some places/\places.length=l.length/\
      ∀(j:Nat) (f:Field) (s:Nat),l[j]? =some f->EY P f.type=some s->places[j]? =some (f.offset,s):=by
      intro l
      induction l with
      | nil=>intro _;exact⟨[],by simp,rfl,by simp⟩
      | cons f l ih=>
        intro hl;simp only[K5,A9]at hl;obtain⟨places,g1,g2,g3⟩:=ih hl.2;obtain⟨s,hs⟩:=Option.isSome_iff_exists.1 hl.1;obtain⟨i,hi,hsz⟩:=NY hs;refine⟨(f.offset,s)::places,by simp[List.mapM_cons,hi,g1,hsz],by simp[g2],fun j f' s' hj hs'=>?_⟩;cases j with
        | zero=>simp at hj;subst hj;rw[hs]at hs';cases hs';rfl
        | succ j=>exact g3 j f' s' (by simpa using hj) hs'
     obtain⟨places,g1,g2,g3⟩:=hgen fields.toList hall;exact⟨places,g1,by simpa using g2,fun j f s hj hs=>g3 j f s (by simpa using hj) hs⟩
    obtain⟨places,g1,g2,g3⟩:=hplaces
    obtain⟨d,h9,h10,h11⟩:=RH he (parts:=parts.toList) (ps:=ps) (place:=fun x=>places[x]?) ⟨h7,fun i q r hq hr=>by
     obtain⟨⟨f,e1,e2,e3⟩,e4⟩:=h8 i q r hq hr
     exact⟨by rw[g3 _ f _ e1 e3,e2],e4⟩⟩ h5 h6 h1
    have hrun:(Instr.build t (parts.map fun(i,x)=>(i,a.eval x))).run P w= .ok (.agg d) w:=by
     refine run_build w t _ d ?_;obtain⟨it,c',q1,q2,q3⟩:=Xz hz1
     have hcc:c'=c:=by
      have:(zeroValue t).run P w= .ok c' w:=by simp[zeroValue,typeInfo,q1,q2]
      rw[hz3]at this;cases this;rfl
     subst hcc;simp only[Program.built,q1,hu,q2,g1,Array.toList_map,List.getElem?_toArray];exact h9
    exact A6 (by rw[hrun];exact Aw hR h2 ⟨d,rfl,h10,h11⟩)
   .cases ho
  .rename_i z len e hz hu
   cases hsz:EY P e with
   | none=>rw[hsz]at ho;cases ho
   | some sz=>
     rw[hsz]at ho;simp only[Option.bind_some]at ho;obtain⟨ps,hps,rfl⟩:=Aj ho;obtain⟨us,h1,h2⟩:=Iu h;obtain⟨v,hz1,hz2⟩:=G3 hz;obtain⟨c,hz3,hz4⟩:=Eu hz1 w;obtain⟨h5,h6⟩:=C4 (HN (H:=Hh F Z w) hz4) hz2;obtain⟨h7,h8⟩:=PE hps
     obtain⟨d,h9,h10,h11⟩:=RH he (parts:=parts.toList) (ps:=ps) (place:=fun i=>some (i*sz,sz)) ⟨h7,fun i q r hq hr=>by
      obtain⟨⟨e1,e2⟩,e4⟩:=h8 i q r hq hr
      exact⟨by rw[e1,e2],e4⟩⟩ h5 h6 h1
     have hrun:(Instr.build t (parts.map fun(i,x)=>(i,a.eval x))).run P w= .ok (.agg d) w:=by
      unfold Instr.build;simp only[DU,hz3,G9,BK hu,Ed hsz,Array.toList_map,h9,FF]
     exact A6 (by rw[hrun];exact Aw hR h2 ⟨d,rfl,h10,h11⟩)
  .cases ho
 case buildSlice t len parts=>
  split at ho
  .rename_i e hu
   split at ho
   .rename_i z sz hz hsz
    split at ho
    .rename_i hcond
     obtain⟨hzl,h0,hln,hsmall⟩:=hcond;obtain⟨ps,hps,rfl⟩:=Aj ho;simp only[Fw]at h;rw[hzl]at h;obtain⟨fs,h1,h3⟩:=aY h
     have h2:len<=Aa:=by
      have:len*1<=len*sz:=Nat.mul_le_mul_left _ (by omega);simp only[Aa];omega
     obtain⟨v,hz1,hz2⟩:=G3 hz;obtain⟨c,hz3,hz4⟩:=Eu hz1 w;obtain⟨h5,h6⟩:=C4 (HN (H:=Hh F Z w) hz4) hz2;obtain⟨h7,h8⟩:=PD hps
     obtain⟨d,h9,h10,h11,h12⟩:=Tw he (sz:=sz) (parts:=parts.toList) (ps:=ps) ⟨h7,h8⟩ (c:=(Array.range (len*sz)).map (c.cells[· % c.cells.size]!)) (by simp)
      (KU hzl (by omega) h6 len) h1
     have hfl:fs.length=len:=by simpa using h12
     have hrun:(Instr.buildSlice t len (parts.map fun(i,x)=>(i,a.eval x))).run P w= .ok (.slice (some ⟨w.heap.size,0,none⟩) len len) (w.alloc (.cells d e)):=by
      unfold Instr.buildSlice;have hns: ¬len*sz > 2 ^ 24:=by omega
      simp only[DU,BK hu,G9,Ed hsz,hns,if_false];have hl0: ¬len*sz=0:=fun h=>by rcases Nat.mul_eq_zero.1 h with h|h<;>omega
      simp only[hl0,if_false,DU,hz3,G9,FF,Array.toList_map,h9];rfl
     refine A6 ?_;rw[hrun];have ha:CD F Z w Z (w.alloc (.cells d e)):=JF w _;refine⟨_,Z,h3,?_,Lv hR _,ha⟩;refine⟨some ⟨w.heap.size,0,none⟩,len,by rw[hfl],by omega,fun _=>hfl.symm,by omega,by simp,fun _=>⟨w.heap.size,0,sz,rfl,?_⟩⟩;refine BJ.mono ha.hle (fun i v hv=>?_) _ _ _ h11;rw[O6 (fun hl=>absurd (hR.lock _ hl) (Nat.lt_irrefl _)) hR.new,Df (heap_alloc_new w _)];exact hv
    .cases ho
   .cases ho
  .cases ho
 case load t x=>
  split at ho
  .rename_i agg x' hA hx
   cases ho;obtain⟨v,h1,h2⟩:=Ak h;exact A6 (Zk hA hR (Ap he hx h1) h2)
  .cases ho
 case store t ad x=>
  split at ho
  .rename_i s a' x' hs ha hx
   cases ho;obtain⟨va,h1,g⟩:=Ak h;obtain⟨vx,h2,h3⟩:=Ak g;obtain⟨Z',w',e1,e2,e3,e4⟩:=YJ hs hR (Ap he ha h1) (Ap he hx h2) h3;simp only[DU,e1,G9,FF];exact⟨Z',e2,e3,e4⟩
  .cases ho
 case binOp op t x y yt=>
  split at ho
  .rename_i x' y' hx hy
   unfold AAG at ho;split at ho
   .cases ho
    obtain⟨vx,h1,g⟩:=Ak h;obtain⟨vy,h2,h3⟩:=Ak g;exact A6 (fE op x y hR (Ap he hx h1) (Ap he hy h2) h3)
   .split at ho
    .rename_i _ hb
     split at ho
     .cases ho
      obtain⟨vx,h1,g⟩:=Ak h;obtain⟨vy,h2,h3⟩:=Ak g;cases vx<;>try exact h3.elim
      cases vy<;>try exact h3.elim
      have ex:=Ap he hx h1;have ey:=Ap he hy h2;simp only[Ah]at ex ey;rw[ex,ey];exact A6 (Tl (Rc hb) _ (.inl rfl) x y hR h3)
     .cases ho
      obtain⟨vx,h1,g⟩:=Ak h;obtain⟨vy,h2,h3⟩:=Ak g;cases vx<;>try exact h3.elim
      cases vy<;>try exact h3.elim
      have ex:=Ap he hx h1;have ey:=Ap he hy h2;simp only[Ah]at ex ey;rw[ex,ey];exact A6 (Tl (Rc hb) _ (.inr rfl) x y hR h3)
     .cases ho
    .cases ho
  .cases ho
 case unOp op t x=>
  cases op<;>simp only at ho
  case not=>
   obtain⟨x',hx,rfl⟩:=Aj ho;obtain⟨v,h1,h2⟩:=Ak h;cases v<;>try exact h2.elim
   have ex:=Ap he hx h1;simp only[Ah]at ex;rw[ex];exact A6 (s:=Op.unary .not (.bool _)) (Aw hR h2 rfl)
  case neg=>
   split at ho
   .obtain⟨x',hx,rfl⟩:=Aj ho
    obtain⟨v,h1,h2⟩:=Ak h;cases v<;>try exact h2.elim
    obtain⟨ex,_⟩:=Ap he hx h1;rw[ex];exact A6 (s:=Op.unary .neg (.int _ _)) (Aw hR h2 ⟨rfl,KX _ _⟩)
   .cases ho
  case xor=>
   split at ho
   .obtain⟨x',hx,rfl⟩:=Aj ho
    obtain⟨v,h1,h2⟩:=Ak h;cases v<;>try exact h2.elim
    rename_i ka n;obtain⟨ex,_⟩:=Ap he hx h1;rw[ex];refine A6 (s:=Op.unary .xor (.int ka n)) ?_
    have:(Op.unary .xor (.int ka n)).run P w= .ok (.int ka (bits .xor ka (bif ka.signed then -1 else ka.max) n)) w:=by
     simp only[Op.unary,Op.intBits,FF,bits];cases ka.signed<;>rfl
    rw[this];exact Aw hR h2 ⟨rfl,KX _ _⟩
   .cases ho
  all_goals cases ho
 case convert s d x=>
  split at ho
  .rename_i k1 k2 hs hd
   obtain⟨x',hx,rfl⟩:=Aj ho;obtain⟨v,h1,h2⟩:=Ak h;cases v<;>try exact h2.elim
   rename_i ka n;obtain⟨ex,_⟩:=Ap he hx h1;rw[ex];refine A6 (s:=convert s d (.int ka n)) ?_
   have:(convert s d (.int ka n)).run P w= .ok (.int k2 (k2.wrap n)) w:=by
    simp only[convert,DU,BK hs,BK hd,G9,Conv.intToInt,FF]
   rw[this];exact Aw hR h2 ⟨rfl,KX _ _⟩
  .cases ho
 case makeInterface t x=>
  split at ho
  .cases ho
  .rename_i d hd hu
   obtain⟨x',hx,rfl⟩:=Aj ho;obtain⟨v,h1,h2⟩:=Ak h;refine A6 ?_
   have:(Instr.makeInterface t (a.eval x)).run P w= .ok (.iface t (a.eval x)) w:=by
    simp only[Instr.makeInterface,DU,BK hu,G9];cases d<;>first|rfl|exact absurd hu (hd _)
   rw[this];exact Aw hR h2 ⟨_,rfl,Ap he hx h1⟩
  .cases ho
 case makeFunc fn first cap=>
  cases fn<;>simp only at ho<;>try(cases ho;done)
  rename_i f;split at ho
  .rename_i os ps h1 h2
   cases ho;obtain⟨vf,h3,g⟩:=Iu h;obtain⟨vc,h4,h5⟩:=Iu g;have e1:=Kc he h1 h3;have e2:=Kc he h2 h4;exact⟨_,Z,h5,⟨_,_,rfl,e1.1,e1.2,e2.1,e2.2⟩,hR,CD.refl _ _ _⟩
  .cases ho
 case slice t x lo hi mx=>
  split at ho
  .rename_i e hu
   split at ho
   .rename_i s x' l' h' m' hs hx hl hh hm
    split at ho
    .rename_i hcond
     cases ho;obtain⟨vx,h1,g⟩:=Ak h;obtain⟨vl,h2,g2⟩:=U3 g;obtain⟨vh,h3,g3⟩:=U3 g2;obtain⟨vm,h4,g4⟩:=U3 g3;refine A6 (YK hu hs hcond.1 hR (Ap he hx h1) (OU he hl h2) (OU he hh h3) (OU he hm h4) (fun hms=>?_) g4)
     have:m'.isSome=true:=by
      cases mx with
      | none=>simp at hms
      | some q=>
        simp only[dJ]at hm;cases hq:BY q with
        | none=>rw[hq]at hm;cases hm
        | some z=>rw[hq]at hm;cases hm;rfl
     have:=hcond.2 this;cases hi with
     | none=>cases hh;simp at this
     | some q=>rfl
    .cases ho
   .cases ho
  .cases ho
 case fieldAddr s x f=>
  split at ho
  .rename_i fields hu
   split at ho
   .rename_i fd hf
    split at ho
    .rename_i sz hs
     split at ho
     .cases ho
     .rename_i h0
      obtain⟨x',hx,rfl⟩:=Aj ho;obtain⟨v,h1,h2⟩:=Ak h;exact A6 (YN hu hf hs h0 hR (Ap he hx h1) h2)
    .cases ho
   .cases ho
  .cases ho
 case field t x f=>
  split at ho
  .rename_i fields hu
   split at ho
   .rename_i fd hf
    split at ho
    .rename_i agg x' hA hx
     cases ho;obtain⟨v,h1,h2⟩:=Ak h;cases v<;>try exact h2.elim
     exact A6 (YM hu hf hA hR (Ap he hx h1) h2)
    .cases ho
   .cases ho
  .cases ho
 case indexAddr t x i=>
  split at ho
  .rename_i e hu
   split at ho
   .rename_i s x' i' hs hx hi
    cases ho;obtain⟨vx,h1,g⟩:=Ak h;obtain⟨vi,h2,h3⟩:=Ak g;exact A6 (Ng hu hs hR (Ap he hx h1) (Ap he hi h2) h3)
   .cases ho
  .rename_i n e hu
   split at ho
   .rename_i s x' i' hs hx hi
    cases ho;obtain⟨vx,h1,g⟩:=Ak h;obtain⟨vi,h2,h3⟩:=Ak g;exact A6 (Nh hu hs hR (Ap he hx h1) (Ap he hi h2) h3)
   .cases ho
  .cases ho
 case index t x i=>
  split at ho
  .rename_i n e hu
   split at ho
   .rename_i s ag x' i' hs hA hx hi
    cases ho;obtain⟨vx,h1,g⟩:=Ak h;obtain⟨vi,h2,h3⟩:=Ak g;exact A6 (YL hu hs hA hR (Ap he hx h1) (Ap he hi h2) h3)
   .cases ho
  .cases ho
 case extract x i=>
  obtain⟨x',hx,rfl⟩:=Aj ho;obtain⟨v,h1,h2⟩:=Ak h;cases v<;>try exact h2.elim
  rename_i vs;simp only at h2;split at h2
  .rename_i u hu
   obtain⟨c,e1,e2,e3⟩:=Ap he hx h1;obtain⟨d,hd,hr⟩:=Bj.1 e3 i u hu;simp only[HG]at hd;refine A6 ?_
   have:(Instr.extract (a.eval x) i).run P w= .ok d w:=by
    rw[e1];simp only[Instr.extract,hd,FF]
   rw[this];exact Aw hR h2 hr
  .exact h2.elim
 case nilCheck x=>
  obtain⟨x',hx,rfl⟩:=Aj ho;obtain⟨v,h1,h2⟩:=Ak h;have hev:=Ap he hx h1;cases v<;>try exact h2.elim
  case p n off=>
   have e:=hev;simp only[Ah]at e;simp only[e];exact⟨_,Z,h2,rfl,hR,CD.refl _ _ _⟩
  case rp cs=>
   have hev':=hev;obtain⟨b,o',e,_⟩:=hev;simp only[e];rw[e]at hev';exact⟨_,Z,h2,hev',hR,CD.refl _ _ _⟩
  case pe n sz i off=>
   have e:=hev;simp only[Ah]at e;simp only[e];exact⟨_,Z,h2,rfl,hR,CD.refl _ _ _⟩
  case f fn first cap=>
   cases fn<;>try exact h2.elim
   all_goals
    have hev':=hev;obtain⟨f',c',e,_⟩:=hev;simp only[e];rw[e]at hev';exact⟨_,Z,h2,hev',hR,CD.refl _ _ _⟩
 case typeAssert x xt t ok=>
  split at ho
  .cases ho
  .rename_i d hd hu
   split at ho
   .rename_i x' z hx hz
    cases ho;obtain⟨v,h1,h2⟩:=Ak h;have hev:=Ap he hx h1;obtain⟨c,hz3,hz4⟩:=Eu hz w;have hzr:=HN (H:=Hh F Z w) hz4;cases v<;>try exact h2.elim
    case FV t' u=>
     obtain⟨c',e,hr⟩:=hev;rw[e];refine A6 ?_;by_cases htt:t'=t
     .have:(Instr.typeAssert (.iface t' c') xt t ok).run P w= .ok (if ok then .tuple #[c',.bool true]else c') w:=by
       unfold Instr.typeAssert;simp only[DU,BK hu,G9];cases d<;>first|(simp[htt];done)|exact absurd hu (hd _)
      rw[this];refine Aw hR (h2.1 htt) ?_;cases ok
      .exact hr
      .exact⟨_,rfl,rfl,⟨c',rfl,hr⟩,⟨_,rfl,rfl⟩,trivial⟩
     .obtain⟨rfl,h3⟩:=h2.2 htt
      have:(Instr.typeAssert (.iface t' c') xt t true).run P w= .ok (.tuple #[c,.bool false]) w:=by
       unfold Instr.typeAssert;simp only[DU,BK hu,G9];cases d<;>first|(simp[htt,hz3];done)|exact absurd hu (hd _)
      rw[this];exact Aw hR h3 ⟨_,rfl,rfl,⟨c,rfl,hzr⟩,⟨_,rfl,rfl⟩,trivial⟩
    case D0=>
     simp only[Ah]at hev;rw[hev];obtain⟨rfl,h3⟩:=h2;refine A6 ?_
     have:(Instr.typeAssert .nilIface xt t true).run P w= .ok (.tuple #[c,.bool false]) w:=by
      unfold Instr.typeAssert;simp only[DU,BK hu,G9];cases d<;>first|(simp[hz3];done)|exact absurd hu (hd _)
     rw[this];exact Aw hR h3 ⟨_,rfl,rfl,⟨c,rfl,hzr⟩,⟨_,rfl,rfl⟩,trivial⟩
   .cases ho
  .cases ho
 case panic x=>
  obtain⟨x',hx,rfl⟩:=Aj ho;obtain⟨v,h1,h2⟩:=Ak h;cases v<;>try exact h2.elim
  have hev:=Ap he hx h1;have hev':=hev;obtain⟨c',e,hr⟩:=hev;rw[e]at hev' ⊢;exact⟨_,Z,h2,hev',hR,CD.refl _ _ _⟩
 case call c=>exact Zi o.type ho h he hR
end Go.Gl
namespace Go.Gl
variable {P:Program} {F:Nat->Prop} {Z:AE} {w:World} {k kp:V->AE->Prop}
def tM (P:Program) (t:TypeId) (y:Operand):Option Nat:=match P.underlying t,y with
 | some (.pointer _),.const (.pointer none)=>some 0
 | some (.slice _),.const (.slice none _ _)=>some 1
 | some (.interface _),.const .nilIface=>some 2
 | some (.map _ _),.const (.map none)=>some 3
 | some (.func _ _ _),.const .nilFunc=>some 4
 | _,_=>none
def IZ (P:Program):Nat->List Field->Bool
 | _,[]=>true
 | j,f::fs=>isInt P f.type&&(decide (f.name≠ "_")&&(Nat.beq f.offset j&&IZ P (j+1) fs))
def rEq (P:Program) (neg:Bool) (t:TypeId) (x y:Operand):Option GO:=
 match tM P t y with
 | some q=>(BY x).map (.gK q neg)
 | none=>match P.underlying t with
   | some (.array n e)=>if isInt P e&& !P.eqGuardType P.depth t&&Nat.beq (P.cellsOf e) 1 then match BY x,BY y with|some x,some y=>some (.nj n neg x y)|_,_=>none else none
   | some (.struct fs)=>if IZ P 0 fs.toList&& !P.eqGuardType P.depth t&& !P.stoodInHeld t then match BY x,BY y with|some x,some y=>some (.nj fs.size neg x y)|_,_=>none else none
   | _=>none
def iD (P:Program):Op->Option GO
 | .binOp op t x y _=>match op with
   | .eql=>rEq P false t x y
   | .neq=>rEq P true t x y
   | _=>none
 | .makeSlice t l c=>match P.underlying t with
   | some (.slice e)=>match Lm (zeroOf P e),P.info? e,BY l,BY c with
     | some z,some i,some l,some c=>if z.length=i.size/\0<i.size/\i.bytes<=4096 then some (.GZ i.size i.bytes z l c)else none
     | _,_,_,_=>none
   | _=>none
 | .index t x i=>match P.underlying t with
   | some .string=>match BY x,BY i with|some x,some i=>some (.Vy x i)|_,_=>none
   | _=>none
 | .convert s d x=>match P.underlying s,P.underlying d with
   | some (.slice e),some .string=>match P.underlying e with
     | some (.int .u8)=>(BY x).map .str
     | _=>none
   | _,_=>none
 | .buildSlice t 0 parts=>match P.underlying t with
   | some (.slice e)=>match EY P e,parts.toList with
     | some _,[]=>some (.Hs 1 0 [] [])
     | _,_=>none
   | _=>none
 | _=>none
def Sw {t e:TypeId} {z:List V} {i:TypeInfo} (hu:P.underlying t=some (.slice e)) (hz:Lm (zeroOf P e)=some z) (hi:P.info? e=some i) (hs:z.length=i.size/\0<i.size/\i.bytes<=4096)
    {vl vc:V} {cl cc:Value} (hR:Rel F Z w) (hl:Ah (Hh F Z w) vl cl) (hc:Ah (Hh F Z w) vc cc) (h:AJ Z i.size z vl vc k):Cl F Z w k kp ((Instr.makeSlice t cl cc).run P w):=by
 unfold AJ at h;split at h
 .rename_i kl n kc m
  obtain⟨h0,hnm,hm,hk⟩:=h;obtain⟨rfl,_⟩:=hl;obtain⟨rfl,_⟩:=hc;obtain⟨v,hz1,hz2⟩:=G3 hz;obtain⟨zc,hz3,hz4⟩:=Eu hz1 w;obtain⟨h5,h6⟩:=C4 (HN (H:=Hh F Z w) hz4) hz2
  have hiz:i.zero=some zc:=by
   cases hq:i.zero with
   | none=>simp[zeroValue,typeInfo,hi,hq]at hz3
   | some q=>simp[zeroValue,typeInfo,hi,hq]at hz3;rw[hz3]
  have hb:(i.bytes:Int)*m<=281474976710656:=by
   have h1:(i.bytes:Int)*m<=4096*m:=Int.mul_le_mul_of_nonneg_right (by have:=hs.2.2;omega) (by omega);have h2:m<=1073741824:=hm;omega
  rw[run_make w t e i zc hu hi hiz kl kc n m h0 hnm hb (by omega)];have hlen:(List.replicate n.toNat z).length=n.toNat:=by simp
  refine⟨_,_,hk w.heap.size hR.new,?_,IX hR ?_,EM _ _⟩
  .exact⟨rfl,by omega⟩
  .refine⟨_,_,rfl,by simp[madeCells],by simp only[hlen];omega,by simp only[hlen,Aa]at *;omega,?_⟩
   have hrow:=BH.1 (KU hs.1 (by omega) h6 m.toNat);refine BH.2 fun j e hj=>hrow j e ?_
   rw[List.getElem?_replicate]at hj ⊢;split at hj
   .rw[if_pos (by omega)];exact hj
   .cases hj
 .exact h.elim
def dL (op:BinOp):Bool:=match op with| .neq=>true|_=>false
def KO {t:TypeId} (op:BinOp) (hop:op= .eql\/op= .neq) (x y:Operand) {cx cy:Value} (hg:(eqGuard op t x y cx cy).run P w= .ok () w)
    (hb:binOp op t cx cy=if op= .eql then(do pure (.bool (<-Op.equal t cx cy)))else(do pure (.bool (!(<-Op.equal t cx cy))))) {r:Bool} (he:(Op.equal t cx cy).run P w= .ok r w) (hR:Rel F Z w)
    (h:k (.b (bif dL op then !r else r)) Z):Cl F Z w k kp ((do eqGuard op t x y cx cy;binOp op t cx cy:Sem Value).run P w):=by
 simp only[DU,hg,G9];rw[hb];rcases hop with rfl|rfl
 .simp only[if_true,DU,he,G9,FF]
  exact Aw hR h rfl
 .simp only[reduceCtorEq,if_false,DU,he,G9,FF]
  exact Aw hR h rfl
section nils
variable {t:TypeId} (d:Nat)
def uQ {e:TypeId} (hu:P.underlying t=some (.pointer e)):(Op.equalIn (d+1) t (.pointer none) (.pointer none)).run P w= .ok true w:=by simp only[Op.equalIn,DU,BK hu,Result.andThen,FF];rfl
def uP {e:TypeId} {a:Addr} (hu:P.underlying t=some (.pointer e)):(Op.equalIn (d+1) t (.pointer (some a)) (.pointer none)).run P w= .ok false w:=by simp only[Op.equalIn,DU,BK hu,Result.andThen,FF]
def uO {e:TypeId} {l c l' c':Nat} (hu:P.underlying t=some (.slice e)):(Op.equalIn (d+1) t (.slice none l c) (.slice none l' c')).run P w= .ok true w:=by simp only[Op.equalIn,DU,BK hu,Result.andThen,FF];rfl
def jH {e:TypeId} {a:Addr} {l c l' c':Nat} (hu:P.underlying t=some (.slice e)):(Op.equalIn (d+1) t (.slice (some a) l c) (.slice none l' c')).run P w= .ok false w:=by simp only[Op.equalIn,DU,BK hu,Result.andThen,FF]
def uU {m:Array (String×TypeId)} (hu:P.underlying t=some (.interface m)):(Op.equalIn (d+1) t .nilIface .nilIface).run P w= .ok true w:=by simp only[Op.equalIn,DU,BK hu,Result.andThen,FF]
def uT {m:Array (String×TypeId)} {u:TypeId} {v:Value} (hu:P.underlying t=some (.interface m)):(Op.equalIn (d+1) t (.iface u v) .nilIface).run P w= .ok false w:=by simp only[Op.equalIn,DU,BK hu,Result.andThen,FF]
def uS {a b:TypeId} (hu:P.underlying t=some (.map a b)):(Op.equalIn (d+1) t (.map none) (.map none)).run P w= .ok true w:=by simp only[Op.equalIn,DU,BK hu,Result.andThen,FF];rfl
def uR {a b:TypeId} {n:Nat} (hu:P.underlying t=some (.map a b)):(Op.equalIn (d+1) t (.map (some n)) (.map none)).run P w= .ok false w:=by simp only[Op.equalIn,DU,BK hu,Result.andThen,FF]
def uW {a b:Array TypeId} {v:Bool} (hu:P.underlying t=some (.func a b v)):(Op.equalIn (d+1) t .nilFunc .nilFunc).run P w= .ok true w:=by simp only[Op.equalIn,DU,BK hu,Result.andThen,FF]
def uV {a b:Array TypeId} {v:Bool} {fn:Fn} {f' c':Array Value} (hu:P.underlying t=some (.func a b v)):(Op.equalIn (d+1) t (.func fn f' c') .nilFunc).run P w= .ok false w:=by simp only[Op.equalIn,DU,BK hu,Result.andThen,FF]
end nils
def fB {t : TypeId} {q:Nat} (op:BinOp) (hop:op= .eql\/op= .neq) (x y:Operand) {cy:Value} (hq:tM P t y=some q) (hy: ∀c,y= .const c->cy=c) (hR:Rel F Z w) {vx:V} {cx:Value}
    (hx:Ah (Hh F Z w) vx cx) (h:Jq q (dL op) vx fun v=>k v Z):Cl F Z w k kp ((do eqGuard op t x y cx cy;binOp op t cx cy:Sem Value).run P w):=by
 have fin: ∀ {r:Bool},(eqGuard op t x y cx cy).run P w= .ok () w->(binOp op t cx cy=if op= .eql then(do pure (.bool (<-Op.equal t cx cy)))else(do pure (.bool (!(<-Op.equal t cx cy)))))->(Op.equalIn 10000 t cx cy).run P w= .ok r w->
  k (.b (bif dL op then !r else r)) Z->Cl F Z w k kp ((do eqGuard op t x y cx cy;binOp op t cx cy:Sem Value).run P w):=fun hg hb he hk=>KO op hop x y hg hb he hR hk
 unfold tM at hq;split at hq<;>first|(cases hq;done)|skip
 all_goals
  cases hq;have hc:=hy _ rfl;subst hc
 .rename_i hu
  unfold Jq at h;split at h<;>first|exact h.elim|(rename_i h0;cases h0;done)|skip
  .simp only[Ah]at hx;subst hx
   refine fin (r:=true) ?_ ?_ (uQ 9999 hu) ?_
   .unfold eqGuard;rcases hop with rfl|rfl<;>rfl
   .rcases hop with rfl|rfl<;>rfl
   .rcases hop with rfl|rfl<;>exact h
  all_goals
   first|(obtain⟨b,o,rfl,_⟩:=hx)|(simp only[Ah]at hx;subst hx)
   refine fin (r:=false) ?_ ?_ (uP 9999 hu) ?_
   .unfold eqGuard;rcases hop with rfl|rfl<;>rfl
   .rcases hop with rfl|rfl<;>rfl
   .rcases hop with rfl|rfl<;>exact h
 .rename_i hu
  unfold Jq at h;split at h<;>first|exact h.elim|(rename_i h0;cases h0;done)|skip
  .obtain⟨rfl,_⟩:=hx
   refine fin (r:=false) ?_ ?_ (jH 9999 hu) ?_
   .unfold eqGuard;rcases hop with rfl|rfl<;>rfl
   .rcases hop with rfl|rfl<;>rfl
   .rcases hop with rfl|rfl<;>exact h
  .rename_i es f _
   obtain⟨a,cap,rfl,h1,h2,h3,h4,h5⟩:=hx;cases a with
   | none=>
     refine fin (r:=true) ?_ ?_ (uO 9999 hu) ?_
     .unfold eqGuard;rcases hop with rfl|rfl<;>rfl
     .rcases hop with rfl|rfl<;>rfl
     .have:es= []:=by
       have:=h4 rfl;exact YW.1 (by omega)
      exact h.1 this _
   | some a=>
     refine fin (r:=false) ?_ ?_ (jH 9999 hu) ?_
     .unfold eqGuard;rcases hop with rfl|rfl<;>rfl
     .rcases hop with rfl|rfl<;>rfl
     .by_cases he:es= []
      .exact h.1 he _
      .rcases hop with rfl|rfl<;>exact h.2 he
 .rename_i hu
  unfold Jq at h;split at h<;>first|exact h.elim|(rename_i h0;cases h0;done)|skip
  .simp only[Ah]at hx;subst hx
   refine fin (r:=true) ?_ ?_ (uU 9999 hu) ?_
   .unfold eqGuard;rcases hop with rfl|rfl<;>simp
   .rcases hop with rfl|rfl<;>rfl
   .rcases hop with rfl|rfl<;>exact h
  .obtain⟨c',rfl,_⟩:=hx
   refine fin (r:=false) ?_ ?_ (uT 9999 hu) ?_
   .unfold eqGuard;rcases hop with rfl|rfl<;>rfl
   .rcases hop with rfl|rfl<;>rfl
   .rcases hop with rfl|rfl<;>exact h
 .rename_i hu
  unfold Jq at h;split at h<;>first|exact h.elim|(rename_i h0;cases h0;done)|skip
  .simp only[Ah]at hx;subst hx
   refine fin (r:=true) ?_ ?_ (uS 9999 hu) ?_
   .unfold eqGuard;rcases hop with rfl|rfl<;>rfl
   .rcases hop with rfl|rfl<;>rfl
   .rcases hop with rfl|rfl<;>exact h
  .simp only[Ah]at hx;subst hx
   refine fin (r:=false) ?_ ?_ (uR 9999 hu) ?_
   .unfold eqGuard;rcases hop with rfl|rfl<;>rfl
   .rcases hop with rfl|rfl<;>rfl
   .rcases hop with rfl|rfl<;>exact h
 .rename_i hu
  unfold Jq at h;split at h<;>first|exact h.elim|(rename_i h0;cases h0;done)|skip
  .simp only[Ah]at hx;subst hx
   refine fin (r:=true) ?_ ?_ (uW 9999 hu) ?_
   .unfold eqGuard;rcases hop with rfl|rfl<;>rfl
   .rcases hop with rfl|rfl<;>rfl
   .rcases hop with rfl|rfl<;>exact h
  .obtain⟨f',c',rfl,_⟩:=hx
   refine fin (r:=false) ?_ ?_ (uV 9999 hu) ?_
   .unfold eqGuard;rcases hop with rfl|rfl<;>rfl
   .rcases hop with rfl|rfl<;>rfl
   .rcases hop with rfl|rfl<;>exact h
def PM {d : Nat} {e:TypeId} {ki:IntKind} (hue:P.underlying e=some (.int ki)) {xs ys:Array Value} {H:Nat->Nat->Option Value}: ∀(cs ds:List V) (j:Nat) (r:Bool),
    Ba H (fun i=>xs[i]?) j cs->Ba H (fun i=>ys[i]?) j ds->Bz cs ds=some r->(Op.eqItems (d+1) e 1 xs ys (List.range' j cs.length)).run P w= .ok r w
 | [],ds,j,r,_,_,h=>by
   cases ds with
   | nil=>simp only[Bz,JM]at h;subst h;rfl
   | cons _ _=>simp[Bz]at h
 | c ::cs,ds,j,r,hx,hy,h=>by
   cases ds with
   | nil=>cases c<;>simp[Bz]at h
   | cons q ds=>
     cases c<;>first|(simp[Bz]at h;done)|skip
     cases q<;>first|(simp[Bz]at h;done)|skip
     rename_i k a k' b;simp only[Bz]at h;split at h
     .rename_i hk
      subst hk;obtain⟨⟨cx,h1,⟨rfl,_⟩⟩,h2⟩:=hx;obtain⟨⟨cy,h3,⟨rfl,_⟩⟩,h4⟩:=hy;obtain⟨r',h5,h6⟩:=Aj h;have hp:P.plainKey e=true:=by simp[Program.plainKey,hue]
      simp only[LF,List.range'_succ,Op.eqItems,Nat.mul_one,DU,run_part_plain w hp h1,run_part_plain w hp h3,G9,run_equalIn_int w d e _ ki a b hue];have ih:=PM (d:=d) hue cs ds (j+1) r' h2 h4 h5;cases hab:(a==b)
      .rw[hab]at h6
       simp only[Bool.false_and]at h6;subst h6;simp
      .rw[hab]at h6
       simp only[Ds]at h6;subst h6;simpa using ih
     .cases h
def fC {t e:TypeId} {n:Nat} (op:BinOp) (hop:op= .eql\/op= .neq) (x y:Operand) (hu:P.underlying t=some (.array n e)) (he:isInt P e=true) (hg:P.eqGuardType P.depth t=false) (h1:P.cellsOf e=1) (hR:Rel F Z w) {vx vy:V} {cx cy:Value}
    (hx:Ah (Hh F Z w) vx cx) (hy:Ah (Hh F Z w) vy cy) (h:UU n (dL op) vx vy fun v=>k v Z):Cl F Z w k kp ((do eqGuard op t x y cx cy;binOp op t cx cy:Sem Value).run P w):=by
 unfold UU at h;split at h
 .rename_i cs ds
  obtain⟨xs,rfl,h2,h3⟩:=hx;obtain⟨ys,rfl,h4,h5⟩:=hy;split at h
  .rename_i r hl hr
   have hl:cs.length=n:=Vs hl;obtain⟨ki,hki⟩:=TE he;have hi: ∃i,P.info? e=some i:=info_of_underlying hki;obtain⟨i,hi⟩:=hi;refine KO op hop x y (r:=r) (run_eqGuard_agg w op t x y xs ys hg) ?_ ?_ hR h
   .rcases hop with rfl|rfl<;>rfl
   .show(Op.equalIn (9999+1) t (.agg xs) (.agg ys)).run P w= .ok r w
    rw[run_equalIn_array w 9999 xs ys hu hi,h1,List.range_eq_range',<-hl];exact PM (d:=9998) hki cs ds 0 r h3 h5 hr
  .exact h.elim
 .exact h.elim
def Nb {d : Nat} {xs ys:Array Value} {H:Nat->Nat->Option Value}: ∀(fs:List Field) (cs ds:List V) (j:Nat) (r:Bool),IZ P j fs=true->cs.length=fs.length->
    Ba H (fun i=>xs[i]?) j cs->Ba H (fun i=>ys[i]?) j ds->Bz cs ds=some r->(Op.eqFields (d+1) xs ys fs).run P w= .ok r w
 | [],cs,ds,j,r,_,hl,_,_,h=>by
   cases cs with
   | cons _ _=>cases hl
   | nil=>
     cases ds with
     | nil=>simp only[Bz,JM]at h;subst h;rfl
     | cons _ _=>simp[Bz]at h
 | f ::fs,cs,ds,j,r,hf,hl,hx,hy,h=>by
   cases cs with
   | nil=>cases hl
   | cons c cs=>
   cases ds with
   | nil=>cases c<;>simp[Bz]at h
   | cons q ds=>
     cases c<;>first|(simp[Bz]at h;done)|skip
     cases q<;>first|(simp[Bz]at h;done)|skip
     rename_i k a k' b;simp only[Bz]at h;split at h
     .rename_i hk
      subst hk;simp only[IZ,A9,Cp]at hf;obtain⟨f1,f2,f3,f4⟩:=hf;obtain⟨ki,hue⟩:=TE f1;have f3:=Vs f3;obtain⟨⟨cx,h1,⟨rfl,_⟩⟩,h2⟩:=hx;obtain⟨⟨cy,h3,⟨rfl,_⟩⟩,h4⟩:=hy;obtain⟨r',h5,h6⟩:=Aj h;have hp:P.plainKey f.type=true:=by simp[Program.plainKey,hue]
      simp only[Op.eqFields];rw[if_pos f2,f3];simp only[DU,run_part_plain w hp h1,run_part_plain w hp h3,G9,run_equalIn_int w d f.type _ ki a b hue];have ih:=Nb (d:=d) fs cs ds (j+1) r' f4 (by simpa using hl) h2 h4 h5;cases hab:(a==b)
      .rw[hab]at h6
       simp only[Bool.false_and]at h6;subst h6;simp
      .rw[hab]at h6
       simp only[Ds]at h6;subst h6;simpa using ih
     .cases h
def fA {t:TypeId} {fs:Array Field} (op:BinOp) (hop:op= .eql\/op= .neq) (x y:Operand) (hu:P.underlying t=some (.struct fs)) (he:IZ P 0 fs.toList=true) (hg:P.eqGuardType P.depth t=false) (h1:P.stoodInHeld t=false) (hR:Rel F Z w) {vx vy:V} {cx cy:Value}
    (hx:Ah (Hh F Z w) vx cx) (hy:Ah (Hh F Z w) vy cy) (h:UU fs.size (dL op) vx vy fun v=>k v Z):Cl F Z w k kp ((do eqGuard op t x y cx cy;binOp op t cx cy:Sem Value).run P w):=by
 unfold UU at h;split at h
 .rename_i cs ds
  obtain⟨xs,rfl,h2,h3⟩:=hx;obtain⟨ys,rfl,h4,h5⟩:=hy;split at h
  .rename_i r hl hr
   have hl:cs.length=fs.size:=Vs hl;have hfs:P.fieldsOf t=fs:=by simp[Program.fieldsOf,hu]
   refine KO op hop x y (r:=r) (run_eqGuard_agg w op t x y xs ys hg) ?_ ?_ hR h
   .rcases hop with rfl|rfl<;>rfl
   .show(Op.equalIn (9999+1) t (.agg xs) (.agg ys)).run P w= .ok r w
    rw[run_equalIn_struct w 9999 t xs ys (by rw[hfs];exact hu) h1,hfs];exact Nb (d:=9998) fs.toList cs ds 0 r he (by simpa using hl) h3 h5 hr
  .exact h.elim
 .exact h.elim
def Rn: ∀ {ys:List (List V)} {ns:List Int},Fk ys=some ns->ns.length=ys.length/\ ∀(i:Nat) (n:Int),ns[i]? =some n->ys[i]? =some [V.i .u8 n]
 | [],ns,h=>by
   cases h;exact⟨rfl,fun _ _ h=>by simp at h⟩
 | e ::r,ns,h=>by
   unfold Fk at h;split at h
   .cases ‹_= []›
   .rename_i n r' he
    cases he;split at h
    .rename_i l hl
     cases h;obtain⟨h1,h2⟩:=Rn hl;refine⟨by simp[h1],fun i m hi=>?_⟩;cases i with
     | zero=>simp at hi;subst hi;rfl
     | succ i=>exact h2 i m (by simpa using hi)
    .cases h
   .cases h
def ew {s d e:TypeId} (hs:P.underlying s=some (.slice e)) (hd:P.underlying d=some .string) (he:P.underlying e=some (.int .u8)) (hR:Rel F Z w) {vx:V} {cx:Value} (hx:Ah (Hh F Z w) vx cx) (h:gm Z vx fun v=>k v Z) :
    Cl F Z w k kp ((convert s d cx).run P w):=by
 obtain⟨ys,base,cap,U,rfl,_,hc⟩:=Lt hR hx h;cases hn:Fk ys with
 | none=>rw[hn]at U;exact U.elim
 | some ns=>
   rw[hn]at U;obtain⟨h1,h2⟩:=Rn hn
   have fin:(convert s d (.slice base ys.length cap)).run P w= .ok (.string ⟨(ns.map fun n=>UInt8.ofNat n.toNat).toArray⟩) w->Cl F Z w k kp ((convert s d (.slice base ys.length cap)).run P w):=fun e=>by
    rw[e];exact Aw hR U rfl
   have nilB: ∀ {l c:Nat},ys= []->(convert s d (.slice none l c)).run P w= .ok (.string ⟨(ns.map fun n=>UInt8.ofNat n.toNat).toArray⟩) w:=fun e=>by
    subst e;simp only[Fk,JM]at hn;subst hn;exact run_convert_bytes_nil w s e hs he _ _ d hd
   have main: ∀ {b o:Nat} {g:Nat->Option Value},base=some ⟨b,o,none⟩->(∀i c,g i=some c->w.cell? ⟨b,i,none⟩=some c)->BJ (Hh F Z w) g 1 o ys->(convert s d (.slice base ys.length cap)).run P w= .ok (.string ⟨(ns.map fun n=>UInt8.ofNat n.toNat).toArray⟩) w:=fun {b o g} hb hg hr=>by
    subst hb;refine run_convert_bytes_arg w s e hs he b o ys.length cap ns h1 (fun i hi=>?_) d hd;have hi':i<ns.length:=by omega
    have h3:=h2 i ns[i] (Cs hi');obtain⟨_,h4⟩:=BH.1 hr i _ h3;simp only[Ba]at h4;obtain⟨⟨c,h5,h6⟩,_⟩:=h4;obtain⟨rfl,_⟩:=h6;have:=hg _ _ h5;simp only[Nat.mul_one]at this;rw[this];simp[List.getD,Cs hi']
   refine fin ?_;rcases hc with hc|⟨b,o,g,hb,hg,hr⟩
   .cases base with
    | none=>exact nilB hc
    | some a=>
      subst hc;simp only[Fk,JM]at hn;subst hn;rw[run_convert_bytes_string w s d e _ _ cap hs he hd];exact run_bytesToString w a 0 cap [] (by unfold loadCells loadCellsFrom;rfl)
   .exact main hb hg hr
def Zj {t:TypeId} (hu:P.underlying t=some .string) (hR:Rel F Z w) {vx vi:V} {cx ci:Value} (hx:Ah (Hh F Z w) vx cx) (hi:Ah (Hh F Z w) vi ci) (h:Qa vx vi fun v=>k v Z):Cl F Z w k kp ((Instr.index t cx ci).run P w):=by
 unfold Qa at h;split at h
 .rename_i b ki j
  obtain⟨h0,h⟩:=h;have hx':cx= .string b:=hx;subst hx';obtain⟨rfl,_⟩:=hi;split at h
  .rename_i c hc
   have hb:b[j.toNat]? =some c:=by
    rw[Array.getElem?_toList]at hc;obtain⟨h1,h2⟩:=sm.1 hc;rw[getElem?_pos b j.toNat h1];exact congrArg some h2
   simp only[Instr.index,DU,asIntOf,FF,Result.andThen,BK hu,h0,if_true,hb];have:=UInt8.toNat_lt c;exact Aw hR h ⟨rfl,by simp only[IntKind.min,IntKind.max,IntKind.signed,IntKind.bits];simp<;>omega⟩
  .exact h.elim
 .exact h.elim
def X5 {env : Env} {a:Act} {o:Oper} {ao:GO} (ho:iD P o.op=some ao) (h:Fw P ao env Z k kp) (he:CY (Hh F Z w) env a.tmps) (hR:Rel F Z w) :
    Good P F Z w k kp ((execOp a.eval o).run P w):=by
 have heq: ∀ {op:BinOp} {t yt:TypeId} {x y:Operand},(op= .eql\/op= .neq)->rEq P (dL op) t x y=some ao->o.op= .binOp op t x y yt->Good P F Z w k kp ((execOp a.eval o).run P w):=fun {op t yt x y} hop hr hoo=>by
  unfold execOp;rw[hoo];dsimp only;unfold rEq at hr;split at hr
  .rename_i q hq
   obtain⟨x',hx,rfl⟩:=Aj hr;obtain⟨vx,h1,h2⟩:=Ak h;exact A6 (fB op hop x y hq (fun c hc=>by rw[hc];rfl) hR (Ap he hx h1) h2)
  .split at hr
   .rename_i n e hu
    split at hr
    .rename_i hc
     simp only[A9,Bool.not_eq_true']at hc;split at hr
     .rename_i x' y' hx hy
      cases hr;obtain⟨vx,h1,g⟩:=Ak h;obtain⟨vy,h2,h3⟩:=Ak g;exact A6 (fC op hop x y hu hc.1.1 hc.1.2 (Vs hc.2) hR (Ap he hx h1) (Ap he hy h2) h3)
     .cases hr
    .cases hr
   .rename_i fs hu
    split at hr
    .rename_i hc
     simp only[A9,Bool.not_eq_true']at hc;split at hr
     .rename_i x' y' hx hy
      cases hr;obtain⟨vx,h1,g⟩:=Ak h;obtain⟨vy,h2,h3⟩:=Ak g;exact A6 (fA op hop x y hu hc.1.1 hc.1.2 hc.2 hR (Ap he hx h1) (Ap he hy h2) h3)
     .cases hr
    .cases hr
   .cases hr
 unfold iD at ho;split at ho
 .rename_i op t x y yt hop
  split at ho
  .exact heq (.inl rfl) ho hop
  .exact heq (.inr rfl) ho hop
  .cases ho
 .rename_i t l c hop
  split at ho
  .rename_i e hu
   split at ho
   .rename_i z i l' c' hz hi hl hc
    split at ho
    .rename_i hs
     cases ho;obtain⟨vl,h1,g⟩:=Ak h;obtain⟨vc,h2,h3⟩:=Ak g;unfold execOp;rw[hop];dsimp only;exact A6 (Sw hu hz hi hs hR (Ap he hl h1) (Ap he hc h2) h3)
    .cases ho
   .cases ho
  .cases ho
 .rename_i t x i hop
  split at ho
  .rename_i hu
   split at ho
   .rename_i x' i' hx hi
    cases ho;obtain⟨vx,h1,g⟩:=Ak h;obtain⟨vi,h2,h3⟩:=Ak g;unfold execOp;rw[hop];exact A6 (Zj hu hR (Ap he hx h1) (Ap he hi h2) h3)
   .cases ho
  .cases ho
 .rename_i s d x hop
  split at ho
  .rename_i e hs hd
   split at ho
   .rename_i he8
    obtain⟨x',hx,rfl⟩:=Aj ho;obtain⟨vx,h1,h2⟩:=Ak h;unfold execOp;rw[hop];exact A6 (ew hs hd he8 hR (Ap he hx h1) h2)
   .cases ho
  .cases ho
 .rename_i t parts hop
  split at ho
  .rename_i e hu
   split at ho
   .rename_i sz hsz hp
    cases ho;simp only[Fw]at h;obtain⟨fs,h1,h3⟩:=aY h;simp only[J4,List.replicate,JM]at h1;subst h1
    have hps:parts= #[]:=by
     cases parts;simp at hp;rw[hp]
    subst hps;unfold execOp;rw[hop];dsimp only
    have hrun:(Instr.buildSlice t 0 ((#[]:Array (Nat×Operand)).map fun(i,x)=>(i,a.eval x))).run P w= .ok (.slice (some ⟨w.heap.size,0,none⟩) 0 0) (w.alloc (.cells #[] e)):=by
     unfold Instr.buildSlice;have hns: ¬0 > 2 ^ 24:=by omega
     simp only[DU,BK hu,G9,Ed hsz,Nat.zero_mul,hns,if_false,if_true,FF];have hz: ∀g:Nat->Value,(Array.range 0).map g= #[]:=fun g=>by simp[Array.range]
     rw[hz];simp only[List.map_toArray,List.map_nil,Instr.fill];rfl
    refine A6 ?_;rw[hrun];exact⟨_,Z,h3,⟨_,0,rfl,Hz _,fun _=>rfl,Nat.zero_le _,fun h=>(by cases h),fun h=>absurd rfl h⟩,Lv hR _,JF w _⟩
   .cases ho
  .cases ho
 .cases ho
def tI (P:Program) (o:Op):Option GO:=match rOp P o with|some a=>some a|none=>iD P o
def ZX {env:Env} {a:Act} {o:Oper} {ao:GO} (ho:tI P o.op=some ao) (h:Fw P ao env Z k kp) (he:CY (Hh F Z w) env a.tmps) (hR:Rel F Z w) :
    Good P F Z w k kp ((execOp a.eval o).run P w):=by
 unfold tI at ho;split at ho
 .rename_i h';cases ho;exact dw h' h he hR
 .exact X5 ho h he hR
end Go.Gl
