import Derived.OrdersIn
import Derived.Below
import Derived.Laws.Cells
import Derived.Laws.Rows
import Derived.Laws.World
import Derived.Laws.Slices
import Derived.Laws.Build
import Derived.WideShapes4
import Derived.OpenShut
set_option linter.all false
set_option linter.defProp false
set_option maxHeartbeats 8000000
noncomputable section
namespace Go.Gl
def kZ {n m:Nat} (h:Nat.ble n m=true:=by exact rfl):n<=m:=Nat.le_of_ble_eq_true h
abbrev Cr:=@List.getElem?_eq_getElem
abbrev Bo:=@List.mem_of_getElem?
abbrev B2:=@List.length_map
abbrev C4:=@List.getD_eq_getElem?_getD
abbrev Cc:=@decide_eq_true_eq
abbrev A9:=@Bool.and_eq_true
abbrev Je:=@List.getElem?_map
abbrev JD:=@Option.some.injEq
abbrev PW:=@List.mem_append_left
abbrev Od:=@List.mem_append_right
abbrev cQ:=@List.getElem?_append_left
abbrev Du:=@List.mem_append
abbrev EB:=@List.all_eq_true
abbrev L2:=@Bool.false_eq_true
abbrev NW:=@List.length_append
abbrev Ky:=@List.length_cons
abbrev IX:=@List.mem_map
abbrev YH:=@Option.map_some
abbrev sP:=@List.getElem?_cons_zero
abbrev y6:=@List.getElem?_cons_succ
abbrev sO:=@Array.getElem?_eq_some_iff
abbrev y5:=@List.map_map
abbrev sN:=@List.length_drop
abbrev Jd:=@List.length_take
abbrev y4:=@List.getElem?_drop
abbrev GR:=@List.mem_cons
abbrev PD:=@List.append_assoc
abbrev JX:=@List.mem_filter
abbrev zrH:=@Bool.and_eq_true_iff
abbrev DD:=@beq_iff_eq
abbrev zrJ:=@bne_iff_ne
abbrev DU:=@Sem.run_bind
abbrev E8:=@Sem.run_pure
abbrev G3:=@Result.andThen_ok
abbrev JC:=@List.getElem?_eq_some_iff
abbrev E3:=@List.map_cons
abbrev Fm:=@Bool.or_eq_true
abbrev Ku:=@List.sublist_cons_self
abbrev GB:=@Int.toNat_natCast
abbrev GA:=@List.append_nil
abbrev G8:=@Nat.zero_add
abbrev IZ:=@Bool.eq_iff_iff
abbrev EA:=@Bool.true_and
abbrev Oc:=@List.length_filter_le
abbrev Vj:=@Nat.eq_of_beq_eq_true
abbrev Vi:=@Nat.mul_le_mul_right
abbrev IY:=@List.any_eq_true
abbrev JW:=@List.nil_sublist
abbrev IW:=@Nat.le_refl
abbrev YE:=@List.length_eq_zero_iff
abbrev KF:=@List.mem_singleton
abbrev NV:=@List.perm_append_comm
abbrev KE:=@List.all_cons
abbrev SN:=@List.map_append
abbrev PV:=@List.any_cons
end Go.Gl
namespace Go.Gl
def AZ:Nat:=17592186044416
inductive V where
 | b (x:Bool)
 | i (k:IntKind) (n:Int)
 | s (x:ByteArray)
 | pn
 | p (n off:Nat)
 | rp (cs:List V)
 | l (es:List (List V)) (full:Bool)
 | sl (n len cap:Nat)
 | sv (n sz off len:Nat)
 | pe (n sz i off:Nat)
 | m (n:Nat)
 | mn
 | f (fn:Fn) (first cap:List V)
 | L9
 | FO (t:TypeId) (v:V)
 | Dv
 | a (cs:List V)
 | t (vs:List V)
 | any
 deriving Inhabited
mutual
def Ag (H:Nat->Nat->Option Value):V->Value->Prop
 | .b x,c=>c= .bool x
 | .i k n,c=>c= .int k n/\k.min<=n/\n<=k.max
 | .s x,c=>c= .string x
 | .pn,c=>c= .pointer none
 | .p n off,c=>c= .pointer (some ⟨n,off,none⟩)
 | .rp cs,c=> ∃b o,c= .pointer (some ⟨b,o,none⟩)/\Ba H (H b) o cs
 | .l es full,c=> ∃a cap,c= .slice a es.length cap/\es.length<=cap/\(full=true->cap=es.length)/\es.length<=AZ/\(a=none->cap=0)/\
  (es≠[]-> ∃b o sz,a=some ⟨b,o,none⟩/\BJ H (H b) sz o es)
 | .sl n len cap,c=>c= .slice (some ⟨n,0,none⟩) len cap/\len<=cap
 | .sv n sz off len,c=> ∃a cap,c= .slice a len cap/\len<=cap/\(len≠0->a=some ⟨n,off*sz,none⟩)
 | .pe n sz i off,c=>c= .pointer (some ⟨n,i*sz+off,none⟩)
 | .m n,c=>c= .map (some n)
 | .mn,c=>c= .map none
 | .f fn first cap,c=> ∃f' c',c= .func fn f' c'/\f'.size=first.length/\Ba H (fun i=>f'[i]?) 0 first/\c'.size=cap.length/\Ba H (fun i=>c'[i]?) 0 cap
 | .L9,c=>c= .nilFunc
 | .FO t v,c=> ∃c',c= .iface t c'/\Ag H v c'
 | .Dv,c=>c= .nilIface
 | .a cs,c=> ∃c',c= .agg c'/\c'.size=cs.length/\Ba H (fun i=>c'[i]?) 0 cs
 | .t vs,c=> ∃c',c= .tuple c'/\c'.size=vs.length/\Ba H (fun i=>c'[i]?) 0 vs
 | .any,_=>True
def Ba (H:Nat->Nat->Option Value) (g:Nat->Option Value):Nat->List V->Prop
 | _,[]=>True
 | o,v::vs=>(∃c,g o=some c/\Ag H v c)/\Ba H g (o+1) vs
def BJ (H:Nat->Nat->Option Value) (g:Nat->Option Value) (sz:Nat):Nat->List (List V)->Prop
 | _,[]=>True
 | o,e::es=>e.length=sz/\Ba H g o e/\BJ H g sz (o+sz) es
end
inductive sX where
 | ready
 | ret
 | exit (id:Nat)
inductive O where
 | cs (vs:List V)
 | arr (sz:Nat) (es:List (List V)) (cap:Nat)
 | map (kvs:List (V×V))
 | loop (st:sX) (env:List (Nat×V)) (ok:FuncId->Array Tmp->Code->Code->Nat->Prop)
 deriving Inhabited
def se:sX->Loop->Prop
 | .ready,lp=>lp.state= .ready/\lp.pending=none
 | .ret,lp=>lp.state= .done/\lp.pending=some .ret
 | .exit id,lp=>lp.state= .done/\lp.pending=some (.exit id)
def F3 (H:Nat->Nat->Option Value):List (V×V)->List MapEntry->Prop
 | [],[]=>True
 | (k,v)::r,e::es=>Ag H k e.key/\Ag H v e.val/\F3 H r es
 | _,_=>False
def QF (H:Nat->Nat->Option Value):O->Obj->Prop
 | .cs vs,o=> ∃c e,o= .cells c e (0,0)/\c.size=vs.length/\Ba H (fun i=>c[i]?) 0 vs
 | .arr sz es cap,o=> ∃c e,o= .cells c e (0,0)/\cap*sz<=c.size/\es.length<=cap/\es.length<=AZ/\BJ H (fun i=>c[i]?) sz 0 es
 | .map kvs,o=> ∃es clk,o= .map es clk/\F3 H kvs es.toList/\es.toList.Pairwise (fun a b=>a.key≠b.key)
 | .loop st env ok,o=> ∃lp,o= .loop lp/\se st lp/\(∀k v,(k,v)∈env-> ∃c,lp.tmps[k]? =some c/\Ag H v c)/\ok lp.fn lp.params lp.assign lp.body lp.tmps.size
abbrev AE:=Nat->Option O
def Hh (F:Nat->Prop) (Z:AE) (w:World) (b o:Nat):Option Value:=
 open Classical in if F b\/(Z b).isSome=true then none else w.cell? ⟨b,o,none⟩
structure Rel (F:Nat->Prop) (Z:AE) (w:World):Prop where
 own: ∀n o,Z n=some o-> ¬F n/\ ∃ob,w.heap[n]? =some ob/\QF (Hh F Z w) o ob
 lock: ∀n,F n->n<w.heap.size
structure B8 (F:Nat->Prop) (Z:AE) (w:World) (Z':AE) (w':World):Prop where
 frame: ∀n,n<w.heap.size->Z n=none->w'.heap[n]? =w.heap[n]?
 size:w.heap.size<=w'.heap.size
 os:w'.os=w.os
 tape:w'.tape=w.tape
 output:w'.output=w.output
 names: ∀n,Z n=none->n<w.heap.size->Z' n=none
def B8.refl (F:Nat->Prop) (Z:AE) (w:World):B8 F Z w Z w:=
 ⟨fun _ _ _=>rfl,IW _,rfl,rfl,rfl,fun _ h _=>h⟩
def B8.trans {F:Nat->Prop} {Z Z' Z'':AE} {w w' w'':World} (h:B8 F Z w Z' w') (k:B8 F Z' w' Z'' w''):B8 F Z w Z'' w'' where
 frame n hn h0:=(k.frame n (Nat.lt_of_lt_of_le hn h.size) (h.names n h0 hn)).trans (h.frame n hn h0)
 size:=Nat.le_trans h.size k.size
 os:=k.os.trans h.os
 tape:=k.tape.trans h.tape
 output:=k.output.trans h.output
 names n h0 hn:=k.names n (h.names n h0 hn) (Nat.lt_of_lt_of_le hn h.size)
def Zy (H H':Nat->Nat->Option Value):Prop:= ∀b o c,H b o=some c->H' b o=some c
mutual
def Ag.mono {H H':Nat->Nat->Option Value} (hle:Zy H H'): ∀(v:V) (c:Value),Ag H v c->Ag H' v c
 | .b _,_,h| .i _ _,_,h| .s _,_,h| .pn,_,h| .p _ _,_,h| .sl _ _ _,_,h| .sv _ _ _ _,_,h| .pe _ _ _ _,_,h| .m _,_,h| .mn,_,h| .L9,_,h| .Dv,_,h| .any,_,h=>by
   simp only[Ag]at h ⊢
   try exact h
 | .rp cs,_,h=>by
   simp only[Ag]at h ⊢;obtain⟨b,o,rfl,h⟩:=h;exact⟨b,o,rfl,Ba.mono hle (fun i c e=>hle b i c e) cs o h⟩
 | .l es full,_,h=>by
   simp only[Ag]at h ⊢;obtain⟨a,cap,h1,h2,h3,h4,h5,h6⟩:=h;refine⟨a,cap,h1,h2,h3,h4,h5,fun hne=>?_⟩;obtain⟨b,o,sz,h7,h8⟩:=h6 hne;exact⟨b,o,sz,h7,BJ.mono hle (fun i c e=>hle b i c e) sz es o h8⟩
 | .f fn first cap,_,h=>by
   simp only[Ag]at h ⊢;obtain⟨f',c',h1,h2,h3,h4,h5⟩:=h;exact⟨f',c',h1,h2,Ba.mono hle (fun _ _ e=>e) first 0 h3,h4,Ba.mono hle (fun _ _ e=>e) cap 0 h5⟩
 | .FO t v,_,h=>by
   simp only[Ag]at h ⊢;obtain⟨c',h1,h2⟩:=h;exact⟨c',h1,Ag.mono hle v c' h2⟩
 | .a cs,_,h=>by
   simp only[Ag]at h ⊢;obtain⟨c',h1,h2,h3⟩:=h;exact⟨c',h1,h2,Ba.mono hle (fun _ _ e=>e) cs 0 h3⟩
 | .t cs,_,h=>by
   simp only[Ag]at h ⊢;obtain⟨c',h1,h2,h3⟩:=h;exact⟨c',h1,h2,Ba.mono hle (fun _ _ e=>e) cs 0 h3⟩
def Ba.mono {H H':Nat->Nat->Option Value} (hle:Zy H H') {g g':Nat->Option Value} (hg: ∀i c,g i=some c->g' i=some c) :
    ∀(vs:List V) (o:Nat),Ba H g o vs->Ba H' g' o vs
 | [],_,_=>trivial
 | v::vs,o,h=>by
   simp only[Ba]at h ⊢;obtain⟨⟨c,h1,h2⟩,h3⟩:=h;exact⟨⟨c,hg _ _ h1,Ag.mono hle v c h2⟩,Ba.mono hle hg vs (o+1) h3⟩
def BJ.mono {H H':Nat->Nat->Option Value} (hle:Zy H H') {g g':Nat->Option Value} (hg: ∀i c,g i=some c->g' i=some c) (sz:Nat) :
    ∀(es:List (List V)) (o:Nat),BJ H g sz o es->BJ H' g' sz o es
 | [],_,_=>trivial
 | e::es,o,h=>by
   simp only[BJ]at h ⊢;obtain⟨h1,h2,h3⟩:=h;exact⟨h1,Ba.mono hle hg e o h2,BJ.mono hle hg sz es (o+sz) h3⟩
end
def F3.mono {H H':Nat->Nat->Option Value} (hle:Zy H H'): ∀(r:List (V×V)) (es:List MapEntry),F3 H r es->F3 H' r es
 | [],[],_=>trivial
 | (k,v)::r,e::es,h=>by
   simp only[F3]at h ⊢;exact⟨Ag.mono hle _ _ h.1,Ag.mono hle _ _ h.2.1,F3.mono hle r es h.2.2⟩
 | [],_::_,h=>h.elim
 | _::_,[],h=>h.elim
def QF.mono {H H':Nat->Nat->Option Value} (hle:Zy H H') {o:O} {ob:Obj} (h:QF H o ob):QF H' o ob:=by
 cases o with
 | cs vs=>obtain⟨c,e,h1,h2,h3⟩:=h;exact⟨c,e,h1,h2,Ba.mono hle (fun _ _ e=>e) _ _ h3⟩
 | arr sz es cap=>obtain⟨c,e,h1,h2,h3,h4,h5⟩:=h;exact⟨c,e,h1,h2,h3,h4,BJ.mono hle (fun _ _ e=>e) _ _ _ h5⟩
 | map kvs=>obtain⟨es,clk,h1,h2,h3⟩:=h;exact⟨es,clk,h1,F3.mono hle _ _ h2,h3⟩
 | loop st env ok=>obtain⟨lp,h1,h2,h3,h4⟩:=h;exact⟨lp,h1,h2,fun k v hm=>let⟨c,h5,h6⟩:=h3 k v hm;⟨c,h5,h6.mono hle⟩,h4⟩
def GX {F:Nat->Prop} {Z:AE} {w:World} {b o:Nat} {c:Value} (h:Hh F Z w b o=some c) :
    ¬F b/\Z b=none/\w.cell? ⟨b,o,none⟩=some c:=by
 unfold Hh at h;split at h
 .cases h
 .rename_i hn
  refine⟨fun hl=>hn (.inl hl),?_,h⟩;cases hs:Z b with
  | none=>rfl
  | some o=>exact absurd (.inr (by simp[hs])) hn
def Ot {F:Nat->Prop} {Z:AE} {w:World} {b o:Nat} (h1: ¬F b) (h2:Z b=none):Hh F Z w b o=w.cell? ⟨b,o,none⟩:=by
 unfold Hh;rw[if_neg];simp[h1,h2]
def qi {w:World} {b o:Nat} {c:Value} (h:w.cell? ⟨b,o,none⟩=some c):b<w.heap.size:=by
 unfold World.cell? at h;rcases Nat.lt_or_ge b w.heap.size with h'|h'
 .exact h'
 .simp[Array.getElem?_eq_none h']at h
def B8.hle {F:Nat->Prop} {Z Z':AE} {w w':World} (h:B8 F Z w Z' w'):Zy (Hh F Z w) (Hh F Z' w'):=by
 intro b o c hc;obtain⟨h1,h2,h3⟩:=GX hc;have hb:=qi h3;rw[Ot h1 (h.names b h2 hb),World.cell?_of_block (w:=w) (h.frame b hb h2)];exact h3
def FJ {F:Nat->Prop} {Z Z':AE} {w:World} (hs: ∀n,Z n=none->Z' n=none):Zy (Hh F Z w) (Hh F Z' w):=by
 intro b o c hc;obtain⟨h1,h2,h3⟩:=GX hc;rw[Ot h1 (hs b h2)];exact h3
def Sub (Z' Z:AE):Prop:= ∀n o,Z' n=some o->Z n=some o
def Sub.none {Z' Z:AE} (h:Sub Z' Z) {n:Nat} (hn:Z n=none):Z' n=none:=by
 cases h':Z' n with
 | none=>rfl
 | some o=>rw[h n o h']at hn;cases hn
def Sub.refl (Z:AE):Sub Z Z:=fun _ _ h=>h
def Sub.trans {a b c:AE} (h:Sub a b) (k:Sub b c):Sub a c:=fun n o e=>k n o (h n o e)
def Rel.drop {F:Nat->Prop} {Z Z':AE} {w:World} (h:Rel F Z w) (hs:Sub Z' Z):Rel F Z' w where
 own n o ho:=by
  obtain⟨h1,ob,h2,h3⟩:=h.own n o (hs n o ho);exact⟨h1,ob,h2,QF.mono (FJ fun n hn=>hs.none hn) h3⟩
 lock:=h.lock
def B8.drop {F:Nat->Prop} {Z Z':AE} (w:World) (hs:Sub Z' Z):B8 F Z w Z' w:=
 ⟨fun _ _ _=>rfl,IW _,rfl,rfl,rfl,fun _ hn _=>hs.none hn⟩
end Go.Gl
namespace Go.Gl
abbrev Env:=List (Nat×V)
def get (k:Nat):Env->Option V
 | []=>none
 | (j,v)::r=>bif Nat.beq j k then some v else get k r
inductive Bn where
 | t (n:Nat)
 | c (v:V)
 deriving Inhabited
def ev (env:Env):Bn->Option V
 | .t n=>get n env
 | .c v=>some v
def Vl (env:Env):List Bn->Option (List V)
 | []=>some []
 | x::r=>match ev env x,Vl env r with
   | some v,some vs=>some (v::vs)
   | _,_=>none
def B3 (Z:AE) (n:Nat) (o:O):AE:=fun k=>if k=n then some o else Z k
def del (Z:AE) (n:Nat):AE:=fun k=>if k=n then none else Z k
mutual
inductive Fw (Z Z':AE):V->V->Prop
 | refl (v:V):Fw Z Z' v v
 | arr {n sz cap len:Nat} {es es':List (List V)}:Z n=some (.arr sz es cap)->Z' n=none->len=es.length->FR Z Z' es es'->Fw Z Z' (.sl n len cap) (.l es' false)
 | cs {n:Nat} {vs vs':List V}:Z n=some (.cs vs)->Z' n=none->DV Z Z' vs vs'->Fw Z Z' (.p n 0) (.rp vs')
 | a {vs vs':List V}:DV Z Z' vs vs'->Fw Z Z' (.a vs) (.a vs')
 | t {vs vs':List V}:DV Z Z' vs vs'->Fw Z Z' (.t vs) (.t vs')
 | FO {t:TypeId} {v v':V}:Fw Z Z' v v'->Fw Z Z' (.FO t v) (.FO t v')
 | l {es es':List (List V)} {f f':Bool}:(f'=true->f=true)->FR Z Z' es es'->Fw Z Z' (.l es f) (.l es' f')
 | rp {vs vs':List V}:DV Z Z' vs vs'->Fw Z Z' (.rp vs) (.rp vs')
 | f {fn:Fn} {a a' b b':List V}:DV Z Z' a a'->DV Z Z' b b'->Fw Z Z' (.f fn a b) (.f fn a' b')
 | any {v:V}:Fw Z Z' v .any
inductive DV (Z Z':AE):List V->List V->Prop
 | nil:DV Z Z' [] []
 | cons {v v':V} {vs vs':List V}:Fw Z Z' v v'->DV Z Z' vs vs'->DV Z Z' (v::vs) (v'::vs')
inductive FR (Z Z':AE):List (List V)->List (List V)->Prop
 | nil:FR Z Z' [] []
 | cons {v v':List V} {vs vs':List (List V)}:DV Z Z' v v'->FR Z Z' vs vs'->FR Z Z' (v::vs) (v'::vs')
end
inductive KS where
 | i (k:IntKind)
 | a (l:List IntKind)
 | s
 deriving Inhabited
inductive GJ where
 | mv (x:Bn)
 | m8 (x:Bn)
 | pick (c a b:Bn)
 | bin (op:BinOp) (x y:Bn)
 | nD (neg:Bool) (x y:Bn)
 | nC (len:Nat) (neg:Bool) (x y:Bn)
 | fm (kind:Nat) (neg:Bool) (x:Bn)
 | not (x:Bn)
 | neg (xor:Bool) (x:Bn)
 | conv(k:IntKind) (x:Bn)
 | box (x:Bn)
 | PM (x:Bn)
 | Sh (sz bytes:Nat) (x y:Bn)
 | alloc (zero:List V)
 | build (zero:List V) (parts:List (Nat×Nat×Bn))
 | Hi (sz len:Nat) (zero:List V) (parts:List (Nat×Bn))
 | load (agg:Option Nat) (x:Bn)
 | store (sz:Nat) (a x:Bn)
 | GO (off:Nat) (x:Bn)
 | field (agg:Option Nat) (off:Nat) (x:Bn)
 | MF (sz:Nat) (arr:Option Nat) (x i:Bn)
 | index (len sz:Nat) (agg:Option Nat) (x i:Bn)
 | slice (sz:Nat) (x:Bn) (lo hi mx:Option Bn)
 | len (x:Bn)
 | UN (x:Bn)
 | str (x:Bn)
 | Vp (x i:Bn)
 | append (sz bytes:Nat) (x y:Bn)
 | copy (sz:Nat) (x y:Bn)
 | Vs (x y:Bn)
 | Vr (x y:Bn)
 | extract (i:Nat) (x:Bn)
 | JK (x:Bn)
 | fk (f:Fn) (first cap:List Bn)
 | Oi
 | GW (sz bytes:Nat) (zero:List V) (len cap:Bn)
 | lookup (ks:KS) (zero:V) (ok:Bool) (m k:Bn)
 | Ef (ks:KS) (m k v:Bn)
 | Oj (t:TypeId) (x:Bn)
 | fh (t:TypeId) (zero:V) (ok:Bool) (x:Bn)
 | panic (x:Bn)
 | call (f:FuncId) (args:List Bn)
 | MK (f:FuncId) (args:List Bn)
 | Jy (x:Bn) (args:List Bn)
 | Yt (x:Bn) (args:List Bn)
 | inv (tab:List (TypeId×FuncId)) (x:Bn) (args:List Bn)
 deriving Inhabited
abbrev wv (o:Option V) (k:V->Prop):Prop:=match o with|some v=>k v|none=>False
@[simp] theorem FD (v:V) (k:V->Prop):wv (some v) k=k v:=rfl
@[simp] theorem ABT (k:V->Prop):wv none k=False:=rfl
def bits (op:BinOp) (k:IntKind) (x y:Int):Int:=
 let a:=BitVec.ofInt k.bits x
 let b:=BitVec.ofInt k.bits y
 k.wrap (match op with
  | .and=>a&&&b
  | .or=>a|||b
  | .xor=>a ^^^ b
  | _=>a&&& ~~~b:BitVec k.bits).toNat
def Vv (op:BinOp) (x y:V) (k:V->Prop):Prop:=
 match x,y with
 | .i ka a,.i kb b=>
   match op with
   | .add=>ka=kb/\k (.i ka (ka.wrap (a+b)))
   | .sub=>ka=kb/\k (.i ka (ka.wrap (a - b)))
   | .mul=>ka=kb/\k (.i ka (ka.wrap (a*b)))
   | .quo=>ka=kb/\b≠0/\k (.i ka (ka.wrap (a.tdiv b)))
   | .rem=>ka=kb/\b≠0/\k (.i ka (a.tmod b))
   | .eql=>ka=kb/\k (.b (a==b))
   | .neq=>ka=kb/\k (.b (a != b))
   | .lss=>ka=kb/\k (.b (decide (a<b)))
   | .leq=>ka=kb/\k (.b (decide (a<=b)))
   | .gtr=>ka=kb/\k (.b (decide (a > b)))
   | .geq=>ka=kb/\k (.b (decide (a≥b)))
   | .shl=>0<=b/\k (.i ka (ka.wrap (a*2 ^ (min b.toNat ka.bits))))
   | .shr=>0<=b/\k (.i ka (a.fdiv (2 ^ (min b.toNat ka.bits))))
   | op=>ka=kb/\k (.i ka (bits op ka a b))
 | _,_=>False
def cellsOf:V->Option (List V)
 | .a cs=>some cs
 | .t _=>none
 | .any=>none
 | v=>some [v]
def CO:V->Bool
 | .a _=>false
 | .t _=>false
 | .any=>false
 | _=>true
def putAt:List V->Nat->List V->List V
 | cs,_,[]=>cs
 | cs,o,v::vs=>putAt (cs.set o v) (o+1) vs
def K9 (env:Env):List V->List (Nat×Nat×Bn)->Option (List V)
 | cs,[]=>some cs
 | cs,(off,sz,x)::r=>
   match ev env x with
   | some v=>match cellsOf v with
     | some vc=>bif Nat.beq vc.length sz&&Nat.ble (off+sz) cs.length then K9 env (putAt cs off vc) r else none
     | none=>none
   | none=>none
def Jv (env:Env) (sz:Nat):List (List V)->List (Nat×Bn)->Option (List (List V))
 | es,[]=>some es
 | es,(i,x)::r=>
   match ev env x with
   | some v=>match cellsOf v with
     | some vc=>bif Nat.beq vc.length sz&&Nat.blt i es.length then Jv env sz (es.set i vc) r else none
     | none=>none
   | none=>none
def cut (agg:Option Nat) (cs:List V) (off:Nat) (k:V->Prop):Prop:=
 match agg with
 | none=>match cs[off]? with|some v=>k v|none=>False
 | some n=>off+n<=cs.length/\k (.a ((cs.drop off).take n))
def QI (Z:AE) (n off:Nat) (agg:Option Nat) (k:V->Prop):Prop:=
 match Z n with
 | some (.cs vs)=>cut agg vs off k
 | _=>False
def QJ (Z:AE) (n sz i off:Nat) (agg:Option Nat) (k:V->Prop):Prop:=
 match Z n with
 | some (.arr sz' es _)=>sz=sz'/\match es[i]? with|some e=>cut agg e off k|none=>False
 | _=>False
def AU (Z:AE) (agg:Option Nat) (x:V) (k:V->Prop):Prop:=
 match x with
 | .rp cs=>cut agg cs 0 k
 | .p n off=>QI Z n off agg k
 | .pe n sz i off=>QJ Z n sz i off agg k
 | _=>False
def AS (Z:AE) (sz:Nat) (a x:V) (k:AE->Prop):Prop:=
 match cellsOf x with
 | some vc=>
   vc.length=sz/\vc.all CO=true/\match a with
   | .p n off=>match Z n with
     | some (.cs vs)=>off+sz<=vs.length/\k (B3 Z n (.cs (putAt vs off vc)))
     | _=>False
   | .pe n s i off=>match Z n with
     | some (.arr s' es cap)=>s=s'/\match es[i]? with
       | some e=>off+sz<=s/\k (B3 Z n (.arr s (es.set i (putAt e off vc)) cap))
       | none=>False
     | _=>False
   | _=>False
 | none=>False
def LZ (off:Nat) (x:V) (k:V->Prop):Prop:=
 match x with
 | .rp cs=>k (.rp (cs.drop off))
 | .p n o=>k (.p n (o+off))
 | .pe n sz i o=>k (.pe n sz i (o+off))
 | _=>False
def AR (sz:Nat) (arr:Option Nat) (x i:V) (k:V->Prop):Prop:=
 match i with
 | .i _ j=>match arr,x with
   | none,.l es _=>0<=j/\ ∃e,es[j.toNat]? =some e/\e.length=sz/\k (.rp e)
   | none,.sl n len _=>0<=j/\j<len/\k (.pe n sz j.toNat 0)
   | none,.sv n s off len=>s=sz/\0<=j/\j<len/\k (.pe n sz (off+j.toNat) 0)
   | some m,.rp cs=>0<=j/\j<m/\k (.rp (cs.drop (j.toNat*sz)))
   | some m,.p n o=>0<=j/\j<m/\k (.p n (o+j.toNat*sz))
   | some m,.pe n s q o=>0<=j/\j<m/\k (.pe n s q (o+j.toNat*sz))
   | _,_=>False
 | _=>False
def LY (len sz:Nat) (agg:Option Nat) (x i:V) (k:V->Prop):Prop:=
 match x,i with
 | .a cs,.i _ j=>0<=j/\j<len/\cut agg cs (j.toNat*sz) k
 | _,_=>False
def QM (x i:V) (k:V->Prop):Prop:=
 match x,i with
 | .s b,.i _ j=>0<=j/\match b.data.toList[j.toNat]? with|some c=>k (.i .u8 c.toNat)|none=>False
 | _,_=>False
def Ax (x:V) (k:V->Prop):Prop:=
 match x with
 | .l es _=>k (.i .i64 es.length)
 | .sl _ len _=>len<=AZ/\k (.i .i64 len)
 | .sv _ _ _ len=>len<=AZ/\k (.i .i64 len)
 | _=>False
def K7 (Z:AE) (x:V) (k:V->Prop):Prop:=
 match x with
 | .m n=>match Z n with
   | some (.map kvs)=>kvs.length<=AZ/\k (.i .i64 kvs.length)
   | _=>False
 | .mn=>k (.i .i64 0)
 | _=>False
def rowsOf (Z:AE) (sz:Nat) (y:V) (k:List (List V)->Prop):Prop:=
 match y with
 | .l ys _=>(∀e∈ys,e.length=sz)/\k ys
 | .sl m len _=>match Z m with
   | some (.arr s ys _)=>s=sz/\len<=ys.length/\k (ys.take len)
   | _=>False
 | .sv m s off len=>match Z m with
   | some (.arr s' ys _)=>s=sz/\s'=sz/\off+len<=ys.length/\k ((ys.drop off).take len)
   | _=>False
 | _=>False
def Fb:List (List V)->Option (List Int)
 | []=>some []
 | [.i .u8 n]::r=>match Fb r with|some l=>some (n::l)|none=>none
 | _=>none
def gP (Z:AE) (x:V) (k:V->Prop):Prop:=rowsOf Z 1 x fun ys=>match Fb ys with|some ns=>k (.s ⟨(ns.map fun n=>UInt8.ofNat n.toNat).toArray⟩)|none=>False
def AK (b : Nat) (Z:AE) (sz:Nat) (x y:V) (k:V->AE->Prop):Prop:=
 rowsOf Z sz y fun ys=>
 (∀e∈ys,∀v∈e,CO v=true)/\match x with
 | .l es full=>(∀e∈es,e.length=sz)/\(es.length+ys.length<=AZ/\(es.length+ys.length)*b<=140737488355328)/\(ys= []->k (.l es full) Z)/\
  (ys≠[]->full=true/\ ∀n cap,Z n=none->es.length+ys.length<=cap->k (.sl n (es.length+ys.length) cap) (B3 Z n (.arr sz (es++ys) cap)))
 | .sl n len cap=>match Z n with
   | some (.arr s es c)=>s=sz/\c=cap/\len=es.length/\(es.length+ys.length<=AZ/\(es.length+ys.length)*b<=140737488355328)/\
    ∀ n' cap',del Z n n'=none->es.length+ys.length<=cap'->
      k (.sl n' (es.length+ys.length) cap') (B3 (del Z n) n' (.arr sz (es++ys) cap'))
   | _=>False
 | _=>False
def QA (Z:AE) (sz:Nat) (ys:List (List V)) (n off len:Nat) (k:V->AE->Prop):Prop:=
 match Z n with
 | some (.arr s es c)=>s=sz/\off+len<=es.length/\k (.i .i64 (min ys.length len:Nat)) (B3 Z n (.arr s (es.take off++(ys.take (min ys.length len)++es.drop (off+min ys.length len))) c))
 | _=>False
def AX (Z:AE) (sz:Nat) (x y:V) (k:V->AE->Prop):Prop:=
 rowsOf Z sz y fun ys=>(∀e∈ys,∀v∈e,CO v=true)/\match x with
 | .sl n len _=>QA Z sz ys n 0 len k
 | .sv n s off len=>s=sz/\QA Z sz ys n off len k
 | _=>False
def AY (b:Nat) (Z:AE) (sz:Nat) (x y:V) (k:V->Prop):Prop:=
 rowsOf Z sz y fun ys=>
 (∀e∈ys,∀v∈e,CO v=true)/\match x with
 | .l es full=>(∀e∈es,e.length=sz)/\(es.length+ys.length<=AZ/\(es.length+ys.length)*b<=140737488355328)/\(ys≠[]->full=true)/\k (.l (es++ys) false)
 | _=>False
def Of (o:Option V) (d:Int) (k:Int->Prop):Prop:=
 match o with
 | none=>k d
 | some (.i _ n)=>k n
 | _=>False
def AQ (Z:AE) (sz:Nat) (x:V) (lo hi mx:Option V) (k:V->AE->Prop):Prop:=
 match x with
 | .l es full=>(∀e∈es,e.length=sz)/\Of hi es.length fun h=>Of lo 0 fun l=>0<=l/\l<=h/\h<=es.length/\
  match mx with
  | none=>k (.l ((es.take h.toNat).drop l.toNat) (full&&decide (h=es.length))) Z
  | some (.i _ m)=>m=h/\k (.l ((es.take h.toNat).drop l.toNat) true) Z
  | _=>False
 | .sl n len cap=>Of hi len fun h=>Of lo 0 fun l=>0<=l/\l<=h/\h<=len/\
  match mx with
  | none=>k (.sv n sz l.toNat (h - l).toNat) Z
  | some (.i _ m)=>m=h/\h=len/\l=0/\match Z n with
    | some (.arr s es c)=>s=sz/\c=cap/\len=es.length/\(k (.l es true) (del Z n)\/k (.sl n len len) (B3 Z n (.arr s es len)))
    | _=>False
  | _=>False
 | .sv n s off len=>Of hi len fun h=>Of lo 0 fun l=>0<=l/\l<=h/\h<=len/\s=sz/\mx=none/\k (.sv n sz (off+l.toNat) (h - l).toNat) Z
 | _=>False
def Hz (env:Env):Option Bn->Option (Option V)
 | none=>some none
 | some x=>match ev env x with|some v=>some (some v)|none=>none
abbrev wo (o:Option (Option V)) (k:Option V->Prop):Prop:=match o with|some v=>k v|none=>False
@[simp] theorem aI (v:Option V) (k:Option V->Prop):wo (some v) k=k v:=rfl
abbrev ws (o:Option (List V)) (k:List V->Prop):Prop:=match o with|some v=>k v|none=>False
@[simp] theorem ABU (v:List V) (k:List V->Prop):ws (some v) k=k v:=rfl
abbrev wr (o:Option (List (List V))) (k:List (List V)->Prop):Prop:=match o with|some v=>k v|none=>False
@[simp] theorem ABV (v:List (List V)) (k:List (List V)->Prop):wr (some v) k=k v:=rfl
def Bv:List V->List V->Option Bool
 | [],[]=>some true
 | .i k a::r,.i k' b::s=>if k=k' then(Bv r s).map ((a==b)&& ·)else none
 | _,_=>none
def UO (len:Nat) (neg:Bool) (x y:V) (k:V->Prop):Prop:=
 match x,y with
 | .a cs,.a ds=>match Nat.beq cs.length len,Bv cs ds with|true,some t=>k (.b (bif neg then !t else t))|_,_=>False
 | _,_=>False
def Ji (kind:Nat) (neg:Bool) (x:V) (k:V->Prop):Prop:=
 match kind,x with
 | 0,.pn=>k (.b (!neg))
 | 0,.rp _|0,.p _ _|0,.pe _ _ _ _=>k (.b neg)
 | 1,.sl _ _ _=>k (.b neg)
 | 1,.l es _=>(es= []-> ∀t,k (.b t))/\(es≠[]->k (.b neg))
 | 2,.Dv=>k (.b (!neg))
 | 2,.FO _ _=>k (.b neg)
 | 3,.mn=>k (.b (!neg))
 | 3,.m _=>k (.b neg)
 | 4,.L9=>k (.b (!neg))
 | 4,.f _ _ _=>k (.b neg)
 | _,_=>False
def AJ (Z:AE) (sz:Nat) (z:List V) (x y:V) (k:V->AE->Prop):Prop:=
 match x,y with
 | .i _ n,.i _ m=>0<=n/\n<=m/\m<=1073741824/\ ∀id,Z id=none->k (.sl id n.toNat m.toNat) (B3 Z id (.arr sz (List.replicate n.toNat z) m.toNat))
 | _,_=>False
def Dl:List IntKind->List V->Bool
 | [],[]=>true
 | q::l,.i q' _::cs=>decide (q=q')&&Dl l cs
 | _,_=>false
def BW (ks:KS) (v:V):Bool:=
 match ks,v with
 | .i k,.i k' _=>decide (k=k')
 | .a l,.a cs=>Dl l cs
 | .s,.s b=>Nat.ble b.size 1048576
 | _,_=>false
def D0 (x y:V):Bool:=
 match x,y with
 | .i _ a,.i _ b=>a==b
 | .s b,.s c=>decide (b=c)
 | .a cs,.a ds=>(Bv cs ds).getD false
 | _,_=>false
def Cn (key:V):List (V×V)->Option V
 | []=>none
 | (k,v)::r=>bif D0 key k then some v else Cn key r
def DX (key val:V):List (V×V)->List (V×V)
 | []=>[(key,val)]
 | (k,v)::r=>bif D0 key k then(key,val)::r else(k,v)::DX key val r
def found (z:V) (ok:Bool) (o:Option V):V:=match o with|some v=>bif ok then .t [v,.b true]else v|none=>bif ok then .t [z,.b false]else z
def AN (Z:AE) (ks:KS) (z:V) (ok:Bool) (vm vk:V) (k:V->Prop):Prop:=
 BW ks vk=true/\match vm with
 | .m n=>match Z n with
   | some (.map kvs)=>(∀kv∈kvs,BW ks kv.1=true)/\k (found z ok (Cn vk kvs))
   | _=>False
 | .mn=>k (found z ok none)
 | _=>False
def AP (Z:AE) (ks:KS) (vm vk vv:V) (k:AE->Prop):Prop:=
 BW ks vk=true/\match vm with
 | .m n=>match Z n with
   | some (.map kvs)=>(∀kv∈kvs,BW ks kv.1=true)/\k (B3 Z n (.map (DX vk vv kvs)))
   | _=>False
 | _=>False
inductive R where
 | ret (v:V)
 | Bj (v:V)
def V9 (H:Nat->Nat->Option Value):R->Ending->Prop
 | .ret v,e=> ∃c,e= .returned c/\Ag H v c
 | .Bj v,e=> ∃c,e= .panicked [{v:=c,recovered:=false}]/\Ag H v c
def okF (P:Program) (f:FuncId):Bool:=
 match P.funcs[f]? with
 | some fn=>fn.body.isSome&&fn.name != "runtime.NumGoroutine"
 | none=>false
def fy (H:Nat->Nat->Option Value) (vs:List V) (cs:Array Value):Prop:=cs.size=vs.length/\Ba H (fun i=>cs[i]?) 0 vs
def Au (P:Program) (f:FuncId) (args:List V) (Z:AE) (Q:R->AE->Prop):Prop:=
 okF P f=true/\ ∀(F:Nat->Prop) (w:World) (cs:Array Value),Rel F Z w->fy (Hh F Z w) args cs->
  Calls P f cs w fun e w'=> ∃r Z',Q r Z'/\V9 (Hh F Z' w') r e/\Rel F Z' w'/\B8 F Z w Z' w'
def Nj (P:Program) (l:Nat) (args:List V) (Z:AE) (Q:R->AE->Prop):Prop:=
 ∀ (F:Nat->Prop) (w:World) (cs:Array Value),Rel F Z w->fy (Hh F Z w) args cs->
   ∃ f tmps assign body,(Instr.yield l cs).run P w= .ok (.round l f tmps assign body) w/\
     RoundIn Fence.wide 0 P l f tmps assign body w fun e w'=> ∃r Z',Q r Z'/\V9 (Hh F Z' w') r e/\Rel F Z' w'/\B8 F Z w Z' w'
def Ao (P:Program) (x:V) (args:List V) (Z:AE) (Q:R->AE->Prop):Prop:=
 match x with
 | .f (.func f) first cap=>Au P f (first++args++cap) Z Q
 | .f (.yield l) [] []=>Nj P l args Z Q
 | _=>False
def look (t:TypeId):List (TypeId×FuncId)->Option FuncId
 | []=>none
 | (u,f)::r=>bif Nat.beq u t then some f else look t r
def Az (P:Program) (tab:List (TypeId×FuncId)) (x:V) (args:List V) (Z:AE) (Q:R->AE->Prop):Prop:=
 match x with
 | .FO t v=>match look t tab with
   | some f=>Au P f (v::args) Z Q
   | none=>False
 | _=>False
def qk (k kp:V->AE->Prop):R->AE->Prop
 | .ret v,Z=>k v Z
 | .Bj v,Z=>kp v Z
def Fp (P:Program) (o:GJ) (env:Env) (Z:AE) (k kp:V->AE->Prop):Prop:=
 match o with
 | .mv x=>wv (ev env x) fun v=>k v Z
 | .m8 x=>wv (ev env x) fun v=> ∃vf Z2,Sub Z2 Z/\Fw Z Z2 v vf/\k vf Z2
 | .pick c a b=>wv (ev env c) fun vc=>wv (ev env a) fun va=>wv (ev env b) fun vb=>
  match vc with| .b t=>(match va,vb with| .b x,.b y=>k (.b (bif t then x else y)) Z|_,_=>k (bif t then va else vb) Z)|_=>False
 | .bin op x y=>wv (ev env x) fun vx=>wv (ev env y) fun vy=>Vv op vx vy fun v=>k v Z
 | .nD neg x y=>wv (ev env x) fun vx=>wv (ev env y) fun vy=>
  match vx,vy with| .b p,.b q=>k (.b (bif neg then p != q else p==q)) Z|_,_=>False
 | .not x=>wv (ev env x) fun vx=>match vx with| .b p=>k (.b (!p)) Z|_=>False
 | .neg xor x=>wv (ev env x) fun vx=>match vx with
  | .i ka a=>k (.i ka (bif xor then bits .xor ka (bif ka.signed then -1 else ka.max) a else ka.wrap (0 - a))) Z
  | _=>False
 | .conv ka x=>wv (ev env x) fun vx=>match vx with| .i _ a=>k (.i ka (ka.wrap a)) Z|_=>False
 | .box x=>wv (ev env x) fun vx=>match cellsOf vx with
  | some cs=> ∀n,Z n=none->k (.p n 0) (B3 Z n (.cs cs))
  | none=>False
 | .PM x=>wv (ev env x) fun vx=>match cellsOf vx with
  | some cs=>k (.rp cs) Z
  | none=>False
 | .Sh sz b x y=>wv (ev env x) fun vx=>wv (ev env y) fun vy=>AY b Z sz vx vy fun v=>k v Z
 | .alloc z=> ∀n,Z n=none->k (.p n 0) (B3 Z n (.cs z))
 | .build z parts=>ws (K9 env z parts) fun cs=>k (.a cs) Z
 | .Hi _ len z parts=>wr (Jv env z.length (List.replicate len z) parts) fun es=>k (.l es true) Z
 | .load agg x=>wv (ev env x) fun vx=>AU Z agg vx fun v=>k v Z
 | .store sz a x=>wv (ev env a) fun va=>wv (ev env x) fun vx=>AS Z sz va vx fun Z'=>k (.t []) Z'
 | .GO off x=>wv (ev env x) fun vx=>LZ off vx fun v=>k v Z
 | .field agg off x=>wv (ev env x) fun vx=>match vx with| .a cs=>cut agg cs off fun v=>k v Z|_=>False
 | .MF sz arr x i=>wv (ev env x) fun vx=>wv (ev env i) fun vi=>AR sz arr vx vi fun v=>k v Z
 | .index len sz agg x i=>wv (ev env x) fun vx=>wv (ev env i) fun vi=>LY len sz agg vx vi fun v=>k v Z
 | .slice sz x lo hi mx=>wv (ev env x) fun vx=>wo (Hz env lo) fun l=>wo (Hz env hi) fun h=>wo (Hz env mx) fun m=>AQ Z sz vx l h m k
 | .len x=>wv (ev env x) fun vx=>Ax vx fun v=>k v Z
 | .UN x=>wv (ev env x) fun vx=>K7 Z vx fun v=>k v Z
 | .Vp x i=>wv (ev env x) fun vx=>wv (ev env i) fun vi=>QM vx vi fun v=>k v Z
 | .str x=>wv (ev env x) fun vx=>gP Z vx fun v=>k v Z
 | .append sz b x y=>wv (ev env x) fun vx=>wv (ev env y) fun vy=>AK b Z sz vx vy k
 | .copy sz x y=>wv (ev env x) fun vx=>wv (ev env y) fun vy=>AX Z sz vx vy k
 | .Vs x y=>wv (ev env x) fun vx=>wv (ev env y) fun vy=>match vx,vy with
  | .i ka a,.i kb b=>ka=kb/\k (.i ka (if b > a then b else a)) Z
  | _,_=>False
 | .Vr x y=>wv (ev env x) fun vx=>wv (ev env y) fun vy=>match vx,vy with
  | .i ka a,.i kb b=>ka=kb/\k (.i ka (if b<a then b else a)) Z
  | _,_=>False
 | .extract i x=>wv (ev env x) fun vx=>match vx with| .t vs=>(match vs[i]? with|some v=>k v Z|none=>False)|_=>False
 | .JK x=>wv (ev env x) fun vx=>match vx with
  | .p n off=>k (.p n off) Z
  | .rp cs=>k (.rp cs) Z
  | .pe n sz i off=>k (.pe n sz i off) Z
  | .f (.func f) first cap=>k (.f (.func f) first cap) Z
  | .f (.yield l) first cap=>k (.f (.yield l) first cap) Z
  | _=>False
 | .fk f first cap=>ws (Vl env first) fun vf=>ws (Vl env cap) fun vc=>k (.f f vf vc) Z
 | .Oj t x=>wv (ev env x) fun vx=>k (.FO t vx) Z
 | .fh t z ok x=>wv (ev env x) fun vx=>match vx with
  | .FO t' v=>(t'=t->k (bif ok then .t [v,.b true]else v) Z)/\(t'≠t->ok=true/\k (.t [z,.b false]) Z)
  | .Dv=>ok=true/\k (.t [z,.b false]) Z
  | _=>False
 | .panic x=>wv (ev env x) fun vx=>match vx with| .FO t v=>kp (.FO t v) Z|_=>False
 | .call f args=>ws (Vl env args) fun vs=>Au P f vs Z (qk k kp)
 | .nC len neg x y=>wv (ev env x) fun vx=>wv (ev env y) fun vy=>UO len neg vx vy fun v=>k v Z
 | .fm kind neg x=>wv (ev env x) fun vx=>Ji kind neg vx fun v=>k v Z
 | .GW sz _ z x y=>wv (ev env x) fun vx=>wv (ev env y) fun vy=>AJ Z sz z vx vy k
 | .Oi=> ∀n,Z n=none->k (.m n) (B3 Z n (.map []))
 | .lookup ks z ok m key=>wv (ev env m) fun vm=>wv (ev env key) fun vk=>AN Z ks z ok vm vk fun v=>k v Z
 | .Ef ks m key x=>wv (ev env m) fun vm=>wv (ev env key) fun vk=>wv (ev env x) fun vx=>AP Z ks vm vk vx fun Z'=>k (.t []) Z'
 | .MK f args=>ws (Vl env args) fun vs=> ∃v,Au P f vs (fun _=>none) (fun r Z'=>r= .ret v/\Z'=fun _=>none)/\k v Z
 | .Jy x args=>wv (ev env x) fun vx=>ws (Vl env args) fun vs=>Ao P vx vs Z (qk k kp)
 | .inv tab x args=>wv (ev env x) fun vx=>ws (Vl env args) fun vs=>Az P tab vx vs Z (qk k kp)
 | _=>False
end Go.Gl
namespace Go.Gl
def Bi {H:Nat->Nat->Option Value} {g:Nat->Option Value}: ∀ {vs:List V} {o:Nat},
    Ba H g o vs↔ ∀i v,vs[i]? =some v-> ∃c,g (o+i)=some c/\Ag H v c
 | [],o=>by simp[Ba]
 | v ::vs,o=>by
   simp only[Ba];rw[Bi (vs:=vs) (o:=o+1)];constructor
   .rintro⟨h1,h2⟩ i u hu
    cases i with
    | zero=>simp at hu;subst hu;simpa using h1
    | succ i=>
      obtain⟨c,hc,hr⟩:=h2 i u (by simpa using hu);exact⟨c,by rw[<-hc];congr 1;omega,hr⟩
   .intro h
    refine⟨by simpa using h 0 v rfl,fun i u hu=>?_⟩;obtain⟨c,hc,hr⟩:=h (i+1) u (by simpa using hu);exact⟨c,by rw[<-hc];congr 1;omega,hr⟩
def BH {H:Nat->Nat->Option Value} {g:Nat->Option Value} {sz:Nat}: ∀ {es:List (List V)} {o:Nat},
    BJ H g sz o es↔ ∀i e,es[i]? =some e->e.length=sz/\Ba H g (o+i*sz) e
 | [],o=>by simp[BJ]
 | v ::vs,o=>by
   simp only[BJ];rw[BH (es:=vs) (o:=o+sz)];constructor
   .rintro⟨h1,h2,h3⟩ i u hu
    cases i with
    | zero=>simp at hu;subst hu;exact⟨h1,by simpa using h2⟩
    | succ i=>
      obtain⟨h4,h5⟩:=h3 i u (by simpa using hu);refine⟨h4,?_⟩;rw[show o+(i+1)*sz=o+sz+i*sz by rw[Nat.add_mul];omega];exact h5
   .intro h
    have h0:=h 0 v rfl;refine⟨h0.1,by simpa using h0.2,fun i u hu=>?_⟩;obtain⟨h4,h5⟩:=h (i+1) u (by simpa using hu);refine⟨h4,?_⟩;rw[show o+sz+i*sz=o+(i+1)*sz by rw[Nat.add_mul];omega];exact h5
def BF {H:Nat->Nat->Option Value} {g g':Nat->Option Value} {o o':Nat} {vs:List V} (h:Ba H g o vs) (hg: ∀i,i<vs.length->g' (o'+i)=g (o+i)):Ba H g' o' vs:=by
 rw[Bi]at *;intro i v hv;obtain⟨c,hc,hr⟩:=h i v hv;exact⟨c,by rw[hg i (by rw[JC]at hv;exact hv.1)];exact hc,hr⟩
def Kc {H:Nat->Nat->Option Value} {g:Nat->Option Value} {o:Nat} {vs:List V} (h:Ba H g o vs) (n:Nat):Ba H g (o+n) (vs.drop n):=by
 rw[Bi]at *;intro i v hv;rw[y4]at hv;obtain⟨c,hc,hr⟩:=h (n+i) v hv;exact⟨c,by rw[<-hc];congr 1;omega,hr⟩
def S7 {H:Nat->Nat->Option Value} {g:Nat->Option Value} {o:Nat} {vs:List V} (h:Ba H g o vs) (n:Nat):Ba H g o (vs.take n):=by
 rw[Bi]at *;intro i v hv;rw[List.getElem?_take]at hv;split at hv
 .exact h i v hv
 .cases hv
def Ou {H:Nat->Nat->Option Value} {g:Nat->Option Value} {o:Nat} {vs us:List V} (h:Ba H g o vs) (k:Ba H g (o+vs.length) us):Ba H g o (vs++us):=by
 rw[Bi]at *;intro i v hv;rw[List.getElem?_append]at hv;split at hv
 .exact h i v hv
 .obtain⟨c,hc,hr⟩:=k _ v hv
  exact⟨c,by rw[<-hc];congr 1;omega,hr⟩
def Rel.lt {F:Nat->Prop} {Z:AE} {w:World} (h:Rel F Z w) {n:Nat} {o:O} (ho:Z n=some o):n<w.heap.size:=by
 obtain⟨_,ob,h2,_⟩:=h.own n o ho;rcases Nat.lt_or_ge n w.heap.size with h'|h'
 .exact h'
 .simp[Array.getElem?_eq_none h']at h2
def Rel.new {F:Nat->Prop} {Z:AE} {w:World} (h:Rel F Z w):Z w.heap.size=none:=by
 cases h':Z w.heap.size with
 | none=>rfl
 | some o=>exact absurd (h.lt h') (Nat.lt_irrefl _)
def Rel.step {F:Nat->Prop} {Z Z':AE} {w w':World} (h:Rel F Z w) (ha:B8 F Z w Z' w')
    (hn: ∀n o,Z' n=some o->(Z n=some o/\w'.heap[n]? =w.heap[n]?)\/(¬F n/\ ∃ob,w'.heap[n]? =some ob/\QF (Hh F Z' w') o ob)):Rel F Z' w' where
 own n o ho:=by
  rcases hn n o ho with⟨h1,h2⟩|h1
  .obtain⟨h3,ob,h4,h5⟩:=h.own n o h1
   exact⟨h3,ob,h2.trans h4,h5.mono ha.hle⟩
  .exact h1
 lock n hl:=Nat.lt_of_lt_of_le (h.lock n hl) ha.size
def DJ (Z:AE) (n:Nat) (o:O):B3 Z n o n=some o:=by simp[B3]
def Cm (Z:AE) {n m:Nat} (o:O) (h:m≠n):B3 Z n o m=Z m:=by simp[B3,h]
def Dc (Z:AE) (n:Nat):del Z n n=none:=by simp[del]
def He (Z:AE) {n m:Nat} (h:m≠n):del Z n m=Z m:=by simp[del,h]
def GV (Z:AE) (n:Nat):Sub (del Z n) Z:=by
 intro m o h;unfold del at h;split at h
 .cases h
 .exact h
def EI {F:Nat->Prop} {Z:AE} {w:World} (o:O) (ob:Obj):B8 F Z w (B3 Z w.heap.size o) (w.alloc ob) where
 frame n hn _:=RowKit.Below.heap_alloc _ _ _ hn
 size:=by simp
 os:=rfl
 tape:=rfl
 output:=rfl
 names n h0 hn:=by rw[Cm _ _ (by omega)];exact h0
def IK {F:Nat->Prop} {Z:AE} {w:World} (h:Rel F Z w) {o:O} {ob:Obj} (ho:QF (Hh F Z w) o ob):Rel F (B3 Z w.heap.size o) (w.alloc ob):=
 h.step (EI o ob) fun n o' hn=>by
  by_cases e:n=w.heap.size
  .subst e
   rw[DJ]at hn;cases hn;exact .inr ⟨fun hl=>absurd (h.lock _ hl) (Nat.lt_irrefl _),ob,heap_alloc_new _ _,ho.mono (EI o ob).hle⟩
  .rw[Cm _ _ e]at hn
   exact .inl ⟨hn,RowKit.Below.heap_alloc _ _ _ (h.lt hn)⟩
def I7 {F:Nat->Prop} {Z:AE} (w:World) (ob:Obj):B8 F Z w Z (w.alloc ob) where
 frame n hn _:=RowKit.Below.heap_alloc _ _ _ hn
 size:=by simp
 os:=rfl
 tape:=rfl
 output:=rfl
 names n h0 _:=h0
def Lk {F:Nat->Prop} {Z:AE} {w:World} (h:Rel F Z w) (ob:Obj):Rel F Z (w.alloc ob):=
 h.step (I7 w ob) fun _ _ hn=> .inl ⟨hn,RowKit.Below.heap_alloc _ _ _ (h.lt hn)⟩
def Cf (w:World) (n:Nat) (ob:Obj):World:={w with heap:=w.heap.setIfInBounds n ob}
def Oy {w:World} {n:Nat} {ob:Obj} (h:n<w.heap.size):(Cf w n ob).heap[n]? =some ob:=by
 simp[Cf,h]
def TH {w:World} {n m:Nat} {ob:Obj} (h:m≠n):(Cf w n ob).heap[m]? =w.heap[m]? :=by
 simp only[Cf];rw[Array.getElem?_setIfInBounds_ne (Ne.symm h)]
@[simp] theorem sM (w:World) (n:Nat) (ob:Obj):(Cf w n ob).heap.size=w.heap.size:=by simp[Cf]
def HM {F:Nat->Prop} {Z:AE} {w:World} {n:Nat} {o:O} (hn:Z n=some o) (o':O) (ob:Obj):B8 F Z w (B3 Z n o') (Cf w n ob) where
 frame m _ h0:=TH (fun e=>by rw[e,hn]at h0;cases h0)
 size:=by simp
 os:=rfl
 tape:=rfl
 output:=rfl
 names m h0 _:=by rw[Cm _ _ (fun e=>by rw[e,hn]at h0;cases h0)];exact h0
def KM {F:Nat->Prop} {Z:AE} {w:World} (h:Rel F Z w) {n:Nat} {o o':O} {ob:Obj} (hn:Z n=some o) (ho:QF (Hh F Z w) o' ob):Rel F (B3 Z n o') (Cf w n ob):=
 h.step (HM hn o' ob) fun m o'' hm=>by
  by_cases e:m=n
  .subst e
   rw[DJ]at hm;cases hm;exact .inr ⟨(h.own _ _ hn).1,ob,Oy (h.lt hn),ho.mono (HM hn o' ob).hle⟩
  .rw[Cm _ _ e]at hm
   exact .inl ⟨hm,TH e⟩
def Yv {w:World} {n:Nat} {ob:Obj} (h:w.heap[n]? =some ob):n<w.heap.size:=by
 rcases Nat.lt_or_ge n w.heap.size with h'|h'
 .exact h'
 .simp[Array.getElem?_eq_none h']at h
def setCell_eq {w:World} {n i:Nat} {c:Array Value} {e:TypeId} (h:w.heap[n]? =some (.cells c e (0,0))) (v:Value) :
    w.setCell ⟨n,i,none⟩ v=Cf w n (.cells (c.setIfInBounds i v) e (0,0)):=by
 unfold World.setCell Cf;congr 1;apply Array.ext_getElem?;intro j;by_cases hj:n=j
 .subst hj
  rw[Array.getElem?_modify,if_pos rfl,Array.getElem?_setIfInBounds_self_of_lt (Yv h),h];rfl
 .rw[Array.getElem?_modify,if_neg hj,Array.getElem?_setIfInBounds_ne hj]
def Dd {w:World} {n i:Nat} {c:Array Value} {e:TypeId} {fr:Nat×Nat} (h:w.heap[n]? =some (.cells c e fr)):w.cell? ⟨n,i,none⟩=c[i]? :=
 cell_of_row w n i c e fr h
def Ry {w:World} {n i:Nat} {c:Array Value} {e:TypeId} (h:w.heap[n]? =some (.cells c e (0,0))):w.frozen? ⟨n,i,none⟩=false:=
 frozen_of_row w n i c e h
def Cu (n o i:Nat):(⟨n,o,none⟩:Addr).add i=⟨n,o+i,none⟩:=by
 unfold Addr.add;split
 .subst_vars;rfl
 .rfl
def C6:Array Value->Nat->List Value->Array Value
 | c,_,[]=>c
 | c,o,v::vs=>C6 (c.setIfInBounds o v) (o+1) vs
def D9: ∀(vs:List Value) (c:Array Value) (o:Nat),(C6 c o vs).size=c.size
 | [],_,_=>rfl
 | v::vs,c,o=>by simp only[C6];rw[D9 vs];simp
def dS {w:World} {n:Nat} {ob:Obj} (h:w.heap[n]? =some ob):Cf w n ob=w:=by
 unfold Cf
 have:w.heap.setIfInBounds n ob=w.heap:=by
  apply Array.ext_getElem?;intro j;by_cases hj:n=j
  .subst hj
   rw[Array.getElem?_setIfInBounds_self_of_lt (Yv h),h]
  .rw[Array.getElem?_setIfInBounds_ne hj]
 rw[this]
def Sk (w:World) (n:Nat) (a b:Obj):Cf (Cf w n a) n b=Cf w n b:=by
 simp[Cf]
def Cv {P:Program} {n:Nat} {e:TypeId}: ∀(vs:List Value) (w:World) (c:Array Value) (o i:Nat),w.heap[n]? =some (.cells c e (0,0))->
    o+i+vs.length<=c.size->(∀v∈vs,v.oneCell'=true)->
    (storeCells ⟨n,o,none⟩ vs i).run P w= .ok () (Cf w n (.cells (C6 c (o+i) vs) e (0,0)))
 | [],w,c,o,i,h,_,_=>by
   simp only[storeCells,E8,C6];rw[dS h]
 | v::vs,w,c,o,i,h,hl,hv=>by
   have hlt:o+i<c.size:=by simp at hl;omega
   have h1:w.cell? ⟨n,o+i,none⟩=some c[o+i]:=by rw[Dd h];rw[Array.getElem?_eq_getElem hlt]
   have hone:=hv v (by simp);simp only[storeCells,DU,Cu,run_store P w _ v _ hone,h1,Ry h,L2,if_false,Result.andThen];rw[setCell_eq h];rw[Cv vs _ (c.setIfInBounds (o+i) v) o (i+1) (Oy (Yv h)) (by simp at hl ⊢;omega) (fun u hu=>hv u (by simp[hu]))];rw[Sk];rfl
end Go.Gl
namespace Go.Gl
def nJ:Value->Option V
 | .bool b=>some (.b b)
 | .int k n=>if k.min<=n/\n<=k.max then some (.i k n)else none
 | .string s=>some (.s s)
 | .pointer none=>some .pn
 | .slice none 0 0=>some (.l [] true)
 | .map none=>some .mn
 | .nilFunc=>some .L9
 | .nilIface=>some .Dv
 | _=>none
def gC:List Value->Option (List V)
 | []=>some []
 | c::cs=>match nJ c,gC cs with
   | some v,some vs=>some (v::vs)
   | _,_=>none
def sQ:Value->Option V
 | .agg cs=>(gC cs.toList).map .a
 | .tuple cs=>if cs.size=0 then some (.t [])else none
 | c=>nJ c
def BX:Operand->Option Bn
 | .tmp t=>some (.t t)
 | .const v=>(sQ v).map .c
 | .func f=>some (.c (.f (.func f) [] []))
 | .global _=>none
def K1:List Operand->Option (List Bn)
 | []=>some []
 | x::r=>match BX x,K1 r with
   | some v,some vs=>some (v::vs)
   | _,_=>none
def cg:Option Operand->Option (Option Bn)
 | none=>some none
 | some x=>(BX x).map some
def EU (P:Program) (t:TypeId):Option Nat:=(P.info? t).map (·.size)
def JQ (P:Program) (t:TypeId):Option (Option Nat):=
 match P.underlying t with
 | some (.struct _)=>(EU P t).map some
 | some (.array _ _)=>(EU P t).map some
 | some _=>some none
 | none=>none
def zeroOf (P:Program) (t:TypeId):Option V:=(((P.info? t).bind (·.zero))).bind sQ
def isInt (P:Program) (t:TypeId):Bool:=match P.underlying t with|some (.int _)=>true|_=>false
def isBool (P:Program) (t:TypeId):Bool:=match P.underlying t with|some .bool=>true|_=>false
def zq (P:Program) (op:BinOp) (t:TypeId) (x y:Bn):Option GJ:=
 if isInt P t then some (.bin op x y)
 else if isBool P t then match op with
  | .eql=>some (.nD false x y)
  | .neq=>some (.nD true x y)
  | _=>none
 else none
def UW (fields:Array Field) (P:Program):List (Nat×Operand)->Option (List (Nat×Nat×Bn))
 | []=>some []
 | (i,x)::r=>match fields[i]?,BX x,UW fields P r with
   | some f,some o,some ps=>(EU P f.type).map fun s=>(f.offset,s,o)::ps
   | _,_,_=>none
def Pe (sz:Nat):List (Nat×Operand)->Option (List (Nat×Nat×Bn))
 | []=>some []
 | (i,x)::r=>match BX x,Pe sz r with
   | some o,some ps=>some ((i*sz,sz,o)::ps)
   | _,_=>none
def Pd:List (Nat×Operand)->Option (List (Nat×Bn))
 | []=>some []
 | (i,x)::r=>match BX x,Pd r with
   | some o,some ps=>some ((i,o)::ps)
   | _,_=>none
def Lb:Option V->Option (List V)
 | some (.a cs)=>some cs
 | some (.t _)=>none
 | some .any=>none
 | some v=>some [v]
 | none=>none
def gj (P:Program) (c:Call):Option GJ:=
 match c.callee,c.args.toList,c.argTypes.toList with
 | .builtin .len,[x],[t]=>match P.underlying t with
   | some (.slice _)=>(BX x).map .len
   | some (.map _ _)=>(BX x).map .UN
   | some (.array n _)=>if(n:Int)<=IntKind.i64.max then some (.mv (.c (.i .i64 n)))else none
   | _=>none
 | .builtin .append,[x,y],[t,u]=>match P.underlying t,P.underlying u with
   | some (.slice e),some (.slice _)=>match BX x,BX y,P.info? e with
     | some x',some y',some i=>if t=u/\i.bytes<=4096/\i.zero.map (fun z=>z.cells.size)=some i.size then some (.append i.size i.bytes x' y')else none
     | _,_,_=>none
   | _,_=>none
 | .builtin .max,[x,y],_=>match BX x,BX y with|some x',some y'=>some (.Vs x' y')|_,_=>none
 | .builtin .min,[x,y],_=>match BX x,BX y with|some x',some y'=>some (.Vr x' y')|_,_=>none
 | .value (.func f),_,_=>(K1 c.args.toList).map (.call f)
 | .value x,_,_=>match BX x,K1 c.args.toList with|some x',some as=>some (.Jy x' as)|_,_=>none
 | _,_,_=>none
def rOp (P:Program):Op->Option GJ
 | .move x=>(BX x).map .mv
 | .assign x=>(BX x).map .mv
 | .pick c a b=>match BX c,BX a,BX b with|some c,some a,some b=>some (.pick c a b)|_,_,_=>none
 | .box _ x=>(BX x).map .box
 | .alloc e=>(Lb (zeroOf P e)).map .alloc
 | .build t parts=>match Lb (zeroOf P t),P.underlying t with
   | some z,some (.struct fields)=>if fields.toList.all (fun f=>(EU P f.type).isSome)then(UW fields P parts.toList).map (.build z)else none
   | some z,some (.array _ e)=>(EU P e).bind fun sz=>(Pe sz parts.toList).map (.build z)
   | _,_=>none
 | .buildSlice t len parts=>match P.underlying t with
   | some (.slice e)=>match Lb (zeroOf P e),EU P e with
     | some z,some sz=>if z.length=sz/\0<sz/\0<len/\len*sz<=2 ^ 24 then(Pd parts.toList).map (.Hi sz len z)else none
     | _,_=>none
   | _=>none
 | .load t x=>match JQ P t,BX x with|some a,some x=>some (.load a x)|_,_=>none
 | .store t a x=>match EU P t,BX a,BX x with|some s,some a,some x=>some (.store s a x)|_,_,_=>none
 | .binOp op t x y _=>match BX x,BX y with|some x,some y=>zq P op t x y|_,_=>none
 | .unOp .not _ x=>(BX x).map .not
 | .unOp .neg t x=>if isInt P t then(BX x).map (.neg false)else none
 | .unOp .xor t x=>if isInt P t then(BX x).map (.neg true)else none
 | .convert s d x=>match P.underlying s,P.underlying d with
   | some (.int _),some (.int k)=>(BX x).map (.conv k)
   | _,_=>none
 | .makeInterface t x=>match P.underlying t with
   | some (.interface _)=>none
   | some _=>(BX x).map (.Oj t)
   | none=>none
 | .makeFunc (.func f) first cap=>match K1 first.toList,K1 cap.toList with|some a,some b=>some (.fk (.func f) a b)|_,_=>none
 | .slice t x lo hi mx=>match P.underlying t with
   | some (.slice e)=>match EU P e,BX x,cg lo,cg hi,cg mx with
     | some s,some x,some l,some h,some m=>if 0<s/\(m.isSome->h.isSome)then some (.slice s x l h m)else none
     | _,_,_,_,_=>none
   | _=>none
 | .fieldAddr s x f=>match P.underlying s with
   | some (.struct fields)=>match fields[f]? with
     | some fd=>match EU P fd.type with
       | some sz=>if sz=0 then none else(BX x).map (.GO fd.offset)
       | none=>none
     | none=>none
   | _=>none
 | .field t x f=>match P.underlying t with
   | some (.struct fields)=>match fields[f]? with
     | some fd=>match JQ P fd.type,BX x with|some a,some x=>some (.field a fd.offset x)|_,_=>none
     | none=>none
   | _=>none
 | .indexAddr t x i=>match P.underlying t with
   | some (.slice e)=>match EU P e,BX x,BX i with|some s,some x,some i=>some (.MF s none x i)|_,_,_=>none
   | some (.array n e)=>match EU P e,BX x,BX i with|some s,some x,some i=>some (.MF s (some n) x i)|_,_,_=>none
   | _=>none
 | .index t x i=>match P.underlying t with
   | some (.array n e)=>match EU P e,JQ P e,BX x,BX i with|some s,some a,some x,some i=>some (.index n s a x i)|_,_,_,_=>none
   | _=>none
 | .extract x i=>(BX x).map (.extract i)
 | .nilCheck x=>(BX x).map .JK
 | .typeAssert x _ t ok=>match P.underlying t with
   | some (.interface _)=>none
   | some _=>match BX x,zeroOf P t with|some x,some z=>some (.fh t z ok x)|_,_=>none
   | none=>none
 | .panic x=>(BX x).map .panic
 | .call c=>gj P c
 | _=>none
def Cl (F:Nat->Prop) (Z:AE) (w:World) (k kp:V->AE->Prop):Result Value->Prop
 | .ok c w'=> ∃v Z',k v Z'/\Ag (Hh F Z' w') v c/\Rel F Z' w'/\B8 F Z w Z' w'
 | .halt (.panic c) w'=> ∃v Z',kp v Z'/\Ag (Hh F Z' w') v c/\Rel F Z' w'/\B8 F Z w Z' w'
 | _=>False
def Good (P:Program) (F:Nat->Prop) (Z:AE) (w:World) (k kp:V->AE->Prop):Result Next->Prop
 | .ok (.value c) w'=> ∃v Z',k v Z'/\Ag (Hh F Z' w') v c/\Rel F Z' w'/\B8 F Z w Z' w'
 | .ok .skip w'=> ∃Z',k (.t []) Z'/\Rel F Z' w'/\B8 F Z w Z' w'
 | .ok (.enter f args) w'=>Calls P f args w' fun e w''=> ∃r Z',qk k kp r Z'/\V9 (Hh F Z' w'') r e/\Rel F Z' w''/\B8 F Z w Z' w''
 | .ok (.round l f tmps assign body) w'=>RoundIn Fence.wide 0 P l f tmps assign body w' fun e w''=> ∃r Z',qk k kp r Z'/\V9 (Hh F Z' w'') r e/\Rel F Z' w''/\B8 F Z w Z' w''
 | .halt (.panic c) w'=> ∃v Z',kp v Z'/\Ag (Hh F Z' w') v c/\Rel F Z' w'/\B8 F Z w Z' w'
 | _=>False
def A5 {P:Program} {F:Nat->Prop} {Z:AE} {w:World} {k kp:V->AE->Prop} {s:Sem Value} (h:Cl F Z w k kp (s.run P w)) :
    Good P F Z w k kp ((do pure (.value (<-s)):Sem Next).run P w):=by
 simp only[DU];generalize s.run P w=r at *;cases r with
 | ok c w'=>exact h
 | halt x w'=>cases x<;>first|exact h|exact h.elim
def Fl {F:Nat->Prop} {Z:AE} {w:World} {k kp:V->AE->Prop} (hR:Rel F Z w) {v:V} {c:Value} (hv:Ag (Hh F Z w) v c) (hk:k v Z):Cl F Z w k kp (.ok c w):=
 ⟨v,Z,hk,hv,hR,B8.refl _ _ _⟩
def Aw {F:Nat->Prop} {Z:AE} {w:World} {k kp:V->AE->Prop} (hR:Rel F Z w) {v:V} {c:Value} (hk:k v Z) (hv:Ag (Hh F Z w) v c):Cl F Z w k kp (.ok c w):=
 Fl hR hv hk
def CW (H:Nat->Nat->Option Value) (env:Env) (tmps:Array Value):Prop:= ∀k v,get k env=some v-> ∃c,tmps[k]? =some c/\Ag H v c
def CW.mono {H H':Nat->Nat->Option Value} (hle:Zy H H') {env:Env} {tmps:Array Value} (h:CW H env tmps):CW H' env tmps:=
 fun k v hv=>let⟨c,h1,h2⟩:=h k v hv;⟨c,h1,h2.mono hle⟩
def Wo {H:Nat->Nat->Option Value} {c:Value} {v:V} (h:nJ c=some v):Ag H v c:=by
 unfold nJ at h
 split at h<;>first
  | (cases h;simp[Ag];done)
  | (split at h<;>first|(rename_i hc;cases h;simpa[Ag]using hc)|cases h)
  | cases h
 .exact⟨none,0,rfl,by simp,by simp,by simp[AZ],by simp,by simp⟩
def Wn {H:Nat->Nat->Option Value}: ∀ {cs:List Value} {vs:List V},gC cs=some vs->cs.length=vs.length/\Ba H (fun i=>cs[i]?) 0 vs
 | [],vs,h=>by cases h;exact⟨rfl,trivial⟩
 | c ::cs,vs,h=>by
   simp only[gC]at h;split at h
   .rename_i v vs' h1 h2
    cases h;obtain⟨h3,h4⟩:=Wn (H:=H) h2;refine⟨by simp[h3],⟨c,by simp,Wo h1⟩,?_⟩;exact BF h4 (fun i _=>by rw[show 0+1+i=i+1 by omega];simp)
   .cases h
def HF {H:Nat->Nat->Option Value} {c:Value} {v:V} (h:sQ c=some v):Ag H v c:=by
 unfold sQ at h;split at h
 .rename_i cs
  cases hq:gC cs.toList with
  | none=>rw[hq]at h;cases h
  | some vs=>
    rw[hq]at h;cases h;obtain⟨h1,h2⟩:=Wn (H:=H) hq;refine⟨cs,rfl,by simpa using h1,BF h2 (fun i _=>by simp)⟩
 .rename_i cs
  split at h
  .rename_i h0
   cases h;exact⟨cs,rfl,by simpa using h0,trivial⟩
  .cases h
 .exact Wo h
def Ap {H:Nat->Nat->Option Value} {env:Env} {a:Act} (he:CW H env a.tmps) {x:Operand} {o:Bn} (ho:BX x=some o) {v:V} (hv:ev env o=some v):Ag H v (a.eval x):=by
 cases x with
 | tmp t=>
   cases ho;obtain⟨c,h1,h2⟩:=he t v hv;simp only[Act.eval,Array.getD_eq_getD_getElem?,h1,Option.getD_some];exact h2
 | const c=>
   simp only[BX]at ho;cases hq:sQ c with
   | none=>rw[hq]at ho;cases ho
   | some u=>
     rw[hq]at ho;cases ho;cases hv;exact HF hq
 | func f=>
   cases ho;cases hv;exact⟨#[],#[],rfl,rfl,trivial,rfl,trivial⟩
 | global g=>cases ho
def bZ {H:Nat->Nat->Option Value} {env:Env} {a:Act} (he:CW H env a.tmps): ∀ {xs:List Operand} {os:List Bn},K1 xs=some os-> ∀ {vs:List V},Vl env os=some vs->
    xs.length=vs.length/\Ba H (fun i=>(xs.map a.eval)[i]?) 0 vs
 | [],os,ho,vs,hv=>by cases ho;cases hv;exact⟨rfl,trivial⟩
 | x ::xs,os,ho,vs,hv=>by
   simp only[K1]at ho;split at ho
   .rename_i o os' h1 h2
    cases ho;simp only[Vl]at hv;split at hv
    .rename_i v vs' h3 h4
     cases hv;obtain⟨h5,h6⟩:=bZ he h2 h4;refine⟨by simp[h5],⟨a.eval x,by simp,Ap he h1 h3⟩,?_⟩;exact BF h6 (fun i _=>by rw[show 0+1+i=i+1 by omega];simp)
    .cases hv
   .cases ho
def Ak {o:Option V} {k:V->Prop} (h:wv o k): ∃v,o=some v/\k v:=by
 cases o with
 | none=>exact h.elim
 | some v=>exact⟨v,rfl,h⟩
def Ik {o:Option (List V)} {k:List V->Prop} (h:ws o k): ∃v,o=some v/\k v:=by
 cases o with
 | none=>exact h.elim
 | some v=>exact⟨v,rfl,h⟩
def aH {o:Option (List (List V))} {k:List (List V)->Prop} (h:wr o k): ∃v,o=some v/\k v:=by
 cases o with
 | none=>exact h.elim
 | some v=>exact⟨v,rfl,h⟩
def Ux {o:Option (Option V)} {k:Option V->Prop} (h:wo o k): ∃v,o=some v/\k v:=by
 cases o with
 | none=>exact h.elim
 | some v=>exact⟨v,rfl,h⟩
end Go.Gl
namespace Go.Gl
variable {P:Program} {F:Nat->Prop} {Z:AE} {w:World} {k kp:V->AE->Prop}
def NL {t:TypeId} {n:Nat} (h:EU P t=some n): ∃i,P.info? t=some i/\i.size=n:=by
 unfold EU at h;cases hi:P.info? t with
 | none=>rw[hi]at h;cases h
 | some i=>rw[hi]at h;cases h;exact⟨i,rfl,rfl⟩
def EY {t:TypeId} {n:Nat} (h:EU P t=some n) (w:World):(sizeOf t).run P w= .ok n w:=by
 obtain⟨i,h1,h2⟩:=NL h;simp[sizeOf,typeInfo,h1,h2]
def BK {t:TypeId} {d:TypeDesc} (h:P.underlying t=some d) (w:World):(underlying t).run P w= .ok d w:=by
 simp[underlying,h]
def Em {t:TypeId} {z:V} (h:zeroOf P t=some z) (w:World): ∃c,(zeroValue t).run P w= .ok c w/\sQ c=some z:=by
 unfold zeroOf at h;cases hi:P.info? t with
 | none=>rw[hi]at h;cases h
 | some i=>
   rw[hi]at h;cases hz:i.zero with
   | none=>simp[hz]at h
   | some c=>
     refine⟨c,by simp[zeroValue,typeInfo,hi,hz],?_⟩;simpa[hz]using h
def Xh {t:TypeId} {z:V} (h:zeroOf P t=some z): ∃i c,P.info? t=some i/\i.zero=some c/\sQ c=some z:=by
 unfold zeroOf at h;cases hi:P.info? t with
 | none=>rw[hi]at h;cases h
 | some i=>
   rw[hi]at h;cases hz:i.zero with
   | none=>simp[hz]at h
   | some c=>exact⟨i,c,rfl,hz,by simpa[hz]using h⟩
def TI {t:TypeId} {a:Option Nat} (h:JQ P t=some a) (w:World):(isAgg t).run P w= .ok a.isSome w/\ ∀n,a=some n->(sizeOf t).run P w= .ok n w:=by
 unfold JQ at h;cases hu:P.underlying t with
 | none=>rw[hu]at h;cases h
 | some d=>
   rw[hu]at h;unfold isAgg;simp only[DU,BK hu,Result.andThen]
   cases d<;>simp only at h ⊢ <;>first
    | (cases h;exact⟨rfl,fun n e=>by cases e⟩)
    | (cases hs:EU P t with
       | none=>rw[hs]at h;cases h
       | some n=>rw[hs]at h;cases h;exact⟨rfl,fun n e=>by cases e;exact EY hs w⟩)
def VX {g:Nat->Option Value} {b o n:Nat} {vs:List V} {H:Nat->Nat->Option Value} (hg: ∀i c,g i=some c->w.cell? ⟨b,i,none⟩=some c) (hv:Ba H g o vs) (hn:vs.length=n) :
    ∃cs:Array Value,(loadCells ⟨b,o,none⟩ n).run P w= .ok cs w/\cs.size=n/\Ba H (fun i=>cs[i]?) 0 vs:=by
 rw[Bi]at hv
 have hch: ∀i,i<n-> ∃c,g (o+i)=some c:=fun i hi=>by
  obtain⟨c,hc,_⟩:=hv i vs[i] (Cr (by omega));exact⟨c,hc⟩
 let f:Nat->Value:=fun i=>(g (o+i)).getD undef
 refine⟨((List.range n).map f).toArray,?_,by simp,?_⟩
 .rw[run_loadCells w _ n f (fun j hj=>by
   obtain⟨c,hc⟩:=hch j hj;rw[Cu,hg _ _ hc]
   simp[f,hc])]
 .rw[Bi]
  intro i v hi;obtain⟨c,hc,hr⟩:=hv i v hi;have hlt:i<n:=by rw[<-hn];exact(JC.1 hi).1
  refine⟨c,?_,hr⟩;simp[f,hc,hlt]
def Fj {t:TypeId} {agg:Option Nat} (hA:JQ P t=some agg) {g:Nat->Option Value} {b o off:Nat} {vs:List V} {H:Nat->Nat->Option Value} (hg: ∀i c,g i=some c->w.cell? ⟨b,i,none⟩=some c) (hv:Ba H g o vs)
    {K:V->Prop} (hk:cut agg vs off K): ∃v c,(loadVar t ⟨b,o+off,none⟩).run P w= .ok c w/\Ag H v c/\K v:=by
 obtain⟨h1,h2⟩:=TI hA w;unfold loadVar;simp only[DU,h1,Result.andThen];cases agg with
 | none=>
   simp only[cut]at hk;split at hk
   .rename_i v hv'
    obtain⟨c,hc,hr⟩:=Bi.1 hv off v hv';refine⟨v,c,?_,hr,hk⟩;simp[hg _ _ hc]
   .exact hk.elim
 | some n=>
   simp only[cut]at hk;obtain⟨cs,h3,h4,h5⟩:=VX (P:=P) (n:=n) hg (S7 (Kc hv off) n) (by simp;omega);refine⟨.a ((vs.drop off).take n),.agg cs,?_,⟨cs,rfl,by simp[h4];omega,h5⟩,hk.2⟩;simp[h2 n rfl,h3]
def Kq (hR:Rel F Z w) {n:Nat} {vs:List V} (h:Z n=some (.cs vs)): ∃c e,w.heap[n]? =some (.cells c e (0,0))/\c.size=vs.length/\Ba (Hh F Z w) (fun i=>c[i]?) 0 vs:=by
 obtain⟨_,ob,h2,c,e,rfl,h4,h5⟩:=hR.own n _ h;exact⟨c,e,h2,h4,h5⟩
def FF (hR:Rel F Z w) {n sz cap:Nat} {es:List (List V)} (h:Z n=some (.arr sz es cap)): ∃c e,w.heap[n]? =some (.cells c e (0,0))/\cap*sz<=c.size/\es.length<=cap/\es.length<=AZ/\BJ (Hh F Z w) (fun i=>c[i]?) sz 0 es:=by
 obtain⟨_,ob,h2,c,e,rfl,h4,h5⟩:=hR.own n _ h;exact⟨c,e,h2,h4,h5⟩
def ZS {t:TypeId} {agg:Option Nat} (hA:JQ P t=some agg) (hR:Rel F Z w) {vx:V} {c:Value} (hx:Ag (Hh F Z w) vx c) (h:AU Z agg vx fun v=>k v Z) :
    Cl F Z w k kp ((Instr.loadAt t c).run P w):=by
 unfold Instr.loadAt;unfold AU at h;split at h
 .rename_i cs
  obtain⟨b,o,rfl,hv⟩:=hx;obtain⟨v,c,h1,h2,h3⟩:=Fj (P:=P) (w:=w) (b:=b) (off:=0) hA (fun i c hc=>(GX hc).2.2) hv h;simp only[DU,Instr.sureAddr,E8,Result.andThen,Nat.add_zero]at h1 ⊢;rw[h1];exact Fl hR h2 h3
 .rename_i n off
  simp only[Ag]at hx;subst hx;unfold QI at h;split at h
  .rename_i vs hs
   obtain⟨c,e,h1,h2,h3⟩:=Kq hR hs;obtain⟨v,c',h4,h5,h6⟩:=Fj (P:=P) (w:=w) (b:=n) (off:=off) hA (fun i c hc=>by rw[Dd h1];exact hc) h3 h;simp only[DU,Instr.sureAddr,E8,Result.andThen,G8]at h4 ⊢;rw[h4];exact Fl hR h5 h6
  .exact h.elim
 .rename_i n sz i off
  simp only[Ag]at hx;subst hx;unfold QJ at h;split at h
  .rename_i sz' es cap hs
   obtain⟨rfl,h⟩:=h;split at h
   .rename_i e he
    obtain⟨c,e',h1,_,_,_,h3⟩:=FF hR hs;obtain⟨h7,h8⟩:=BH.1 h3 i e he;obtain⟨v,c',h4,h5,h6⟩:=Fj (P:=P) (w:=w) (b:=n) (off:=off) hA (fun i c hc=>by rw[Dd h1];exact hc) h8 h;simp only[DU,Instr.sureAddr,E8,Result.andThen,G8]at h4 ⊢;rw[h4];exact Fl hR h5 h6
   .exact h.elim
  .exact h.elim
 .exact h.elim
def C2 {H:Nat->Nat->Option Value} {v:V} {c:Value} (hv:Ag H v c) {vs:List V} (h:cellsOf v=some vs):c.cells.size=vs.length/\Ba H (fun i=>c.cells[i]?) 0 vs:=by
 cases v<;>simp only[cellsOf]at h<;>first
  | (cases h;done)
  | (cases h
     have hc:c.cells= #[c]:=by
      first
       | (simp only[Ag]at hv;subst hv;rfl)
       | (simp only[Ag]at hv;obtain⟨rfl,_⟩:=hv;rfl)
       | (simp only[Ag]at hv;obtain⟨_,rfl,_⟩:=hv;rfl)
       | (simp only[Ag]at hv;obtain⟨_,_,rfl,_⟩:=hv;rfl)
     rw[hc]
     exact⟨rfl,⟨c,rfl,hv⟩,trivial⟩)
  | skip
 rename_i cs;cases h;obtain⟨c',rfl,h2,h3⟩:=hv;exact⟨h2,h3⟩
def Qr {H:Nat->Nat->Option Value} {v:V} {c:Value} (hv:Ag H v c) (h:CO v=true):c.oneCell'=true:=by
 cases v<;>first
  | (simp[CO]at h;done)
  | (simp only[Ag]at hv;subst hv;rfl)
  | (simp only[Ag]at hv;obtain⟨rfl,_⟩:=hv;rfl)
  | (simp only[Ag]at hv;obtain⟨_,rfl,_⟩:=hv;rfl)
  | (simp only[Ag]at hv;obtain⟨_,_,rfl,_⟩:=hv;rfl)
def lB {H:Nat->Nat->Option Value} {vs:List V} {c:Array Value} (hs:c.size=vs.length) (hv:Ba H (fun i=>c[i]?) 0 vs) (h:vs.all CO=true): ∀u∈c.toList,u.oneCell'=true:=by
 intro u hu;obtain⟨i,hi⟩:=List.mem_iff_getElem?.1 hu;have hlt:i<vs.length:=by rw[<-hs];have:=(JC.1 hi).1;simpa using this
 obtain⟨d,hd,hr⟩:=Bi.1 hv i vs[i] (Cr hlt);have:d=u:=by simp only[G8]at hd;rw[Array.getElem?_toList]at hi;rw[hi]at hd;cases hd;rfl
 subst this;exact Qr hr (EB.1 h _ (List.getElem_mem hlt))
def FL: ∀(us cs:List V) (o:Nat),(putAt cs o us).length=cs.length
 | [],_,_=>rfl
 | u::us,cs,o=>by simp only[putAt];rw[FL us];simp
def kI {H:Nat->Nat->Option Value} {c:Array Value} {vs:List V} {i:Nat} {v:V} {d:Value} (hs:c.size=vs.length) (h:Ba H (fun i=>c[i]?) 0 vs) (hv:Ag H v d) :
    Ba H (fun j=>(c.setIfInBounds i d)[j]?) 0 (vs.set i v):=by
 rw[Bi]at *;intro j u hu;simp only[G8]at h ⊢;rw[List.getElem?_set]at hu;split at hu
 .rename_i e
  subst e;split at hu
  .rename_i hlt
   cases hu;exact⟨d,by rw[Array.getElem?_setIfInBounds_self_of_lt (by omega)],hv⟩
  .cases hu
 .rename_i e
  obtain⟨c',h1,h2⟩:=h j u hu;exact⟨c',by rw[Array.getElem?_setIfInBounds_ne e];exact h1,h2⟩
def Mh {H:Nat->Nat->Option Value}: ∀ {us:List V} {ds:List Value} {c:Array Value} {vs:List V} {o:Nat},c.size=vs.length->Ba H (fun i=>c[i]?) 0 vs->ds.length=us.length->Ba H (fun i=>ds[i]?) 0 us->
    Ba H (fun i=>(C6 c o ds)[i]?) 0 (putAt vs o us)
 | [],[],c,vs,o,_,h,_,_=>h
 | u::us,d::ds,c,vs,o,hs,h,hl,hu=>by
   simp only[C6,putAt];obtain⟨⟨d',hd,hr⟩,hu'⟩:=hu;have e:d'=d:=by simp at hd;exact hd.symm
   subst e;exact Mh (by simpa using hs) (kI hs h hr) (by simpa using hl) (BF hu' (fun i _=>by rw[show 0+1+i=i+1 by omega];simp))
 | [],_::_,_,_,_,_,_,hl,_=>by simp at hl
 | _::_,[],_,_,_,_,_,hl,_=>by simp at hl
def DR: ∀(ds:List Value) (c:Array Value) (o i:Nat),(i<o\/o+ds.length<=i)->(C6 c o ds)[i]? =c[i]?
 | [],_,_,_,_=>rfl
 | d::ds,c,o,i,h=>by
   simp only[C6];rw[DR ds _ _ _ (by simp at h;omega),Array.getElem?_setIfInBounds_ne (by simp at h;omega)]
def Gd: ∀(ds:List Value) (c:Array Value) (o i:Nat),i<ds.length->o+ds.length<=c.size->(C6 c o ds)[o+i]? =ds[i]?
 | d ::ds,c,o,i,h,hs=>by
   simp only[C6];cases i with
   | zero=>
     simp at hs;rw[DR ds _ _ _ (by omega),Nat.add_zero,Array.getElem?_setIfInBounds_self_of_lt (by omega)];rfl
   | succ i=>
     rw[show o+(i+1)=o+1+i by omega,Gd ds _ _ i (by simpa using h) (by simp at hs ⊢;omega)];simp
 | [],_,_,_,h,_=>by simp at h
def X1 {t : TypeId} {sz:Nat} (hS:EU P t=some sz) (hR:Rel F Z w) {va vx:V} {ca cx:Value} (ha:Ag (Hh F Z w) va ca) (hx:Ag (Hh F Z w) vx cx)
    (h:AS Z sz va vx fun Z'=>k (.t []) Z'): ∃Z' w',(Instr.storeAt t ca cx).run P w= .ok () w'/\k (.t []) Z'/\Rel F Z' w'/\B8 F Z w Z' w':=by
 unfold AS at h;split at h
 .rename_i vc hc
  obtain⟨hlen,hone,h⟩:=h;obtain⟨hcs,hcv⟩:=C2 hx hc;have h1s:=lB hcs hcv hone;have hcv':Ba (Hh F Z w) (fun i=>cx.cells.toList[i]?) 0 vc:=BF hcv (fun i _=>by simp)
  have hrun: ∀n o,ca= .pointer (some ⟨n,o,none⟩)->(Instr.storeAt t ca cx).run P w=(storeCells ⟨n,o,none⟩ cx.cells.toList).run P w:=by
   rintro n o rfl;have:cx.cells.size=sz:=by omega
   simp[Instr.storeAt,Instr.sureAddr,storeVar,EY hS,this]
  split at h
  .rename_i n off
   split at h
   .rename_i vs hs
    obtain⟨hle,hk⟩:=h;simp only[Ag]at ha;obtain⟨c,e,h1,h2,h3⟩:=Kq hR hs;refine⟨_,Cf w n (.cells (C6 c off cx.cells.toList) e (0,0)),?_,hk,?_,HM hs _ _⟩
    .rw[hrun n off ha,Cv cx.cells.toList w c off 0 h1 (by simp;omega) h1s]
     rfl
    .exact KM hR hs ⟨_,e,rfl,by rw[D9,FL];exact h2,Mh h2 h3 (by simp;omega) hcv'⟩
   .exact h.elim
  .rename_i n s i off
   split at h
   .rename_i s' es cap hs
    obtain⟨rfl,h⟩:=h;split at h
    .rename_i e he
     obtain⟨hle,hk⟩:=h;simp only[Ag]at ha;obtain⟨c,et,h1,h2,h3,h4,h5⟩:=FF hR hs;obtain⟨h6,h7⟩:=BH.1 h5 i e he;have hi:i<es.length:=(JC.1 he).1
     have hb:i*s+s<=c.size:=by
      rw[<-Nat.succ_mul];exact Nat.le_trans (Vi _ (by omega)) h2
     refine⟨_,Cf w n (.cells (C6 c (i*s+off) cx.cells.toList) et (0,0)),?_,hk,?_,HM hs _ _⟩
     .rw[hrun n _ ha,Cv cx.cells.toList w c _ 0 h1 (by simp;omega) h1s]
      rfl
     .refine KM hR hs ⟨_,et,rfl,by rw[D9];exact h2,by simpa using h3,by simpa using h4,?_⟩
      rw[BH];intro j u hu;rw[List.getElem?_set]at hu;split at hu
      .rename_i ej
       subst ej;cases hu;refine⟨by rw[FL];exact h6,?_⟩
       have hrow:Ba (Hh F Z w) (fun q=>(c.extract (i*s) (i*s+s))[q]?) 0 e:=by
        refine BF h7 (fun q hq=>?_);simp only[G8];rw[Array.getElem?_extract_of_lt (by omega)];exact(Array.getElem?_eq_getElem (by omega)).symm
       have:=Mh (o:=off) (by simp;omega) hrow (by simp;omega) hcv';refine BF this (fun q hq=>?_);rw[FL]at hq;simp only[G8];by_cases hin:off<=q/\q<off+cx.cells.toList.length
       .obtain⟨r,rfl⟩: ∃r,q=off+r:=⟨q - off,by omega⟩
        rw[show i*s+(off+r)=i*s+off+r by omega,Gd _ _ _ _ (by omega) (by simp;omega),Gd _ _ _ _ (by omega) (by simp;omega)]
       .rw[DR _ _ _ _ (by omega),DR _ _ _ _ (by omega),Array.getElem?_extract_of_lt (by omega)]
        exact Array.getElem?_eq_getElem (by omega)
      .rename_i ej
       obtain⟨h8,h9⟩:=BH.1 h5 j u hu;refine⟨h8,BF h9 (fun q hq=>?_)⟩;rw[DR];rcases Nat.lt_or_ge j i with hji|hji
       .left
        have:(j+1)*s<=i*s:=Vi _ hji;rw[Nat.succ_mul]at this;omega
       .right
        have:(i+1)*s<=j*s:=Vi _ (by omega);rw[Nat.succ_mul]at this;simp;omega
    .exact h.elim
   .exact h.elim
  .exact h.elim
 .exact h.elim
end Go.Gl
namespace Go.Gl
variable {P:Program} {F:Nat->Prop} {Z:AE} {w:World} {k kp:V->AE->Prop}
def Tg (hR:Rel F Z w) {cells:Array Value} {e:TypeId} {cs:List V} (hs:cells.size=cs.length) (hv:Ba (Hh F Z w) (fun i=>cells[i]?) 0 cs)
    (h: ∀n,Z n=none->k (.p n 0) (B3 Z n (.cs cs))):Cl F Z w k kp ((do pure (.pointer (some (<-newRow e cells))):Sem Value).run P w):=by
 simp only[newRow,DU,run_newObj,E8,Result.andThen,World.alloc_eq];exact⟨.p w.heap.size 0,_,h _ hR.new,rfl,IK hR ⟨cells,e,rfl,hs,hv⟩,EI _ _⟩
def eQ (e:TypeId) (hR:Rel F Z w) {vx:V} {c:Value} (hx:Ag (Hh F Z w) vx c) {cs:List V} (hc:cellsOf vx=some cs) (h: ∀n,Z n=none->k (.p n 0) (B3 Z n (.cs cs))) :
    Cl F Z w k kp ((Instr.box e c).run P w):=by
 obtain⟨h1,h2⟩:=C2 hx hc;exact Tg hR h1 h2 h
def Gx {z:Option V} {cs:List V} (h:Lb z=some cs): ∃v,z=some v/\cellsOf v=some cs:=by
 cases z with
 | none=>cases h
 | some v=>cases v<;>first|(cases h;done)|(cases h;exact⟨_,rfl,rfl⟩)
def X6 {e:TypeId} {z:List V} (hz:Lb (zeroOf P e)=some z) (hR:Rel F Z w) (h: ∀n,Z n=none->k (.p n 0) (B3 Z n (.cs z))) :
    Cl F Z w k kp ((Instr.alloc e true (.tuple #[])).run P w):=by
 obtain⟨v,h1,h2⟩:=Gx hz;obtain⟨c,h3,h4⟩:=Em h1 w;obtain⟨h5,h6⟩:=C2 (HF (H:=Hh F Z w) h4) h2;have:=Tg (P:=P) (kp:=kp) (e:=e) hR h5 h6 h;unfold Instr.alloc;simp only[DU,h3,Result.andThen]at this ⊢;simpa[newVar,newRow]using this
def X5 {s:TypeId} {fields:Array Field} {f:Nat} {fd:Field} {sz:Nat} (hu:P.underlying s=some (.struct fields)) (hf:fields[f]? =some fd) (hs:EU P fd.type=some sz) (h0:sz≠0)
    (hR:Rel F Z w) {vx:V} {c:Value} (hx:Ag (Hh F Z w) vx c) (h:LZ fd.offset vx fun v=>k v Z):Cl F Z w k kp ((Instr.fieldAt s c f).run P w):=by
 have hrun: ∀b o,c= .pointer (some ⟨b,o,none⟩)->(Instr.fieldAt s c f).run P w= .ok (.pointer (some ⟨b,o+fd.offset,none⟩)) w:=by
  rintro b o rfl;simp[Instr.fieldAt,BK hu,hf,Instr.sureAddr,fieldPlace,EY hs,h0,Cu]
 unfold LZ at h;split at h
 .obtain⟨b,o,hc,hv⟩:=hx
  rw[hrun b o hc];exact Aw hR h ⟨b,_,rfl,Kc hv _⟩
 .rw[hrun _ _ hx]
  exact Aw hR h rfl
 .simp only[Ag]at hx
  rw[hrun _ _ hx,Nat.add_assoc];exact Aw hR h rfl
 .exact h.elim
def ak {t:TypeId} {agg:Option Nat} (hA:JQ P t=some agg) {H:Nat->Nat->Option Value} {c:Array Value} {off:Nat} {vs:List V} (hs:c.size=vs.length) (hv:Ba H (fun i=>c[i]?) 0 vs)
    {K:V->Prop} (hk:cut agg vs off K) (w:World): ∃v d,(part t c off).run P w= .ok d w/\Ag H v d/\K v:=by
 obtain⟨h1,h2⟩:=TI hA w;unfold part;simp only[DU,h1,Result.andThen];cases agg with
 | none=>
   simp only[cut]at hk;split at hk
   .rename_i v hv'
    obtain⟨d,hd,hr⟩:=Bi.1 hv off v hv';refine⟨v,d,?_,hr,hk⟩;simp only[G8]at hd;simp[hd]
   .exact hk.elim
 | some n=>
   simp only[cut]at hk;refine⟨.a ((vs.drop off).take n),.agg (c.extract off (off+n)),by simp[h2 n rfl],⟨_,rfl,by simp;omega,?_⟩,hk.2⟩;refine BF (S7 (Kc hv off) n) (fun i hi=>?_);simp at hi;rw[Array.getElem?_extract_of_lt (by omega)];rw[show 0+off+i=off+(0+i) by omega];exact(Array.getElem?_eq_getElem (by omega)).symm
def X4 {s:TypeId} {fields:Array Field} {f:Nat} {fd:Field} {agg:Option Nat} (hu:P.underlying s=some (.struct fields)) (hf:fields[f]? =some fd) (hA:JQ P fd.type=some agg)
    (hR:Rel F Z w) {cs:List V} {c:Value} (hx:Ag (Hh F Z w) (.a cs) c) (h:cut agg cs fd.offset fun v=>k v Z):Cl F Z w k kp ((Instr.field s c f).run P w):=by
 obtain⟨c',rfl,h1,h2⟩:=hx;obtain⟨v,d,h3,h4,h5⟩:=ak hA h1 h2 h w;simp only[Instr.field,DU,BK hu,Result.andThen,hf,asAgg,E8,h3];exact Fl hR h4 h5
def X3 {t e:TypeId} {len sz:Nat} {agg:Option Nat} (hu:P.underlying t=some (.array len e)) (hs:EU P e=some sz) (hA:JQ P e=some agg)
    (hR:Rel F Z w) {vx vi:V} {cx ci:Value} (hx:Ag (Hh F Z w) vx cx) (hi:Ag (Hh F Z w) vi ci) (h:LY len sz agg vx vi fun v=>k v Z):Cl F Z w k kp ((Instr.index t cx ci).run P w):=by
 unfold LY at h;split at h
 .rename_i cs ki j
  obtain⟨h0,h1,h⟩:=h;obtain⟨c',rfl,h2,h3⟩:=hx;obtain⟨rfl,_⟩:=hi;obtain⟨v,d,h4,h5,h6⟩:=ak hA h2 h3 h w;simp only[Instr.index,DU,asIntOf,E8,Result.andThen,BK hu,h0,h1,and_self,if_true,EY hs,h4];exact Fl hR h5 h6
 .exact h.elim
def run_indexAt_slice {t e:TypeId} {sz:Nat} (hu:P.underlying t=some (.slice e)) (hs:EU P e=some sz) {b o:Nat} {n cap:Nat} {j:Int} {ki:IntKind} (h0:0<=j) (h1:j<n) :
    (Instr.indexAt t (.slice (some ⟨b,o,none⟩) n cap) (.int ki j)).run P w= .ok (.pointer (some ⟨b,o+j.toNat*sz,none⟩)) w:=by
 simp[Instr.indexAt,asIntOf,BK hu,h0,h1,EY hs,Cu]
def run_indexAt_array {t e:TypeId} {sz m:Nat} (hu:P.underlying t=some (.array m e)) (hs:EU P e=some sz) {b o:Nat} {j:Int} {ki:IntKind} (h0:0<=j) (h1:j<m) :
    (Instr.indexAt t (.pointer (some ⟨b,o,none⟩)) (.int ki j)).run P w= .ok (.pointer (some ⟨b,o+j.toNat*sz,none⟩)) w:=by
 simp[Instr.indexAt,asIntOf,BK hu,h0,h1,EY hs,Cu,Instr.sureAddr]
def NS {t e:TypeId} {sz:Nat} (hu:P.underlying t=some (.slice e)) (hs:EU P e=some sz)
    (hR:Rel F Z w) {vx vi:V} {cx ci:Value} (hx:Ag (Hh F Z w) vx cx) (hi:Ag (Hh F Z w) vi ci) (h:AR sz none vx vi fun v=>k v Z):Cl F Z w k kp ((Instr.indexAt t cx ci).run P w):=by
 cases vi<;>simp only[AR]at h
 rename_i ki j;obtain⟨rfl,_⟩:=hi;cases vx<;>simp only at h
 .rename_i es full
  obtain⟨h0,e',he,hl,h⟩:=h;obtain⟨a,cap,rfl,_,_,_,_,h6⟩:=hx;have hlt:=(JC.1 he).1;obtain⟨b,o,s,rfl,h7⟩:=h6 (by rintro rfl;simp at he);obtain⟨h8,h9⟩:=BH.1 h7 _ _ he;have:s=sz:=by omega
  subst this;rw[run_indexAt_slice hu hs h0 (by omega)];exact Aw hR h ⟨b,_,rfl,h9⟩
 .rename_i n len cap
  obtain⟨h0,h1,h⟩:=h;obtain⟨rfl,_⟩:=hx;rw[run_indexAt_slice hu hs h0 h1];exact Aw hR h (by simp[Ag])
 .rename_i n s off len
  obtain⟨rfl,h0,h1,h⟩:=h;obtain⟨a,cap,rfl,_,h3⟩:=hx;obtain rfl:=h3 (by omega);rw[run_indexAt_slice hu hs h0 h1];exact Aw hR h (by simp[Ag,Nat.add_mul])
def NT {t e:TypeId} {sz m:Nat} (hu:P.underlying t=some (.array m e)) (hs:EU P e=some sz)
    (hR:Rel F Z w) {vx vi:V} {cx ci:Value} (hx:Ag (Hh F Z w) vx cx) (hi:Ag (Hh F Z w) vi ci) (h:AR sz (some m) vx vi fun v=>k v Z):Cl F Z w k kp ((Instr.indexAt t cx ci).run P w):=by
 cases vi<;>simp only[AR]at h
 rename_i ki j;obtain⟨rfl,_⟩:=hi;cases vx<;>simp only at h
 .rename_i n o
  obtain⟨h0,h1,h⟩:=h;simp only[Ag]at hx;subst hx;rw[run_indexAt_array hu hs h0 h1];exact Aw hR h rfl
 .rename_i cs
  obtain⟨h0,h1,h⟩:=h;obtain⟨b,o,rfl,hv⟩:=hx;rw[run_indexAt_array hu hs h0 h1];exact Aw hR h ⟨b,_,rfl,Kc hv _⟩
 .rename_i n s q o
  obtain⟨h0,h1,h⟩:=h;simp only[Ag]at hx;subst hx;rw[run_indexAt_array hu hs h0 h1,Nat.add_assoc];exact Aw hR h rfl
end Go.Gl
