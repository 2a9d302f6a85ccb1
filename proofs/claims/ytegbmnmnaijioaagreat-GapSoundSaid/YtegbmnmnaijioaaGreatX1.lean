import Derived.OrdersIn
import Derived.Below
import Derived.Laws.Cells
import Derived.Laws.Rows
import Derived.Laws.World
import Derived.Laws.Slices
import Derived.Laws.Build
import Derived.WideShapes4
import Derived.OpenShut
set_option linter.all false
set_option linter.defProp false
set_option maxHeartbeats 8000000
noncomputable section
namespace Go.Gl
def kZ {n m:Nat} (h:Nat.ble n m=true:=by exact rfl):n<=m:=Nat.le_of_ble_eq_true h
abbrev DC:=@List.getElem?_eq_getElem
abbrev CY:=@List.mem_of_getElem?
abbrev Ca:=@List.length_map
abbrev C6:=@List.getD_eq_getElem?_getD
abbrev CC:=@decide_eq_true_eq
abbrev A0:=@Bool.and_eq_true
abbrev OR:=@List.getElem?_map
abbrev JN:=@Option.some.injEq
abbrev O5:=@List.mem_append_left
abbrev OQ:=@List.mem_append_right
abbrev nX:=@List.getElem?_append_left
abbrev D9:=@List.mem_append
abbrev DJ:=@List.all_eq_true
abbrev NM:=@Bool.false_eq_true
abbrev SB:=@List.length_append
abbrev Lr:=@List.length_cons
abbrev Hp:=@List.mem_map
abbrev gG:=@Option.map_some
abbrev se:=@List.getElem?_cons_zero
abbrev zF:=@List.getElem?_cons_succ
abbrev sd:=@Array.getElem?_eq_some_iff
abbrev zT:=@List.map_map
abbrev Lq:=@List.length_take
abbrev nU:=@List.getElem?_drop
abbrev Fl:=@List.mem_cons
abbrev Ps:=@List.append_assoc
abbrev JU:=@List.mem_filter
abbrev zrH:=@Bool.and_eq_true_iff
abbrev Cd:=@beq_iff_eq
abbrev zrJ:=@bne_iff_ne
abbrev DX:=@Sem.run_bind
abbrev Ey:=@Sem.run_pure
abbrev Gv:=@Result.andThen_ok
abbrev JT:=@List.getElem?_eq_some_iff
abbrev EW:=@List.map_cons
abbrev Ea:=@Bool.or_eq_true
abbrev K7:=@List.sublist_cons_self
abbrev HP:=@Int.toNat_natCast
abbrev FE:=@List.append_nil
abbrev Gu:=@Nat.zero_add
abbrev G3:=@Bool.eq_iff_iff
abbrev Cm:=@Bool.true_and
abbrev Pr:=@List.length_filter_le
abbrev VW:=@Nat.eq_of_beq_eq_true
abbrev Va:=@Nat.mul_le_mul_right
abbrev Hn:=@List.any_eq_true
abbrev O4:=@List.nil_sublist
abbrev Ia:=@Nat.le_refl
abbrev YM:=@List.length_eq_zero_iff
abbrev Lp:=@List.mem_singleton
abbrev PL:=@List.perm_append_comm
abbrev R8:=@List.all_cons
abbrev VV:=@List.map_append
abbrev SA:=@List.any_cons
end Go.Gl
namespace Go.Gl
def Ae:Nat:=17592186044416
inductive V where
 | b (x:Bool)
 | i (k:IntKind) (n:Int)
 | s (x:ByteArray)
 | pn
 | p (n off:Nat)
 | rp (cs:List V)
 | l (es:List (List V)) (full:Bool)
 | sl (n len cap:Nat)
 | sv (n sz off len:Nat)
 | pe (n sz i off:Nat)
 | m (n:Nat)
 | mn
 | f (fn:Fn) (first cap:List V)
 | Lx
 | FF (t:TypeId) (v:V)
 | Dv
 | a (cs:List V)
 | t (vs:List V)
 | any
 deriving Inhabited
mutual
def Af (H:Nat->Nat->Option Value):V->Value->Prop
 | .b x,c=>c= .bool x
 | .i k n,c=>c= .int k n/\k.min<=n/\n<=k.max
 | .s x,c=>c= .string x
 | .pn,c=>c= .pointer none
 | .p n off,c=>c= .pointer (some ⟨n,off,none⟩)
 | .rp cs,c=> ∃b o,c= .pointer (some ⟨b,o,none⟩)/\Ba H (H b) o cs
 | .l es full,c=> ∃a cap,c= .slice a es.length cap/\es.length<=cap/\(full=true->cap=es.length)/\es.length<=Ae/\(a=none->cap=0)/\
  (es≠[]-> ∃b o sz,a=some ⟨b,o,none⟩/\BJ H (H b) sz o es)
 | .sl n len cap,c=>c= .slice (some ⟨n,0,none⟩) len cap/\len<=cap
 | .sv n sz off len,c=> ∃a cap,c= .slice a len cap/\len<=cap/\(len≠0->a=some ⟨n,off*sz,none⟩)
 | .pe n sz i off,c=>c= .pointer (some ⟨n,i*sz+off,none⟩)
 | .m n,c=>c= .map (some n)
 | .mn,c=>c= .map none
 | .f fn first cap,c=> ∃f' c',c= .func fn f' c'/\f'.size=first.length/\Ba H (fun i=>f'[i]?) 0 first/\c'.size=cap.length/\Ba H (fun i=>c'[i]?) 0 cap
 | .Lx,c=>c= .nilFunc
 | .FF t v,c=> ∃c',c= .iface t c'/\Af H v c'
 | .Dv,c=>c= .nilIface
 | .a cs,c=> ∃c',c= .agg c'/\c'.size=cs.length/\Ba H (fun i=>c'[i]?) 0 cs
 | .t vs,c=> ∃c',c= .tuple c'/\c'.size=vs.length/\Ba H (fun i=>c'[i]?) 0 vs
 | .any,_=>True
def Ba (H:Nat->Nat->Option Value) (g:Nat->Option Value):Nat->List V->Prop
 | _,[]=>True
 | o,v::vs=>(∃c,g o=some c/\Af H v c)/\Ba H g (o+1) vs
def BJ (H:Nat->Nat->Option Value) (g:Nat->Option Value) (sz:Nat):Nat->List (List V)->Prop
 | _,[]=>True
 | o,e::es=>e.length=sz/\Ba H g o e/\BJ H g sz (o+sz) es
end
inductive su where
 | ready
 | ret
 | exit (id:Nat)
inductive O where
 | cs (vs:List V)
 | arr (sz:Nat) (es:List (List V)) (cap:Nat)
 | map (kvs:List (V×V))
 | loop (st:su) (env:List (Nat×V)) (ok:FuncId->Array Tmp->Code->Code->Nat->Prop)
 deriving Inhabited
def s9:su->Loop->Prop
 | .ready,lp=>lp.state= .ready/\lp.pending=none
 | .ret,lp=>lp.state= .done/\lp.pending=some .ret
 | .exit id,lp=>lp.state= .done/\lp.pending=some (.exit id)
def Fu (H:Nat->Nat->Option Value):List (V×V)->List MapEntry->Prop
 | [],[]=>True
 | (k,v)::r,e::es=>Af H k e.key/\Af H v e.val/\Fu H r es
 | _,_=>False
def P5 (H:Nat->Nat->Option Value):O->Obj->Prop
 | .cs vs,o=> ∃c e,o= .cells c e (0,0)/\c.size=vs.length/\Ba H (fun i=>c[i]?) 0 vs
 | .arr sz es cap,o=> ∃c e,o= .cells c e (0,0)/\cap*sz<=c.size/\es.length<=cap/\es.length<=Ae/\BJ H (fun i=>c[i]?) sz 0 es
 | .map kvs,o=> ∃es clk,o= .map es clk/\Fu H kvs es.toList/\es.toList.Pairwise (fun a b=>a.key≠b.key)
 | .loop st env ok,o=> ∃lp,o= .loop lp/\s9 st lp/\(∀k v,(k,v)∈env-> ∃c,lp.tmps[k]? =some c/\Af H v c)/\ok lp.fn lp.params lp.assign lp.body lp.tmps.size
abbrev AE:=Nat->Option O
def Hh (F:Nat->Prop) (Z:AE) (w:World) (b o:Nat):Option Value:=
 open Classical in if F b\/(Z b).isSome=true then none else w.cell? ⟨b,o,none⟩
structure Rel (F:Nat->Prop) (Z:AE) (w:World):Prop where
 own: ∀n o,Z n=some o-> ¬F n/\ ∃ob,w.heap[n]? =some ob/\P5 (Hh F Z w) o ob
 lock: ∀n,F n->n<w.heap.size
structure B9 (F:Nat->Prop) (Z:AE) (w:World) (Z':AE) (w':World):Prop where
 frame: ∀n,n<w.heap.size->Z n=none->w'.heap[n]? =w.heap[n]?
 size:w.heap.size<=w'.heap.size
 os:w'.os=w.os
 tape:w'.tape=w.tape
 output:w'.output=w.output
 names: ∀n,Z n=none->n<w.heap.size->Z' n=none
def B9.refl (F:Nat->Prop) (Z:AE) (w:World):B9 F Z w Z w:=
 ⟨fun _ _ _=>rfl,Ia _,rfl,rfl,rfl,fun _ h _=>h⟩
def B9.trans {F:Nat->Prop} {Z Z' Z'':AE} {w w' w'':World} (h:B9 F Z w Z' w') (k:B9 F Z' w' Z'' w''):B9 F Z w Z'' w'' where
 frame n hn h0:=(k.frame n (Nat.lt_of_lt_of_le hn h.size) (h.names n h0 hn)).trans (h.frame n hn h0)
 size:=Nat.le_trans h.size k.size
 os:=k.os.trans h.os
 tape:=k.tape.trans h.tape
 output:=k.output.trans h.output
 names n h0 hn:=k.names n (h.names n h0 hn) (Nat.lt_of_lt_of_le hn h.size)
def Z8 (H H':Nat->Nat->Option Value):Prop:= ∀b o c,H b o=some c->H' b o=some c
mutual
def Af.mono {H H':Nat->Nat->Option Value} (hle:Z8 H H'): ∀(v:V) (c:Value),Af H v c->Af H' v c
 | .b _,_,h| .i _ _,_,h| .s _,_,h| .pn,_,h| .p _ _,_,h| .sl _ _ _,_,h| .sv _ _ _ _,_,h| .pe _ _ _ _,_,h| .m _,_,h| .mn,_,h| .Lx,_,h| .Dv,_,h| .any,_,h=>by
   simp only[Af]at h ⊢
   try exact h
 | .rp cs,_,h=>by
   simp only[Af]at h ⊢;obtain⟨b,o,rfl,h⟩:=h;exact⟨b,o,rfl,Ba.mono hle (fun i c e=>hle b i c e) cs o h⟩
 | .l es full,_,h=>by
   simp only[Af]at h ⊢;obtain⟨a,cap,h1,h2,h3,h4,h5,h6⟩:=h;refine⟨a,cap,h1,h2,h3,h4,h5,fun hne=>?_⟩;obtain⟨b,o,sz,h7,h8⟩:=h6 hne;exact⟨b,o,sz,h7,BJ.mono hle (fun i c e=>hle b i c e) sz es o h8⟩
 | .f fn first cap,_,h=>by
   simp only[Af]at h ⊢;obtain⟨f',c',h1,h2,h3,h4,h5⟩:=h;exact⟨f',c',h1,h2,Ba.mono hle (fun _ _ e=>e) first 0 h3,h4,Ba.mono hle (fun _ _ e=>e) cap 0 h5⟩
 | .FF t v,_,h=>by
   simp only[Af]at h ⊢;obtain⟨c',h1,h2⟩:=h;exact⟨c',h1,Af.mono hle v c' h2⟩
 | .a cs,_,h=>by
   simp only[Af]at h ⊢;obtain⟨c',h1,h2,h3⟩:=h;exact⟨c',h1,h2,Ba.mono hle (fun _ _ e=>e) cs 0 h3⟩
 | .t cs,_,h=>by
   simp only[Af]at h ⊢;obtain⟨c',h1,h2,h3⟩:=h;exact⟨c',h1,h2,Ba.mono hle (fun _ _ e=>e) cs 0 h3⟩
def Ba.mono {H H':Nat->Nat->Option Value} (hle:Z8 H H') {g g':Nat->Option Value} (hg: ∀i c,g i=some c->g' i=some c) :
    ∀(vs:List V) (o:Nat),Ba H g o vs->Ba H' g' o vs
 | [],_,_=>trivial
 | v::vs,o,h=>by
   simp only[Ba]at h ⊢;obtain⟨⟨c,h1,h2⟩,h3⟩:=h;exact⟨⟨c,hg _ _ h1,Af.mono hle v c h2⟩,Ba.mono hle hg vs (o+1) h3⟩
def BJ.mono {H H':Nat->Nat->Option Value} (hle:Z8 H H') {g g':Nat->Option Value} (hg: ∀i c,g i=some c->g' i=some c) (sz:Nat) :
    ∀(es:List (List V)) (o:Nat),BJ H g sz o es->BJ H' g' sz o es
 | [],_,_=>trivial
 | e::es,o,h=>by
   simp only[BJ]at h ⊢;obtain⟨h1,h2,h3⟩:=h;exact⟨h1,Ba.mono hle hg e o h2,BJ.mono hle hg sz es (o+sz) h3⟩
end
def Fu.mono {H H':Nat->Nat->Option Value} (hle:Z8 H H'): ∀(r:List (V×V)) (es:List MapEntry),Fu H r es->Fu H' r es
 | [],[],_=>trivial
 | (k,v)::r,e::es,h=>by
   simp only[Fu]at h ⊢;exact⟨Af.mono hle _ _ h.1,Af.mono hle _ _ h.2.1,Fu.mono hle r es h.2.2⟩
 | [],_::_,h=>h.elim
 | _::_,[],h=>h.elim
def P5.mono {H H':Nat->Nat->Option Value} (hle:Z8 H H') {o:O} {ob:Obj} (h:P5 H o ob):P5 H' o ob:=by
 cases o with
 | cs vs=>obtain⟨c,e,h1,h2,h3⟩:=h;exact⟨c,e,h1,h2,Ba.mono hle (fun _ _ e=>e) _ _ h3⟩
 | arr sz es cap=>obtain⟨c,e,h1,h2,h3,h4,h5⟩:=h;exact⟨c,e,h1,h2,h3,h4,BJ.mono hle (fun _ _ e=>e) _ _ _ h5⟩
 | map kvs=>obtain⟨es,clk,h1,h2,h3⟩:=h;exact⟨es,clk,h1,Fu.mono hle _ _ h2,h3⟩
 | loop st env ok=>obtain⟨lp,h1,h2,h3,h4⟩:=h;exact⟨lp,h1,h2,fun k v hm=>let⟨c,h5,h6⟩:=h3 k v hm;⟨c,h5,h6.mono hle⟩,h4⟩
def GL {F:Nat->Prop} {Z:AE} {w:World} {b o:Nat} {c:Value} (h:Hh F Z w b o=some c) :
    ¬F b/\Z b=none/\w.cell? ⟨b,o,none⟩=some c:=by
 unfold Hh at h;split at h
 .cases h
 .rename_i hn
  refine⟨fun hl=>hn (.inl hl),?_,h⟩;cases hs:Z b with
  | none=>rfl
  | some o=>exact absurd (.inr (by simp[hs])) hn
def Og {F:Nat->Prop} {Z:AE} {w:World} {b o:Nat} (h1: ¬F b) (h2:Z b=none):Hh F Z w b o=w.cell? ⟨b,o,none⟩:=by
 unfold Hh;rw[if_neg];simp[h1,h2]
def rH {w:World} {b o:Nat} {c:Value} (h:w.cell? ⟨b,o,none⟩=some c):b<w.heap.size:=by
 unfold World.cell? at h;rcases Nat.lt_or_ge b w.heap.size with h'|h'
 .exact h'
 .simp[Array.getElem?_eq_none h']at h
def B9.hle {F:Nat->Prop} {Z Z':AE} {w w':World} (h:B9 F Z w Z' w'):Z8 (Hh F Z w) (Hh F Z' w'):=by
 intro b o c hc;obtain⟨h1,h2,h3⟩:=GL hc;have hb:=rH h3;rw[Og h1 (h.names b h2 hb),World.cell?_of_block (w:=w) (h.frame b hb h2)];exact h3
def E8 {F:Nat->Prop} {Z Z':AE} {w:World} (hs: ∀n,Z n=none->Z' n=none):Z8 (Hh F Z w) (Hh F Z' w):=by
 intro b o c hc;obtain⟨h1,h2,h3⟩:=GL hc;rw[Og h1 (hs b h2)];exact h3
def Sub (Z' Z:AE):Prop:= ∀n o,Z' n=some o->Z n=some o
def Sub.none {Z' Z:AE} (h:Sub Z' Z) {n:Nat} (hn:Z n=none):Z' n=none:=by
 cases h':Z' n with
 | none=>rfl
 | some o=>rw[h n o h']at hn;cases hn
def Sub.refl (Z:AE):Sub Z Z:=fun _ _ h=>h
def Sub.trans {a b c:AE} (h:Sub a b) (k:Sub b c):Sub a c:=fun n o e=>k n o (h n o e)
def Rel.drop {F:Nat->Prop} {Z Z':AE} {w:World} (h:Rel F Z w) (hs:Sub Z' Z):Rel F Z' w where
 own n o ho:=by
  obtain⟨h1,ob,h2,h3⟩:=h.own n o (hs n o ho);exact⟨h1,ob,h2,P5.mono (E8 fun n hn=>hs.none hn) h3⟩
 lock:=h.lock
def B9.drop {F:Nat->Prop} {Z Z':AE} (w:World) (hs:Sub Z' Z):B9 F Z w Z' w:=
 ⟨fun _ _ _=>rfl,Ia _,rfl,rfl,rfl,fun _ hn _=>hs.none hn⟩
end Go.Gl
namespace Go.Gl
abbrev Env:=List (Nat×V)
def get (k:Nat):Env->Option V
 | []=>none
 | (j,v)::r=>bif Nat.beq j k then some v else get k r
inductive Bo where
 | t (n:Nat)
 | c (v:V)
 deriving Inhabited
def ev (env:Env):Bo->Option V
 | .t n=>get n env
 | .c v=>some v
def VZ (env:Env):List Bo->Option (List V)
 | []=>some []
 | x::r=>match ev env x,VZ env r with
   | some v,some vs=>some (v::vs)
   | _,_=>none
def B5 (Z:AE) (n:Nat) (o:O):AE:=fun k=>if k=n then some o else Z k
def del (Z:AE) (n:Nat):AE:=fun k=>if k=n then none else Z k
mutual
inductive GD (Z Z':AE):V->V->Prop
 | refl (v:V):GD Z Z' v v
 | arr {n sz cap len:Nat} {es es':List (List V)}:Z n=some (.arr sz es cap)->Z' n=none->len=es.length->Fm Z Z' es es'->GD Z Z' (.sl n len cap) (.l es' false)
 | cs {n:Nat} {vs vs':List V}:Z n=some (.cs vs)->Z' n=none->DQ Z Z' vs vs'->GD Z Z' (.p n 0) (.rp vs')
 | a {vs vs':List V}:DQ Z Z' vs vs'->GD Z Z' (.a vs) (.a vs')
 | t {vs vs':List V}:DQ Z Z' vs vs'->GD Z Z' (.t vs) (.t vs')
 | FF {t:TypeId} {v v':V}:GD Z Z' v v'->GD Z Z' (.FF t v) (.FF t v')
 | l {es es':List (List V)} {f f':Bool}:(f'=true->f=true)->Fm Z Z' es es'->GD Z Z' (.l es f) (.l es' f')
 | rp {vs vs':List V}:DQ Z Z' vs vs'->GD Z Z' (.rp vs) (.rp vs')
 | f {fn:Fn} {a a' b b':List V}:DQ Z Z' a a'->DQ Z Z' b b'->GD Z Z' (.f fn a b) (.f fn a' b')
 | any {v:V}:GD Z Z' v .any
inductive DQ (Z Z':AE):List V->List V->Prop
 | nil:DQ Z Z' [] []
 | cons {v v':V} {vs vs':List V}:GD Z Z' v v'->DQ Z Z' vs vs'->DQ Z Z' (v::vs) (v'::vs')
inductive Fm (Z Z':AE):List (List V)->List (List V)->Prop
 | nil:Fm Z Z' [] []
 | cons {v v':List V} {vs vs':List (List V)}:DQ Z Z' v v'->Fm Z Z' vs vs'->Fm Z Z' (v::vs) (v'::vs')
end
inductive KS where
 | i (k:IntKind)
 | a (l:List IntKind)
 | s
 deriving Inhabited
inductive F6 where
 | mv (x:Bo)
 | nk (x:Bo)
 | pick (c a b:Bo)
 | bin (op:BinOp) (x y:Bo)
 | nu (neg:Bool) (x y:Bo)
 | nt (len:Nat) (neg:Bool) (x y:Bo)
 | gO (kind:Nat) (neg:Bool) (x:Bo)
 | not (x:Bo)
 | neg (xor:Bool) (x:Bo)
 | conv(k:IntKind) (x:Bo)
 | box (x:Bo)
 | PF (x:Bo)
 | SS (sz bytes:Nat) (x y:Bo)
 | alloc (zero:List V)
 | build (zero:List V) (parts:List (Nat×Nat×Bo))
 | Hi (sz len:Nat) (zero:List V) (parts:List (Nat×Bo))
 | load (agg:Option Nat) (x:Bo)
 | store (sz:Nat) (a x:Bo)
 | F9 (off:Nat) (x:Bo)
 | field (agg:Option Nat) (off:Nat) (x:Bo)
 | L4 (sz:Nat) (arr:Option Nat) (x i:Bo)
 | index (len sz:Nat) (agg:Option Nat) (x i:Bo)
 | slice (sz:Nat) (x:Bo) (lo hi mx:Option Bo)
 | len (x:Bo)
 | UC (x:Bo)
 | str (x:Bo)
 | Vd (x i:Bo)
 | append (sz bytes:Nat) (x y:Bo)
 | copy (sz:Nat) (x y:Bo)
 | Vi (x y:Bo)
 | Vh (x y:Bo)
 | extract (i:Nat) (x:Bo)
 | JA (x:Bo)
 | gK (f:Fn) (first cap:List Bo)
 | OX
 | GJ (sz bytes:Nat) (zero:List V) (len cap:Bo)
 | lookup (ks:KS) (zero:V) (ok:Bool) (m k:Bo)
 | Ed (ks:KS) (m k v:Bo)
 | OY (t:TypeId) (x:Bo)
 | gI (t:TypeId) (zero:V) (ok:Bool) (x:Bo)
 | panic (x:Bo)
 | call (f:FuncId) (args:List Bo)
 | L8 (f:FuncId) (args:List Bo)
 | Jm (x:Bo) (args:List Bo)
 | Y2 (x:Bo) (args:List Bo)
 | inv (tab:List (TypeId×FuncId)) (x:Bo) (args:List Bo)
 deriving Inhabited
abbrev wv (o:Option V) (k:V->Prop):Prop:=match o with|some v=>k v|none=>False
@[simp] theorem E5 (v:V) (k:V->Prop):wv (some v) k=k v:=rfl
@[simp] theorem ABh (k:V->Prop):wv none k=False:=rfl
def bits (op:BinOp) (k:IntKind) (x y:Int):Int:=
 let a:=BitVec.ofInt k.bits x
 let b:=BitVec.ofInt k.bits y
 k.wrap (match op with
  | .and=>a&&&b
  | .or=>a|||b
  | .xor=>a ^^^ b
  | _=>a&&& ~~~b:BitVec k.bits).toNat
def Vm (op:BinOp) (x y:V) (k:V->Prop):Prop:=
 match x,y with
 | .i ka a,.i kb b=>
   match op with
   | .add=>ka=kb/\k (.i ka (ka.wrap (a+b)))
   | .sub=>ka=kb/\k (.i ka (ka.wrap (a - b)))
   | .mul=>ka=kb/\k (.i ka (ka.wrap (a*b)))
   | .quo=>ka=kb/\b≠0/\k (.i ka (ka.wrap (a.tdiv b)))
   | .rem=>ka=kb/\b≠0/\k (.i ka (a.tmod b))
   | .eql=>ka=kb/\k (.b (a==b))
   | .neq=>ka=kb/\k (.b (a != b))
   | .lss=>ka=kb/\k (.b (decide (a<b)))
   | .leq=>ka=kb/\k (.b (decide (a<=b)))
   | .gtr=>ka=kb/\k (.b (decide (a > b)))
   | .geq=>ka=kb/\k (.b (decide (a≥b)))
   | .shl=>0<=b/\k (.i ka (ka.wrap (a*2 ^ (min b.toNat ka.bits))))
   | .shr=>0<=b/\k (.i ka (a.fdiv (2 ^ (min b.toNat ka.bits))))
   | op=>ka=kb/\k (.i ka (bits op ka a b))
 | _,_=>False
def cellsOf:V->Option (List V)
 | .a cs=>some cs
 | .t _=>none
 | .any=>none
 | v=>some [v]
def CN:V->Bool
 | .a _=>false
 | .t _=>false
 | .any=>false
 | _=>true
def putAt:List V->Nat->List V->List V
 | cs,_,[]=>cs
 | cs,o,v::vs=>putAt (cs.set o v) (o+1) vs
def K0 (env:Env):List V->List (Nat×Nat×Bo)->Option (List V)
 | cs,[]=>some cs
 | cs,(off,sz,x)::r=>
   match ev env x with
   | some v=>match cellsOf v with
     | some vc=>bif Nat.beq vc.length sz&&Nat.ble (off+sz) cs.length then K0 env (putAt cs off vc) r else none
     | none=>none
   | none=>none
def Jj (env:Env) (sz:Nat):List (List V)->List (Nat×Bo)->Option (List (List V))
 | es,[]=>some es
 | es,(i,x)::r=>
   match ev env x with
   | some v=>match cellsOf v with
     | some vc=>bif Nat.beq vc.length sz&&Nat.blt i es.length then Jj env sz (es.set i vc) r else none
     | none=>none
   | none=>none
def cut (agg:Option Nat) (cs:List V) (off:Nat) (k:V->Prop):Prop:=
 match agg with
 | none=>match cs[off]? with|some v=>k v|none=>False
 | some n=>off+n<=cs.length/\k (.a ((cs.drop off).take n))
def P6 (Z:AE) (n off:Nat) (agg:Option Nat) (k:V->Prop):Prop:=
 match Z n with
 | some (.cs vs)=>cut agg vs off k
 | _=>False
def P7 (Z:AE) (n sz i off:Nat) (agg:Option Nat) (k:V->Prop):Prop:=
 match Z n with
 | some (.arr sz' es _)=>sz=sz'/\match es[i]? with|some e=>cut agg e off k|none=>False
 | _=>False
def AT (Z:AE) (agg:Option Nat) (x:V) (k:V->Prop):Prop:=
 match x with
 | .rp cs=>cut agg cs 0 k
 | .p n off=>P6 Z n off agg k
 | .pe n sz i off=>P7 Z n sz i off agg k
 | _=>False
def AR (Z:AE) (sz:Nat) (a x:V) (k:AE->Prop):Prop:=
 match cellsOf x with
 | some vc=>
   vc.length=sz/\vc.all CN=true/\match a with
   | .p n off=>match Z n with
     | some (.cs vs)=>off+sz<=vs.length/\k (B5 Z n (.cs (putAt vs off vc)))
     | _=>False
   | .pe n s i off=>match Z n with
     | some (.arr s' es cap)=>s=s'/\match es[i]? with
       | some e=>off+sz<=s/\k (B5 Z n (.arr s (es.set i (putAt e off vc)) cap))
       | none=>False
     | _=>False
   | _=>False
 | none=>False
def LI (off:Nat) (x:V) (k:V->Prop):Prop:=
 match x with
 | .rp cs=>k (.rp (cs.drop off))
 | .p n o=>k (.p n (o+off))
 | .pe n sz i o=>k (.pe n sz i (o+off))
 | _=>False
def AQ (sz:Nat) (arr:Option Nat) (x i:V) (k:V->Prop):Prop:=
 match i with
 | .i _ j=>match arr,x with
   | none,.l es _=>0<=j/\ ∃e,es[j.toNat]? =some e/\e.length=sz/\k (.rp e)
   | none,.sl n len _=>0<=j/\j<len/\k (.pe n sz j.toNat 0)
   | none,.sv n s off len=>s=sz/\0<=j/\j<len/\k (.pe n sz (off+j.toNat) 0)
   | some m,.rp cs=>0<=j/\j<m/\k (.rp (cs.drop (j.toNat*sz)))
   | some m,.p n o=>0<=j/\j<m/\k (.p n (o+j.toNat*sz))
   | some m,.pe n s q o=>0<=j/\j<m/\k (.pe n s q (o+j.toNat*sz))
   | _,_=>False
 | _=>False
def LH (len sz:Nat) (agg:Option Nat) (x i:V) (k:V->Prop):Prop:=
 match x,i with
 | .a cs,.i _ j=>0<=j/\j<len/\cut agg cs (j.toNat*sz) k
 | _,_=>False
def QA (x i:V) (k:V->Prop):Prop:=
 match x,i with
 | .s b,.i _ j=>0<=j/\match b.data.toList[j.toNat]? with|some c=>k (.i .u8 c.toNat)|none=>False
 | _,_=>False
def As (x:V) (k:V->Prop):Prop:=
 match x with
 | .l es _=>k (.i .i64 es.length)
 | .sl _ len _=>len<=Ae/\k (.i .i64 len)
 | .sv _ _ _ len=>len<=Ae/\k (.i .i64 len)
 | _=>False
def Kv (Z:AE) (x:V) (k:V->Prop):Prop:=
 match x with
 | .m n=>match Z n with
   | some (.map kvs)=>kvs.length<=Ae/\k (.i .i64 kvs.length)
   | _=>False
 | .mn=>k (.i .i64 0)
 | _=>False
def rowsOf (Z:AE) (sz:Nat) (y:V) (k:List (List V)->Prop):Prop:=
 match y with
 | .l ys _=>(∀e∈ys,e.length=sz)/\k ys
 | .sl m len _=>match Z m with
   | some (.arr s ys _)=>s=sz/\len<=ys.length/\k (ys.take len)
   | _=>False
 | .sv m s off len=>match Z m with
   | some (.arr s' ys _)=>s=sz/\s'=sz/\off+len<=ys.length/\k ((ys.drop off).take len)
   | _=>False
 | _=>False
def FQ:List (List V)->Option (List Int)
 | []=>some []
 | [.i .u8 n]::r=>match FQ r with|some l=>some (n::l)|none=>none
 | _=>none
def gu (Z:AE) (x:V) (k:V->Prop):Prop:=rowsOf Z 1 x fun ys=>match FQ ys with|some ns=>k (.s ⟨(ns.map fun n=>UInt8.ofNat n.toNat).toArray⟩)|none=>False
def AL (b : Nat) (Z:AE) (sz:Nat) (x y:V) (k:V->AE->Prop):Prop:=
 rowsOf Z sz y fun ys=>
 (∀e∈ys,∀v∈e,CN v=true)/\match x with
 | .l es full=>(∀e∈es,e.length=sz)/\(es.length+ys.length<=Ae/\(es.length+ys.length)*b<=140737488355328)/\(ys= []->k (.l es full) Z)/\
  (ys≠[]->full=true/\ ∀n cap,Z n=none->es.length+ys.length<=cap->k (.sl n (es.length+ys.length) cap) (B5 Z n (.arr sz (es++ys) cap)))
 | .sl n len cap=>match Z n with
   | some (.arr s es c)=>s=sz/\c=cap/\len=es.length/\(es.length+ys.length<=Ae/\(es.length+ys.length)*b<=140737488355328)/\
    ∀ n' cap',del Z n n'=none->es.length+ys.length<=cap'->
      k (.sl n' (es.length+ys.length) cap') (B5 (del Z n) n' (.arr sz (es++ys) cap'))
   | _=>False
 | _=>False
def Pz (Z:AE) (sz:Nat) (ys:List (List V)) (n off len:Nat) (k:V->AE->Prop):Prop:=
 match Z n with
 | some (.arr s es c)=>s=sz/\off+len<=es.length/\k (.i .i64 (min ys.length len:Nat)) (B5 Z n (.arr s (es.take off++(ys.take (min ys.length len)++es.drop (off+min ys.length len))) c))
 | _=>False
def AW (Z:AE) (sz:Nat) (x y:V) (k:V->AE->Prop):Prop:=
 rowsOf Z sz y fun ys=>(∀e∈ys,∀v∈e,CN v=true)/\match x with
 | .sl n len _=>Pz Z sz ys n 0 len k
 | .sv n s off len=>s=sz/\Pz Z sz ys n off len k
 | _=>False
def AX (b:Nat) (Z:AE) (sz:Nat) (x y:V) (k:V->Prop):Prop:=
 rowsOf Z sz y fun ys=>
 (∀e∈ys,∀v∈e,CN v=true)/\match x with
 | .l es full=>(∀e∈es,e.length=sz)/\(es.length+ys.length<=Ae/\(es.length+ys.length)*b<=140737488355328)/\(ys≠[]->full=true)/\k (.l (es++ys) false)
 | _=>False
def O7 (o:Option V) (d:Int) (k:Int->Prop):Prop:=
 match o with
 | none=>k d
 | some (.i _ n)=>k n
 | _=>False
def AP (Z:AE) (sz:Nat) (x:V) (lo hi mx:Option V) (k:V->AE->Prop):Prop:=
 match x with
 | .l es full=>(∀e∈es,e.length=sz)/\O7 hi es.length fun h=>O7 lo 0 fun l=>0<=l/\l<=h/\h<=es.length/\
  match mx with
  | none=>k (.l ((es.take h.toNat).drop l.toNat) (full&&decide (h=es.length))) Z
  | some (.i _ m)=>m=h/\k (.l ((es.take h.toNat).drop l.toNat) true) Z
  | _=>False
 | .sl n len cap=>O7 hi len fun h=>O7 lo 0 fun l=>0<=l/\l<=h/\h<=len/\
  match mx with
  | none=>k (.sv n sz l.toNat (h - l).toNat) Z
  | some (.i _ m)=>m=h/\h=len/\l=0/\match Z n with
    | some (.arr s es c)=>s=sz/\c=cap/\len=es.length/\(k (.l es true) (del Z n)\/k (.sl n len len) (B5 Z n (.arr s es len)))
    | _=>False
  | _=>False
 | .sv n s off len=>O7 hi len fun h=>O7 lo 0 fun l=>0<=l/\l<=h/\h<=len/\s=sz/\mx=none/\k (.sv n sz (off+l.toNat) (h - l).toNat) Z
 | _=>False
def H3 (env:Env):Option Bo->Option (Option V)
 | none=>some none
 | some x=>match ev env x with|some v=>some (some v)|none=>none
abbrev wo (o:Option (Option V)) (k:Option V->Prop):Prop:=match o with|some v=>k v|none=>False
@[simp] theorem aX (v:Option V) (k:Option V->Prop):wo (some v) k=k v:=rfl
abbrev ws (o:Option (List V)) (k:List V->Prop):Prop:=match o with|some v=>k v|none=>False
@[simp] theorem ABi (v:List V) (k:List V->Prop):ws (some v) k=k v:=rfl
abbrev wr (o:Option (List (List V))) (k:List (List V)->Prop):Prop:=match o with|some v=>k v|none=>False
@[simp] theorem ABj (v:List (List V)) (k:List (List V)->Prop):wr (some v) k=k v:=rfl
def Bw:List V->List V->Option Bool
 | [],[]=>some true
 | .i k a::r,.i k' b::s=>if k=k' then(Bw r s).map ((a==b)&& ·)else none
 | _,_=>none
def UD (len:Nat) (neg:Bool) (x y:V) (k:V->Prop):Prop:=
 match x,y with
 | .a cs,.a ds=>match Nat.beq cs.length len,Bw cs ds with|true,some t=>k (.b (bif neg then !t else t))|_,_=>False
 | _,_=>False
def JZ (kind:Nat) (neg:Bool) (x:V) (k:V->Prop):Prop:=
 match kind,x with
 | 0,.pn=>k (.b (!neg))
 | 0,.rp _|0,.p _ _|0,.pe _ _ _ _=>k (.b neg)
 | 1,.sl _ _ _=>k (.b neg)
 | 1,.l es _=>(es= []-> ∀t,k (.b t))/\(es≠[]->k (.b neg))
 | 2,.Dv=>k (.b (!neg))
 | 2,.FF _ _=>k (.b neg)
 | 3,.mn=>k (.b (!neg))
 | 3,.m _=>k (.b neg)
 | 4,.Lx=>k (.b (!neg))
 | 4,.f _ _ _=>k (.b neg)
 | _,_=>False
def AJ (Z:AE) (sz:Nat) (z:List V) (x y:V) (k:V->AE->Prop):Prop:=
 match x,y with
 | .i _ n,.i _ m=>0<=n/\n<=m/\m<=1073741824/\ ∀id,Z id=none->k (.sl id n.toNat m.toNat) (B5 Z id (.arr sz (List.replicate n.toNat z) m.toNat))
 | _,_=>False
def Dn:List IntKind->List V->Bool
 | [],[]=>true
 | q::l,.i q' _::cs=>decide (q=q')&&Dn l cs
 | _,_=>false
def BV (ks:KS) (v:V):Bool:=
 match ks,v with
 | .i k,.i k' _=>decide (k=k')
 | .a l,.a cs=>Dn l cs
 | .s,.s b=>Nat.ble b.size 1048576
 | _,_=>false
def Dz (x y:V):Bool:=
 match x,y with
 | .i _ a,.i _ b=>a==b
 | .s b,.s c=>decide (b=c)
 | .a cs,.a ds=>(Bw cs ds).getD false
 | _,_=>false
def Co (key:V):List (V×V)->Option V
 | []=>none
 | (k,v)::r=>bif Dz key k then some v else Co key r
def Da (key val:V):List (V×V)->List (V×V)
 | []=>[(key,val)]
 | (k,v)::r=>bif Dz key k then(key,val)::r else(k,v)::Da key val r
def found (z:V) (ok:Bool) (o:Option V):V:=match o with|some v=>bif ok then .t [v,.b true]else v|none=>bif ok then .t [z,.b false]else z
def AM (Z:AE) (ks:KS) (z:V) (ok:Bool) (vm vk:V) (k:V->Prop):Prop:=
 BV ks vk=true/\match vm with
 | .m n=>match Z n with
   | some (.map kvs)=>(∀kv∈kvs,BV ks kv.1=true)/\k (found z ok (Co vk kvs))
   | _=>False
 | .mn=>k (found z ok none)
 | _=>False
def AN (Z:AE) (ks:KS) (vm vk vv:V) (k:AE->Prop):Prop:=
 BV ks vk=true/\match vm with
 | .m n=>match Z n with
   | some (.map kvs)=>(∀kv∈kvs,BV ks kv.1=true)/\k (B5 Z n (.map (Da vk vv kvs)))
   | _=>False
 | _=>False
inductive R where
 | ret (v:V)
 | Bh (v:V)
def Vz (H:Nat->Nat->Option Value):R->Ending->Prop
 | .ret v,e=> ∃c,e= .returned c/\Af H v c
 | .Bh v,e=> ∃c,e= .panicked [{v:=c,recovered:=false}]/\Af H v c
def okF (P:Program) (f:FuncId):Bool:=
 match P.funcs[f]? with
 | some fn=>fn.body.isSome&&fn.name != "runtime.NumGoroutine"
 | none=>false
def gY (H:Nat->Nat->Option Value) (vs:List V) (cs:Array Value):Prop:=cs.size=vs.length/\Ba H (fun i=>cs[i]?) 0 vs
def Ar (P:Program) (f:FuncId) (args:List V) (Z:AE) (Q:R->AE->Prop):Prop:=
 okF P f=true/\ ∀(F:Nat->Prop) (w:World) (cs:Array Value),Rel F Z w->gY (Hh F Z w) args cs->
  Calls P f cs w fun e w'=> ∃r Z',Q r Z'/\Vz (Hh F Z' w') r e/\Rel F Z' w'/\B9 F Z w Z' w'
def L2 (P:Program) (l:Nat) (args:List V) (Z:AE) (Q:R->AE->Prop):Prop:=
 ∀ (F:Nat->Prop) (w:World) (cs:Array Value),Rel F Z w->gY (Hh F Z w) args cs->
   ∃ f tmps assign body,(Instr.yield l cs).run P w= .ok (.round l f tmps assign body) w/\
     RoundIn Fence.wide 0 P l f tmps assign body w fun e w'=> ∃r Z',Q r Z'/\Vz (Hh F Z' w') r e/\Rel F Z' w'/\B9 F Z w Z' w'
def Am (P:Program) (x:V) (args:List V) (Z:AE) (Q:R->AE->Prop):Prop:=
 match x with
 | .f (.func f) first cap=>Ar P f (first++args++cap) Z Q
 | .f (.yield l) [] []=>L2 P l args Z Q
 | _=>False
def look (t:TypeId):List (TypeId×FuncId)->Option FuncId
 | []=>none
 | (u,f)::r=>bif Nat.beq u t then some f else look t r
def Av (P:Program) (tab:List (TypeId×FuncId)) (x:V) (args:List V) (Z:AE) (Q:R->AE->Prop):Prop:=
 match x with
 | .FF t v=>match look t tab with
   | some f=>Ar P f (v::args) Z Q
   | none=>False
 | _=>False
def qk (k kp:V->AE->Prop):R->AE->Prop
 | .ret v,Z=>k v Z
 | .Bh v,Z=>kp v Z
def Fc (P:Program) (o:F6) (env:Env) (Z:AE) (k kp:V->AE->Prop):Prop:=
 match o with
 | .mv x=>wv (ev env x) fun v=>k v Z
 | .nk x=>wv (ev env x) fun v=> ∃vf Z2,Sub Z2 Z/\GD Z Z2 v vf/\k vf Z2
 | .pick c a b=>wv (ev env c) fun vc=>wv (ev env a) fun va=>wv (ev env b) fun vb=>
  match vc with| .b t=>(match va,vb with| .b x,.b y=>k (.b (bif t then x else y)) Z|_,_=>k (bif t then va else vb) Z)|_=>False
 | .bin op x y=>wv (ev env x) fun vx=>wv (ev env y) fun vy=>Vm op vx vy fun v=>k v Z
 | .nu neg x y=>wv (ev env x) fun vx=>wv (ev env y) fun vy=>
  match vx,vy with| .b p,.b q=>k (.b (bif neg then p != q else p==q)) Z|_,_=>False
 | .not x=>wv (ev env x) fun vx=>match vx with| .b p=>k (.b (!p)) Z|_=>False
 | .neg xor x=>wv (ev env x) fun vx=>match vx with
  | .i ka a=>k (.i ka (bif xor then bits .xor ka (bif ka.signed then -1 else ka.max) a else ka.wrap (0 - a))) Z
  | _=>False
 | .conv ka x=>wv (ev env x) fun vx=>match vx with| .i _ a=>k (.i ka (ka.wrap a)) Z|_=>False
 | .box x=>wv (ev env x) fun vx=>match cellsOf vx with
  | some cs=> ∀n,Z n=none->k (.p n 0) (B5 Z n (.cs cs))
  | none=>False
 | .PF x=>wv (ev env x) fun vx=>match cellsOf vx with
  | some cs=>k (.rp cs) Z
  | none=>False
 | .SS sz b x y=>wv (ev env x) fun vx=>wv (ev env y) fun vy=>AX b Z sz vx vy fun v=>k v Z
 | .alloc z=> ∀n,Z n=none->k (.p n 0) (B5 Z n (.cs z))
 | .build z parts=>ws (K0 env z parts) fun cs=>k (.a cs) Z
 | .Hi _ len z parts=>wr (Jj env z.length (List.replicate len z) parts) fun es=>k (.l es true) Z
 | .load agg x=>wv (ev env x) fun vx=>AT Z agg vx fun v=>k v Z
 | .store sz a x=>wv (ev env a) fun va=>wv (ev env x) fun vx=>AR Z sz va vx fun Z'=>k (.t []) Z'
 | .F9 off x=>wv (ev env x) fun vx=>LI off vx fun v=>k v Z
 | .field agg off x=>wv (ev env x) fun vx=>match vx with| .a cs=>cut agg cs off fun v=>k v Z|_=>False
 | .L4 sz arr x i=>wv (ev env x) fun vx=>wv (ev env i) fun vi=>AQ sz arr vx vi fun v=>k v Z
 | .index len sz agg x i=>wv (ev env x) fun vx=>wv (ev env i) fun vi=>LH len sz agg vx vi fun v=>k v Z
 | .slice sz x lo hi mx=>wv (ev env x) fun vx=>wo (H3 env lo) fun l=>wo (H3 env hi) fun h=>wo (H3 env mx) fun m=>AP Z sz vx l h m k
 | .len x=>wv (ev env x) fun vx=>As vx fun v=>k v Z
 | .UC x=>wv (ev env x) fun vx=>Kv Z vx fun v=>k v Z
 | .Vd x i=>wv (ev env x) fun vx=>wv (ev env i) fun vi=>QA vx vi fun v=>k v Z
 | .str x=>wv (ev env x) fun vx=>gu Z vx fun v=>k v Z
 | .append sz b x y=>wv (ev env x) fun vx=>wv (ev env y) fun vy=>AL b Z sz vx vy k
 | .copy sz x y=>wv (ev env x) fun vx=>wv (ev env y) fun vy=>AW Z sz vx vy k
 | .Vi x y=>wv (ev env x) fun vx=>wv (ev env y) fun vy=>match vx,vy with
  | .i ka a,.i kb b=>ka=kb/\k (.i ka (if b > a then b else a)) Z
  | _,_=>False
 | .Vh x y=>wv (ev env x) fun vx=>wv (ev env y) fun vy=>match vx,vy with
  | .i ka a,.i kb b=>ka=kb/\k (.i ka (if b<a then b else a)) Z
  | _,_=>False
 | .extract i x=>wv (ev env x) fun vx=>match vx with| .t vs=>(match vs[i]? with|some v=>k v Z|none=>False)|_=>False
 | .JA x=>wv (ev env x) fun vx=>match vx with
  | .p n off=>k (.p n off) Z
  | .rp cs=>k (.rp cs) Z
  | .pe n sz i off=>k (.pe n sz i off) Z
  | .f (.func f) first cap=>k (.f (.func f) first cap) Z
  | .f (.yield l) first cap=>k (.f (.yield l) first cap) Z
  | _=>False
 | .gK f first cap=>ws (VZ env first) fun vf=>ws (VZ env cap) fun vc=>k (.f f vf vc) Z
 | .OY t x=>wv (ev env x) fun vx=>k (.FF t vx) Z
 | .gI t z ok x=>wv (ev env x) fun vx=>match vx with
  | .FF t' v=>(t'=t->k (bif ok then .t [v,.b true]else v) Z)/\(t'≠t->ok=true/\k (.t [z,.b false]) Z)
  | .Dv=>ok=true/\k (.t [z,.b false]) Z
  | _=>False
 | .panic x=>wv (ev env x) fun vx=>match vx with| .FF t v=>kp (.FF t v) Z|_=>False
 | .call f args=>ws (VZ env args) fun vs=>Ar P f vs Z (qk k kp)
 | .nt len neg x y=>wv (ev env x) fun vx=>wv (ev env y) fun vy=>UD len neg vx vy fun v=>k v Z
 | .gO kind neg x=>wv (ev env x) fun vx=>JZ kind neg vx fun v=>k v Z
 | .GJ sz _ z x y=>wv (ev env x) fun vx=>wv (ev env y) fun vy=>AJ Z sz z vx vy k
 | .OX=> ∀n,Z n=none->k (.m n) (B5 Z n (.map []))
 | .lookup ks z ok m key=>wv (ev env m) fun vm=>wv (ev env key) fun vk=>AM Z ks z ok vm vk fun v=>k v Z
 | .Ed ks m key x=>wv (ev env m) fun vm=>wv (ev env key) fun vk=>wv (ev env x) fun vx=>AN Z ks vm vk vx fun Z'=>k (.t []) Z'
 | .L8 f args=>ws (VZ env args) fun vs=> ∃v,Ar P f vs (fun _=>none) (fun r Z'=>r= .ret v/\Z'=fun _=>none)/\k v Z
 | .Jm x args=>wv (ev env x) fun vx=>ws (VZ env args) fun vs=>Am P vx vs Z (qk k kp)
 | .inv tab x args=>wv (ev env x) fun vx=>ws (VZ env args) fun vs=>Av P tab vx vs Z (qk k kp)
 | _=>False
end Go.Gl
namespace Go.Gl
def Bg {H:Nat->Nat->Option Value} {g:Nat->Option Value}: ∀ {vs:List V} {o:Nat},
    Ba H g o vs↔ ∀i v,vs[i]? =some v-> ∃c,g (o+i)=some c/\Af H v c
 | [],o=>by simp[Ba]
 | v ::vs,o=>by
   simp only[Ba];rw[Bg (vs:=vs) (o:=o+1)];constructor
   .rintro⟨h1,h2⟩ i u hu
    cases i with
    | zero=>simp at hu;subst hu;simpa using h1
    | succ i=>
      obtain⟨c,hc,hr⟩:=h2 i u (by simpa using hu);exact⟨c,by rw[<-hc];congr 1;omega,hr⟩
   .intro h
    refine⟨by simpa using h 0 v rfl,fun i u hu=>?_⟩;obtain⟨c,hc,hr⟩:=h (i+1) u (by simpa using hu);exact⟨c,by rw[<-hc];congr 1;omega,hr⟩
def BG {H:Nat->Nat->Option Value} {g:Nat->Option Value} {sz:Nat}: ∀ {es:List (List V)} {o:Nat},
    BJ H g sz o es↔ ∀i e,es[i]? =some e->e.length=sz/\Ba H g (o+i*sz) e
 | [],o=>by simp[BJ]
 | v ::vs,o=>by
   simp only[BJ];rw[BG (es:=vs) (o:=o+sz)];constructor
   .rintro⟨h1,h2,h3⟩ i u hu
    cases i with
    | zero=>simp at hu;subst hu;exact⟨h1,by simpa using h2⟩
    | succ i=>
      obtain⟨h4,h5⟩:=h3 i u (by simpa using hu);refine⟨h4,?_⟩;rw[show o+(i+1)*sz=o+sz+i*sz by rw[Nat.add_mul];omega];exact h5
   .intro h
    have h0:=h 0 v rfl;refine⟨h0.1,by simpa using h0.2,fun i u hu=>?_⟩;obtain⟨h4,h5⟩:=h (i+1) u (by simpa using hu);refine⟨h4,?_⟩;rw[show o+sz+i*sz=o+(i+1)*sz by rw[Nat.add_mul];omega];exact h5
def BE {H:Nat->Nat->Option Value} {g g':Nat->Option Value} {o o':Nat} {vs:List V} (h:Ba H g o vs) (hg: ∀i,i<vs.length->g' (o'+i)=g (o+i)):Ba H g' o' vs:=by
 rw[Bg]at *;intro i v hv;obtain⟨c,hc,hr⟩:=h i v hv;exact⟨c,by rw[hg i (by rw[JT]at hv;exact hv.1)];exact hc,hr⟩
def KO {H:Nat->Nat->Option Value} {g:Nat->Option Value} {o:Nat} {vs:List V} (h:Ba H g o vs) (n:Nat):Ba H g (o+n) (vs.drop n):=by
 rw[Bg]at *;intro i v hv;rw[nU]at hv;obtain⟨c,hc,hr⟩:=h (n+i) v hv;exact⟨c,by rw[<-hc];congr 1;omega,hr⟩
def Sw {H:Nat->Nat->Option Value} {g:Nat->Option Value} {o:Nat} {vs:List V} (h:Ba H g o vs) (n:Nat):Ba H g o (vs.take n):=by
 rw[Bg]at *;intro i v hv;rw[List.getElem?_take]at hv;split at hv
 .exact h i v hv
 .cases hv
def Oh {H:Nat->Nat->Option Value} {g:Nat->Option Value} {o:Nat} {vs us:List V} (h:Ba H g o vs) (k:Ba H g (o+vs.length) us):Ba H g o (vs++us):=by
 rw[Bg]at *;intro i v hv;rw[List.getElem?_append]at hv;split at hv
 .exact h i v hv
 .obtain⟨c,hc,hr⟩:=k _ v hv
  exact⟨c,by rw[<-hc];congr 1;omega,hr⟩
def Rel.lt {F:Nat->Prop} {Z:AE} {w:World} (h:Rel F Z w) {n:Nat} {o:O} (ho:Z n=some o):n<w.heap.size:=by
 obtain⟨_,ob,h2,_⟩:=h.own n o ho;rcases Nat.lt_or_ge n w.heap.size with h'|h'
 .exact h'
 .simp[Array.getElem?_eq_none h']at h2
def Rel.new {F:Nat->Prop} {Z:AE} {w:World} (h:Rel F Z w):Z w.heap.size=none:=by
 cases h':Z w.heap.size with
 | none=>rfl
 | some o=>exact absurd (h.lt h') (Nat.lt_irrefl _)
def Rel.step {F:Nat->Prop} {Z Z':AE} {w w':World} (h:Rel F Z w) (ha:B9 F Z w Z' w')
    (hn: ∀n o,Z' n=some o->(Z n=some o/\w'.heap[n]? =w.heap[n]?)\/(¬F n/\ ∃ob,w'.heap[n]? =some ob/\P5 (Hh F Z' w') o ob)):Rel F Z' w' where
 own n o ho:=by
  rcases hn n o ho with⟨h1,h2⟩|h1
  .obtain⟨h3,ob,h4,h5⟩:=h.own n o h1
   exact⟨h3,ob,h2.trans h4,h5.mono ha.hle⟩
  .exact h1
 lock n hl:=Nat.lt_of_lt_of_le (h.lock n hl) ha.size
def DO (Z:AE) (n:Nat) (o:O):B5 Z n o n=some o:=by simp[B5]
def Cn (Z:AE) {n m:Nat} (o:O) (h:m≠n):B5 Z n o m=Z m:=by simp[B5,h]
def Df (Z:AE) (n:Nat):del Z n n=none:=by simp[del]
def Hc (Z:AE) {n m:Nat} (h:m≠n):del Z n m=Z m:=by simp[del,h]
def GF (Z:AE) (n:Nat):Sub (del Z n) Z:=by
 intro m o h;unfold del at h;split at h
 .cases h
 .exact h
def EG {F:Nat->Prop} {Z:AE} {w:World} (o:O) (ob:Obj):B9 F Z w (B5 Z w.heap.size o) (w.alloc ob) where
 frame n hn _:=RowKit.Below.heap_alloc _ _ _ hn
 size:=by simp
 os:=rfl
 tape:=rfl
 output:=rfl
 names n h0 hn:=by rw[Cn _ _ (by omega)];exact h0
def IQ {F:Nat->Prop} {Z:AE} {w:World} (h:Rel F Z w) {o:O} {ob:Obj} (ho:P5 (Hh F Z w) o ob):Rel F (B5 Z w.heap.size o) (w.alloc ob):=
 h.step (EG o ob) fun n o' hn=>by
  by_cases e:n=w.heap.size
  .subst e
   rw[DO]at hn;cases hn;exact .inr ⟨fun hl=>absurd (h.lock _ hl) (Nat.lt_irrefl _),ob,heap_alloc_new _ _,ho.mono (EG o ob).hle⟩
  .rw[Cn _ _ e]at hn
   exact .inl ⟨hn,RowKit.Below.heap_alloc _ _ _ (h.lt hn)⟩
def I2 {F:Nat->Prop} {Z:AE} (w:World) (ob:Obj):B9 F Z w Z (w.alloc ob) where
 frame n hn _:=RowKit.Below.heap_alloc _ _ _ hn
 size:=by simp
 os:=rfl
 tape:=rfl
 output:=rfl
 names n h0 _:=h0
def LW {F:Nat->Prop} {Z:AE} {w:World} (h:Rel F Z w) (ob:Obj):Rel F Z (w.alloc ob):=
 h.step (I2 w ob) fun _ _ hn=> .inl ⟨hn,RowKit.Below.heap_alloc _ _ _ (h.lt hn)⟩
def Cf (w:World) (n:Nat) (ob:Obj):World:={w with heap:=w.heap.setIfInBounds n ob}
def Oj {w:World} {n:Nat} {ob:Obj} (h:n<w.heap.size):(Cf w n ob).heap[n]? =some ob:=by
 simp[Cf,h]
def S7 {w:World} {n m:Nat} {ob:Obj} (h:m≠n):(Cf w n ob).heap[m]? =w.heap[m]? :=by
 simp only[Cf];rw[Array.getElem?_setIfInBounds_ne (Ne.symm h)]
@[simp] theorem sc (w:World) (n:Nat) (ob:Obj):(Cf w n ob).heap.size=w.heap.size:=by simp[Cf]
def HI {F:Nat->Prop} {Z:AE} {w:World} {n:Nat} {o:O} (hn:Z n=some o) (o':O) (ob:Obj):B9 F Z w (B5 Z n o') (Cf w n ob) where
 frame m _ h0:=S7 (fun e=>by rw[e,hn]at h0;cases h0)
 size:=by simp
 os:=rfl
 tape:=rfl
 output:=rfl
 names m h0 _:=by rw[Cn _ _ (fun e=>by rw[e,hn]at h0;cases h0)];exact h0
def J9 {F:Nat->Prop} {Z:AE} {w:World} (h:Rel F Z w) {n:Nat} {o o':O} {ob:Obj} (hn:Z n=some o) (ho:P5 (Hh F Z w) o' ob):Rel F (B5 Z n o') (Cf w n ob):=
 h.step (HI hn o' ob) fun m o'' hm=>by
  by_cases e:m=n
  .subst e
   rw[DO]at hm;cases hm;exact .inr ⟨(h.own _ _ hn).1,ob,Oj (h.lt hn),ho.mono (HI hn o' ob).hle⟩
  .rw[Cn _ _ e]at hm
   exact .inl ⟨hm,S7 e⟩
def Y3 {w:World} {n:Nat} {ob:Obj} (h:w.heap[n]? =some ob):n<w.heap.size:=by
 rcases Nat.lt_or_ge n w.heap.size with h'|h'
 .exact h'
 .simp[Array.getElem?_eq_none h']at h
def setCell_eq {w:World} {n i:Nat} {c:Array Value} {e:TypeId} (h:w.heap[n]? =some (.cells c e (0,0))) (v:Value) :
    w.setCell ⟨n,i,none⟩ v=Cf w n (.cells (c.setIfInBounds i v) e (0,0)):=by
 unfold World.setCell Cf;congr 1;apply Array.ext_getElem?;intro j;by_cases hj:n=j
 .subst hj
  rw[Array.getElem?_modify,if_pos rfl,Array.getElem?_setIfInBounds_self_of_lt (Y3 h),h];rfl
 .rw[Array.getElem?_modify,if_neg hj,Array.getElem?_setIfInBounds_ne hj]
def Dg {w:World} {n i:Nat} {c:Array Value} {e:TypeId} {fr:Nat×Nat} (h:w.heap[n]? =some (.cells c e fr)):w.cell? ⟨n,i,none⟩=c[i]? :=
 cell_of_row w n i c e fr h
def Ro {w:World} {n i:Nat} {c:Array Value} {e:TypeId} (h:w.heap[n]? =some (.cells c e (0,0))):w.frozen? ⟨n,i,none⟩=false:=
 frozen_of_row w n i c e h
def Cx (n o i:Nat):(⟨n,o,none⟩:Addr).add i=⟨n,o+i,none⟩:=by
 unfold Addr.add;split
 .subst_vars;rfl
 .rfl
def DF:Array Value->Nat->List Value->Array Value
 | c,_,[]=>c
 | c,o,v::vs=>DF (c.setIfInBounds o v) (o+1) vs
def D8: ∀(vs:List Value) (c:Array Value) (o:Nat),(DF c o vs).size=c.size
 | [],_,_=>rfl
 | v::vs,c,o=>by simp only[DF];rw[D8 vs];simp
def di {w:World} {n:Nat} {ob:Obj} (h:w.heap[n]? =some ob):Cf w n ob=w:=by
 unfold Cf
 have:w.heap.setIfInBounds n ob=w.heap:=by
  apply Array.ext_getElem?;intro j;by_cases hj:n=j
  .subst hj
   rw[Array.getElem?_setIfInBounds_self_of_lt (Y3 h),h]
  .rw[Array.getElem?_setIfInBounds_ne hj]
 rw[this]
def SW (w:World) (n:Nat) (a b:Obj):Cf (Cf w n a) n b=Cf w n b:=by
 simp[Cf]
def Cy {P:Program} {n:Nat} {e:TypeId}: ∀(vs:List Value) (w:World) (c:Array Value) (o i:Nat),w.heap[n]? =some (.cells c e (0,0))->
    o+i+vs.length<=c.size->(∀v∈vs,v.oneCell'=true)->
    (storeCells ⟨n,o,none⟩ vs i).run P w= .ok () (Cf w n (.cells (DF c (o+i) vs) e (0,0)))
 | [],w,c,o,i,h,_,_=>by
   simp only[storeCells,Ey,DF];rw[di h]
 | v::vs,w,c,o,i,h,hl,hv=>by
   have hlt:o+i<c.size:=by simp at hl;omega
   have h1:w.cell? ⟨n,o+i,none⟩=some c[o+i]:=by rw[Dg h];rw[Array.getElem?_eq_getElem hlt]
   have hone:=hv v (by simp);simp only[storeCells,DX,Cx,run_store P w _ v _ hone,h1,Ro h,NM,if_false,Result.andThen];rw[setCell_eq h];rw[Cy vs _ (c.setIfInBounds (o+i) v) o (i+1) (Oj (Y3 h)) (by simp at hl ⊢;omega) (fun u hu=>hv u (by simp[hu]))];rw[SW];rfl
end Go.Gl
namespace Go.Gl
def oA:Value->Option V
 | .bool b=>some (.b b)
 | .int k n=>if k.min<=n/\n<=k.max then some (.i k n)else none
 | .string s=>some (.s s)
 | .pointer none=>some .pn
 | .slice none 0 0=>some (.l [] true)
 | .map none=>some .mn
 | .nilFunc=>some .Lx
 | .nilIface=>some .Dv
 | _=>none
def ga:List Value->Option (List V)
 | []=>some []
 | c::cs=>match oA c,ga cs with
   | some v,some vs=>some (v::vs)
   | _,_=>none
def sf:Value->Option V
 | .agg cs=>(ga cs.toList).map .a
 | .tuple cs=>if cs.size=0 then some (.t [])else none
 | c=>oA c
def BX:Operand->Option Bo
 | .tmp t=>some (.t t)
 | .const v=>(sf v).map .c
 | .func f=>some (.c (.f (.func f) [] []))
 | .global _=>none
def Kq:List Operand->Option (List Bo)
 | []=>some []
 | x::r=>match BX x,Kq r with
   | some v,some vs=>some (v::vs)
   | _,_=>none
def dC:Option Operand->Option (Option Bo)
 | none=>some none
 | some x=>(BX x).map some
def ES (P:Program) (t:TypeId):Option Nat:=(P.info? t).map (·.size)
def JH (P:Program) (t:TypeId):Option (Option Nat):=
 match P.underlying t with
 | some (.struct _)=>(ES P t).map some
 | some (.array _ _)=>(ES P t).map some
 | some _=>some none
 | none=>none
def zeroOf (P:Program) (t:TypeId):Option V:=(((P.info? t).bind (·.zero))).bind sf
def isInt (P:Program) (t:TypeId):Bool:=match P.underlying t with|some (.int _)=>true|_=>false
def isBool (P:Program) (t:TypeId):Bool:=match P.underlying t with|some .bool=>true|_=>false
def zx (P:Program) (op:BinOp) (t:TypeId) (x y:Bo):Option F6:=
 if isInt P t then some (.bin op x y)
 else if isBool P t then match op with
  | .eql=>some (.nu false x y)
  | .neq=>some (.nu true x y)
  | _=>none
 else none
def UM (fields:Array Field) (P:Program):List (Nat×Operand)->Option (List (Nat×Nat×Bo))
 | []=>some []
 | (i,x)::r=>match fields[i]?,BX x,UM fields P r with
   | some f,some o,some ps=>(ES P f.type).map fun s=>(f.offset,s,o)::ps
   | _,_,_=>none
def PU (sz:Nat):List (Nat×Operand)->Option (List (Nat×Nat×Bo))
 | []=>some []
 | (i,x)::r=>match BX x,PU sz r with
   | some o,some ps=>some ((i*sz,sz,o)::ps)
   | _,_=>none
def PT:List (Nat×Operand)->Option (List (Nat×Bo))
 | []=>some []
 | (i,x)::r=>match BX x,PT r with
   | some o,some ps=>some ((i,o)::ps)
   | _,_=>none
def LL:Option V->Option (List V)
 | some (.a cs)=>some cs
 | some (.t _)=>none
 | some .any=>none
 | some v=>some [v]
 | none=>none
def iK (P:Program) (c:Call):Option F6:=
 match c.callee,c.args.toList,c.argTypes.toList with
 | .builtin .len,[x],[t]=>match P.underlying t with
   | some (.slice _)=>(BX x).map .len
   | some (.map _ _)=>(BX x).map .UC
   | some (.array n _)=>if(n:Int)<=IntKind.i64.max then some (.mv (.c (.i .i64 n)))else none
   | _=>none
 | .builtin .append,[x,y],[t,u]=>match P.underlying t,P.underlying u with
   | some (.slice e),some (.slice _)=>match BX x,BX y,P.info? e with
     | some x',some y',some i=>if t=u/\i.bytes<=4096/\i.zero.map (fun z=>z.cells.size)=some i.size then some (.append i.size i.bytes x' y')else none
     | _,_,_=>none
   | _,_=>none
 | .builtin .max,[x,y],_=>match BX x,BX y with|some x',some y'=>some (.Vi x' y')|_,_=>none
 | .builtin .min,[x,y],_=>match BX x,BX y with|some x',some y'=>some (.Vh x' y')|_,_=>none
 | .value (.func f),_,_=>(Kq c.args.toList).map (.call f)
 | .value x,_,_=>match BX x,Kq c.args.toList with|some x',some as=>some (.Jm x' as)|_,_=>none
 | _,_,_=>none
def rOp (P:Program):Op->Option F6
 | .move x=>(BX x).map .mv
 | .assign x=>(BX x).map .mv
 | .pick c a b=>match BX c,BX a,BX b with|some c,some a,some b=>some (.pick c a b)|_,_,_=>none
 | .box _ x=>(BX x).map .box
 | .alloc e=>(LL (zeroOf P e)).map .alloc
 | .build t parts=>match LL (zeroOf P t),P.underlying t with
   | some z,some (.struct fields)=>if fields.toList.all (fun f=>(ES P f.type).isSome)then(UM fields P parts.toList).map (.build z)else none
   | some z,some (.array _ e)=>(ES P e).bind fun sz=>(PU sz parts.toList).map (.build z)
   | _,_=>none
 | .buildSlice t len parts=>match P.underlying t with
   | some (.slice e)=>match LL (zeroOf P e),ES P e with
     | some z,some sz=>if z.length=sz/\0<sz/\0<len/\len*sz<=2 ^ 24 then(PT parts.toList).map (.Hi sz len z)else none
     | _,_=>none
   | _=>none
 | .load t x=>match JH P t,BX x with|some a,some x=>some (.load a x)|_,_=>none
 | .store t a x=>match ES P t,BX a,BX x with|some s,some a,some x=>some (.store s a x)|_,_,_=>none
 | .binOp op t x y _=>match BX x,BX y with|some x,some y=>zx P op t x y|_,_=>none
 | .unOp .not _ x=>(BX x).map .not
 | .unOp .neg t x=>if isInt P t then(BX x).map (.neg false)else none
 | .unOp .xor t x=>if isInt P t then(BX x).map (.neg true)else none
 | .convert s d x=>match P.underlying s,P.underlying d with
   | some (.int _),some (.int k)=>(BX x).map (.conv k)
   | _,_=>none
 | .makeInterface t x=>match P.underlying t with
   | some (.interface _)=>none
   | some _=>(BX x).map (.OY t)
   | none=>none
 | .makeFunc (.func f) first cap=>match Kq first.toList,Kq cap.toList with|some a,some b=>some (.gK (.func f) a b)|_,_=>none
 | .slice t x lo hi mx=>match P.underlying t with
   | some (.slice e)=>match ES P e,BX x,dC lo,dC hi,dC mx with
     | some s,some x,some l,some h,some m=>if 0<s/\(m.isSome->h.isSome)then some (.slice s x l h m)else none
     | _,_,_,_,_=>none
   | _=>none
 | .fieldAddr s x f=>match P.underlying s with
   | some (.struct fields)=>match fields[f]? with
     | some fd=>match ES P fd.type with
       | some sz=>if sz=0 then none else(BX x).map (.F9 fd.offset)
       | none=>none
     | none=>none
   | _=>none
 | .field t x f=>match P.underlying t with
   | some (.struct fields)=>match fields[f]? with
     | some fd=>match JH P fd.type,BX x with|some a,some x=>some (.field a fd.offset x)|_,_=>none
     | none=>none
   | _=>none
 | .indexAddr t x i=>match P.underlying t with
   | some (.slice e)=>match ES P e,BX x,BX i with|some s,some x,some i=>some (.L4 s none x i)|_,_,_=>none
   | some (.array n e)=>match ES P e,BX x,BX i with|some s,some x,some i=>some (.L4 s (some n) x i)|_,_,_=>none
   | _=>none
 | .index t x i=>match P.underlying t with
   | some (.array n e)=>match ES P e,JH P e,BX x,BX i with|some s,some a,some x,some i=>some (.index n s a x i)|_,_,_,_=>none
   | _=>none
 | .extract x i=>(BX x).map (.extract i)
 | .nilCheck x=>(BX x).map .JA
 | .typeAssert x _ t ok=>match P.underlying t with
   | some (.interface _)=>none
   | some _=>match BX x,zeroOf P t with|some x,some z=>some (.gI t z ok x)|_,_=>none
   | none=>none
 | .panic x=>(BX x).map .panic
 | .call c=>iK P c
 | _=>none
def Cl (F:Nat->Prop) (Z:AE) (w:World) (k kp:V->AE->Prop):Result Value->Prop
 | .ok c w'=> ∃v Z',k v Z'/\Af (Hh F Z' w') v c/\Rel F Z' w'/\B9 F Z w Z' w'
 | .halt (.panic c) w'=> ∃v Z',kp v Z'/\Af (Hh F Z' w') v c/\Rel F Z' w'/\B9 F Z w Z' w'
 | _=>False
def Good (P:Program) (F:Nat->Prop) (Z:AE) (w:World) (k kp:V->AE->Prop):Result Next->Prop
 | .ok (.value c) w'=> ∃v Z',k v Z'/\Af (Hh F Z' w') v c/\Rel F Z' w'/\B9 F Z w Z' w'
 | .ok .skip w'=> ∃Z',k (.t []) Z'/\Rel F Z' w'/\B9 F Z w Z' w'
 | .ok (.enter f args) w'=>Calls P f args w' fun e w''=> ∃r Z',qk k kp r Z'/\Vz (Hh F Z' w'') r e/\Rel F Z' w''/\B9 F Z w Z' w''
 | .ok (.round l f tmps assign body) w'=>RoundIn Fence.wide 0 P l f tmps assign body w' fun e w''=> ∃r Z',qk k kp r Z'/\Vz (Hh F Z' w'') r e/\Rel F Z' w''/\B9 F Z w Z' w''
 | .halt (.panic c) w'=> ∃v Z',kp v Z'/\Af (Hh F Z' w') v c/\Rel F Z' w'/\B9 F Z w Z' w'
 | _=>False
def A4 {P:Program} {F:Nat->Prop} {Z:AE} {w:World} {k kp:V->AE->Prop} {s:Sem Value} (h:Cl F Z w k kp (s.run P w)) :
    Good P F Z w k kp ((do pure (.value (<-s)):Sem Next).run P w):=by
 simp only[DX];generalize s.run P w=r at *;cases r with
 | ok c w'=>exact h
 | halt x w'=>cases x<;>first|exact h|exact h.elim
def Fa {F:Nat->Prop} {Z:AE} {w:World} {k kp:V->AE->Prop} (hR:Rel F Z w) {v:V} {c:Value} (hv:Af (Hh F Z w) v c) (hk:k v Z):Cl F Z w k kp (.ok c w):=
 ⟨v,Z,hk,hv,hR,B9.refl _ _ _⟩
def Ay {F:Nat->Prop} {Z:AE} {w:World} {k kp:V->AE->Prop} (hR:Rel F Z w) {v:V} {c:Value} (hk:k v Z) (hv:Af (Hh F Z w) v c):Cl F Z w k kp (.ok c w):=
 Fa hR hv hk
def CR (H:Nat->Nat->Option Value) (env:Env) (tmps:Array Value):Prop:= ∀k v,get k env=some v-> ∃c,tmps[k]? =some c/\Af H v c
def CR.mono {H H':Nat->Nat->Option Value} (hle:Z8 H H') {env:Env} {tmps:Array Value} (h:CR H env tmps):CR H' env tmps:=
 fun k v hv=>let⟨c,h1,h2⟩:=h k v hv;⟨c,h1,h2.mono hle⟩
def Wm {H:Nat->Nat->Option Value} {c:Value} {v:V} (h:oA c=some v):Af H v c:=by
 unfold oA at h
 split at h<;>first
  | (cases h;simp[Af];done)
  | (split at h<;>first|(rename_i hc;cases h;simpa[Af]using hc)|cases h)
  | cases h
 .exact⟨none,0,rfl,by simp,by simp,by simp[Ae],by simp,by simp⟩
def Wl {H:Nat->Nat->Option Value}: ∀ {cs:List Value} {vs:List V},ga cs=some vs->cs.length=vs.length/\Ba H (fun i=>cs[i]?) 0 vs
 | [],vs,h=>by cases h;exact⟨rfl,trivial⟩
 | c ::cs,vs,h=>by
   simp only[ga]at h;split at h
   .rename_i v vs' h1 h2
    cases h;obtain⟨h3,h4⟩:=Wl (H:=H) h2;refine⟨by simp[h3],⟨c,by simp,Wm h1⟩,?_⟩;exact BE h4 (fun i _=>by rw[show 0+1+i=i+1 by omega];simp)
   .cases h
def HA {H:Nat->Nat->Option Value} {c:Value} {v:V} (h:sf c=some v):Af H v c:=by
 unfold sf at h;split at h
 .rename_i cs
  cases hq:ga cs.toList with
  | none=>rw[hq]at h;cases h
  | some vs=>
    rw[hq]at h;cases h;obtain⟨h1,h2⟩:=Wl (H:=H) hq;refine⟨cs,rfl,by simpa using h1,BE h2 (fun i _=>by simp)⟩
 .rename_i cs
  split at h
  .rename_i h0
   cases h;exact⟨cs,rfl,by simpa using h0,trivial⟩
  .cases h
 .exact Wm h
def Ap {H:Nat->Nat->Option Value} {env:Env} {a:Act} (he:CR H env a.tmps) {x:Operand} {o:Bo} (ho:BX x=some o) {v:V} (hv:ev env o=some v):Af H v (a.eval x):=by
 cases x with
 | tmp t=>
   cases ho;obtain⟨c,h1,h2⟩:=he t v hv;simp only[Act.eval,Array.getD_eq_getD_getElem?,h1,Option.getD_some];exact h2
 | const c=>
   simp only[BX]at ho;cases hq:sf c with
   | none=>rw[hq]at ho;cases ho
   | some u=>
     rw[hq]at ho;cases ho;cases hv;exact HA hq
 | func f=>
   cases ho;cases hv;exact⟨#[],#[],rfl,rfl,trivial,rfl,trivial⟩
 | global g=>cases ho
def bw {H:Nat->Nat->Option Value} {env:Env} {a:Act} (he:CR H env a.tmps): ∀ {xs:List Operand} {os:List Bo},Kq xs=some os-> ∀ {vs:List V},VZ env os=some vs->
    xs.length=vs.length/\Ba H (fun i=>(xs.map a.eval)[i]?) 0 vs
 | [],os,ho,vs,hv=>by cases ho;cases hv;exact⟨rfl,trivial⟩
 | x ::xs,os,ho,vs,hv=>by
   simp only[Kq]at ho;split at ho
   .rename_i o os' h1 h2
    cases ho;simp only[VZ]at hv;split at hv
    .rename_i v vs' h3 h4
     cases hv;obtain⟨h5,h6⟩:=bw he h2 h4;refine⟨by simp[h5],⟨a.eval x,by simp,Ap he h1 h3⟩,?_⟩;exact BE h6 (fun i _=>by rw[show 0+1+i=i+1 by omega];simp)
    .cases hv
   .cases ho
def Ak {o:Option V} {k:V->Prop} (h:wv o k): ∃v,o=some v/\k v:=by
 cases o with
 | none=>exact h.elim
 | some v=>exact⟨v,rfl,h⟩
def Il {o:Option (List V)} {k:List V->Prop} (h:ws o k): ∃v,o=some v/\k v:=by
 cases o with
 | none=>exact h.elim
 | some v=>exact⟨v,rfl,h⟩
def aW {o:Option (List (List V))} {k:List (List V)->Prop} (h:wr o k): ∃v,o=some v/\k v:=by
 cases o with
 | none=>exact h.elim
 | some v=>exact⟨v,rfl,h⟩
def Um {o:Option (Option V)} {k:Option V->Prop} (h:wo o k): ∃v,o=some v/\k v:=by
 cases o with
 | none=>exact h.elim
 | some v=>exact⟨v,rfl,h⟩
end Go.Gl
namespace Go.Gl
variable {P:Program} {F:Nat->Prop} {Z:AE} {w:World} {k kp:V->AE->Prop}
def ND {t:TypeId} {n:Nat} (h:ES P t=some n): ∃i,P.info? t=some i/\i.size=n:=by
 unfold ES at h;cases hi:P.info? t with
 | none=>rw[hi]at h;cases h
 | some i=>rw[hi]at h;cases h;exact⟨i,rfl,rfl⟩
def EU {t:TypeId} {n:Nat} (h:ES P t=some n) (w:World):(sizeOf t).run P w= .ok n w:=by
 obtain⟨i,h1,h2⟩:=ND h;simp[sizeOf,typeInfo,h1,h2]
def BK {t:TypeId} {d:TypeDesc} (h:P.underlying t=some d) (w:World):(underlying t).run P w= .ok d w:=by
 simp[underlying,h]
def Ej {t:TypeId} {z:V} (h:zeroOf P t=some z) (w:World): ∃c,(zeroValue t).run P w= .ok c w/\sf c=some z:=by
 unfold zeroOf at h;cases hi:P.info? t with
 | none=>rw[hi]at h;cases h
 | some i=>
   rw[hi]at h;cases hz:i.zero with
   | none=>simp[hz]at h
   | some c=>
     refine⟨c,by simp[zeroValue,typeInfo,hi,hz],?_⟩;simpa[hz]using h
def Xo {t:TypeId} {z:V} (h:zeroOf P t=some z): ∃i c,P.info? t=some i/\i.zero=some c/\sf c=some z:=by
 unfold zeroOf at h;cases hi:P.info? t with
 | none=>rw[hi]at h;cases h
 | some i=>
   rw[hi]at h;cases hz:i.zero with
   | none=>simp[hz]at h
   | some c=>exact⟨i,c,rfl,hz,by simpa[hz]using h⟩
def S9 {t:TypeId} {a:Option Nat} (h:JH P t=some a) (w:World):(isAgg t).run P w= .ok a.isSome w/\ ∀n,a=some n->(sizeOf t).run P w= .ok n w:=by
 unfold JH at h;cases hu:P.underlying t with
 | none=>rw[hu]at h;cases h
 | some d=>
   rw[hu]at h;unfold isAgg;simp only[DX,BK hu,Result.andThen]
   cases d<;>simp only at h ⊢ <;>first
    | (cases h;exact⟨rfl,fun n e=>by cases e⟩)
    | (cases hs:ES P t with
       | none=>rw[hs]at h;cases h
       | some n=>rw[hs]at h;cases h;exact⟨rfl,fun n e=>by cases e;exact EU hs w⟩)
def VL {g:Nat->Option Value} {b o n:Nat} {vs:List V} {H:Nat->Nat->Option Value} (hg: ∀i c,g i=some c->w.cell? ⟨b,i,none⟩=some c) (hv:Ba H g o vs) (hn:vs.length=n) :
    ∃cs:Array Value,(loadCells ⟨b,o,none⟩ n).run P w= .ok cs w/\cs.size=n/\Ba H (fun i=>cs[i]?) 0 vs:=by
 rw[Bg]at hv
 have hch: ∀i,i<n-> ∃c,g (o+i)=some c:=fun i hi=>by
  obtain⟨c,hc,_⟩:=hv i vs[i] (DC (by omega));exact⟨c,hc⟩
 let f:Nat->Value:=fun i=>(g (o+i)).getD undef
 refine⟨((List.range n).map f).toArray,?_,by simp,?_⟩
 .rw[run_loadCells w _ n f (fun j hj=>by
   obtain⟨c,hc⟩:=hch j hj;rw[Cx,hg _ _ hc]
   simp[f,hc])]
 .rw[Bg]
  intro i v hi;obtain⟨c,hc,hr⟩:=hv i v hi;have hlt:i<n:=by rw[<-hn];exact(JT.1 hi).1
  refine⟨c,?_,hr⟩;simp[f,hc,hlt]
def FY {t:TypeId} {agg:Option Nat} (hA:JH P t=some agg) {g:Nat->Option Value} {b o off:Nat} {vs:List V} {H:Nat->Nat->Option Value} (hg: ∀i c,g i=some c->w.cell? ⟨b,i,none⟩=some c) (hv:Ba H g o vs)
    {K:V->Prop} (hk:cut agg vs off K): ∃v c,(loadVar t ⟨b,o+off,none⟩).run P w= .ok c w/\Af H v c/\K v:=by
 obtain⟨h1,h2⟩:=S9 hA w;unfold loadVar;simp only[DX,h1,Result.andThen];cases agg with
 | none=>
   simp only[cut]at hk;split at hk
   .rename_i v hv'
    obtain⟨c,hc,hr⟩:=Bg.1 hv off v hv';refine⟨v,c,?_,hr,hk⟩;simp[hg _ _ hc]
   .exact hk.elim
 | some n=>
   simp only[cut]at hk;obtain⟨cs,h3,h4,h5⟩:=VL (P:=P) (n:=n) hg (Sw (KO hv off) n) (by simp;omega);refine⟨.a ((vs.drop off).take n),.agg cs,?_,⟨cs,rfl,by simp[h4];omega,h5⟩,hk.2⟩;simp[h2 n rfl,h3]
def Ke (hR:Rel F Z w) {n:Nat} {vs:List V} (h:Z n=some (.cs vs)): ∃c e,w.heap[n]? =some (.cells c e (0,0))/\c.size=vs.length/\Ba (Hh F Z w) (fun i=>c[i]?) 0 vs:=by
 obtain⟨_,ob,h2,c,e,rfl,h4,h5⟩:=hR.own n _ h;exact⟨c,e,h2,h4,h5⟩
def E6 (hR:Rel F Z w) {n sz cap:Nat} {es:List (List V)} (h:Z n=some (.arr sz es cap)): ∃c e,w.heap[n]? =some (.cells c e (0,0))/\cap*sz<=c.size/\es.length<=cap/\es.length<=Ae/\BJ (Hh F Z w) (fun i=>c[i]?) sz 0 es:=by
 obtain⟨_,ob,h2,c,e,rfl,h4,h5⟩:=hR.own n _ h;exact⟨c,e,h2,h4,h5⟩
def Zd {t:TypeId} {agg:Option Nat} (hA:JH P t=some agg) (hR:Rel F Z w) {vx:V} {c:Value} (hx:Af (Hh F Z w) vx c) (h:AT Z agg vx fun v=>k v Z) :
    Cl F Z w k kp ((Instr.loadAt t c).run P w):=by
 unfold Instr.loadAt;unfold AT at h;split at h
 .rename_i cs
  obtain⟨b,o,rfl,hv⟩:=hx;obtain⟨v,c,h1,h2,h3⟩:=FY (P:=P) (w:=w) (b:=b) (off:=0) hA (fun i c hc=>(GL hc).2.2) hv h;simp only[DX,Instr.sureAddr,Ey,Result.andThen,Nat.add_zero]at h1 ⊢;rw[h1];exact Fa hR h2 h3
 .rename_i n off
  simp only[Af]at hx;subst hx;unfold P6 at h;split at h
  .rename_i vs hs
   obtain⟨c,e,h1,h2,h3⟩:=Ke hR hs;obtain⟨v,c',h4,h5,h6⟩:=FY (P:=P) (w:=w) (b:=n) (off:=off) hA (fun i c hc=>by rw[Dg h1];exact hc) h3 h;simp only[DX,Instr.sureAddr,Ey,Result.andThen,Gu]at h4 ⊢;rw[h4];exact Fa hR h5 h6
  .exact h.elim
 .rename_i n sz i off
  simp only[Af]at hx;subst hx;unfold P7 at h;split at h
  .rename_i sz' es cap hs
   obtain⟨rfl,h⟩:=h;split at h
   .rename_i e he
    obtain⟨c,e',h1,_,_,_,h3⟩:=E6 hR hs;obtain⟨h7,h8⟩:=BG.1 h3 i e he;obtain⟨v,c',h4,h5,h6⟩:=FY (P:=P) (w:=w) (b:=n) (off:=off) hA (fun i c hc=>by rw[Dg h1];exact hc) h8 h;simp only[DX,Instr.sureAddr,Ey,Result.andThen,Gu]at h4 ⊢;rw[h4];exact Fa hR h5 h6
   .exact h.elim
  .exact h.elim
 .exact h.elim
def DB {H:Nat->Nat->Option Value} {v:V} {c:Value} (hv:Af H v c) {vs:List V} (h:cellsOf v=some vs):c.cells.size=vs.length/\Ba H (fun i=>c.cells[i]?) 0 vs:=by
 cases v<;>simp only[cellsOf]at h<;>first
  | (cases h;done)
  | (cases h
     have hc:c.cells= #[c]:=by
      first
       | (simp only[Af]at hv;subst hv;rfl)
       | (simp only[Af]at hv;obtain⟨rfl,_⟩:=hv;rfl)
       | (simp only[Af]at hv;obtain⟨_,rfl,_⟩:=hv;rfl)
       | (simp only[Af]at hv;obtain⟨_,_,rfl,_⟩:=hv;rfl)
     rw[hc]
     exact⟨rfl,⟨c,rfl,hv⟩,trivial⟩)
  | skip
 rename_i cs;cases h;obtain⟨c',rfl,h2,h3⟩:=hv;exact⟨h2,h3⟩
def Qj {H:Nat->Nat->Option Value} {v:V} {c:Value} (hv:Af H v c) (h:CN v=true):c.oneCell'=true:=by
 cases v<;>first
  | (simp[CN]at h;done)
  | (simp only[Af]at hv;subst hv;rfl)
  | (simp only[Af]at hv;obtain⟨rfl,_⟩:=hv;rfl)
  | (simp only[Af]at hv;obtain⟨_,rfl,_⟩:=hv;rfl)
  | (simp only[Af]at hv;obtain⟨_,_,rfl,_⟩:=hv;rfl)
def ln {H:Nat->Nat->Option Value} {vs:List V} {c:Array Value} (hs:c.size=vs.length) (hv:Ba H (fun i=>c[i]?) 0 vs) (h:vs.all CN=true): ∀u∈c.toList,u.oneCell'=true:=by
 intro u hu;obtain⟨i,hi⟩:=List.mem_iff_getElem?.1 hu;have hlt:i<vs.length:=by rw[<-hs];have:=(JT.1 hi).1;simpa using this
 obtain⟨d,hd,hr⟩:=Bg.1 hv i vs[i] (DC hlt);have:d=u:=by simp only[Gu]at hd;rw[Array.getElem?_toList]at hi;rw[hi]at hd;cases hd;rfl
 subst this;exact Qj hr (DJ.1 h _ (List.getElem_mem hlt))
def FB: ∀(us cs:List V) (o:Nat),(putAt cs o us).length=cs.length
 | [],_,_=>rfl
 | u::us,cs,o=>by simp only[putAt];rw[FB us];simp
def lE {H:Nat->Nat->Option Value} {c:Array Value} {vs:List V} {i:Nat} {v:V} {d:Value} (hs:c.size=vs.length) (h:Ba H (fun i=>c[i]?) 0 vs) (hv:Af H v d) :
    Ba H (fun j=>(c.setIfInBounds i d)[j]?) 0 (vs.set i v):=by
 rw[Bg]at *;intro j u hu;simp only[Gu]at h ⊢;rw[List.getElem?_set]at hu;split at hu
 .rename_i e
  subst e;split at hu
  .rename_i hlt
   cases hu;exact⟨d,by rw[Array.getElem?_setIfInBounds_self_of_lt (by omega)],hv⟩
  .cases hu
 .rename_i e
  obtain⟨c',h1,h2⟩:=h j u hu;exact⟨c',by rw[Array.getElem?_setIfInBounds_ne e];exact h1,h2⟩
def MX {H:Nat->Nat->Option Value}: ∀ {us:List V} {ds:List Value} {c:Array Value} {vs:List V} {o:Nat},c.size=vs.length->Ba H (fun i=>c[i]?) 0 vs->ds.length=us.length->Ba H (fun i=>ds[i]?) 0 us->
    Ba H (fun i=>(DF c o ds)[i]?) 0 (putAt vs o us)
 | [],[],c,vs,o,_,h,_,_=>h
 | u::us,d::ds,c,vs,o,hs,h,hl,hu=>by
   simp only[DF,putAt];obtain⟨⟨d',hd,hr⟩,hu'⟩:=hu;have e:d'=d:=by simp at hd;exact hd.symm
   subst e;exact MX (by simpa using hs) (lE hs h hr) (by simpa using hl) (BE hu' (fun i _=>by rw[show 0+1+i=i+1 by omega];simp))
 | [],_::_,_,_,_,_,_,hl,_=>by simp at hl
 | _::_,[],_,_,_,_,_,hl,_=>by simp at hl
def DU: ∀(ds:List Value) (c:Array Value) (o i:Nat),(i<o\/o+ds.length<=i)->(DF c o ds)[i]? =c[i]?
 | [],_,_,_,_=>rfl
 | d::ds,c,o,i,h=>by
   simp only[DF];rw[DU ds _ _ _ (by simp at h;omega),Array.getElem?_setIfInBounds_ne (by simp at h;omega)]
def GV: ∀(ds:List Value) (c:Array Value) (o i:Nat),i<ds.length->o+ds.length<=c.size->(DF c o ds)[o+i]? =ds[i]?
 | d ::ds,c,o,i,h,hs=>by
   simp only[DF];cases i with
   | zero=>
     simp at hs;rw[DU ds _ _ _ (by omega),Nat.add_zero,Array.getElem?_setIfInBounds_self_of_lt (by omega)];rfl
   | succ i=>
     rw[show o+(i+1)=o+1+i by omega,GV ds _ _ i (by simpa using h) (by simp at hs ⊢;omega)];simp
 | [],_,_,_,h,_=>by simp at h
def X7 {t : TypeId} {sz:Nat} (hS:ES P t=some sz) (hR:Rel F Z w) {va vx:V} {ca cx:Value} (ha:Af (Hh F Z w) va ca) (hx:Af (Hh F Z w) vx cx)
    (h:AR Z sz va vx fun Z'=>k (.t []) Z'): ∃Z' w',(Instr.storeAt t ca cx).run P w= .ok () w'/\k (.t []) Z'/\Rel F Z' w'/\B9 F Z w Z' w':=by
 unfold AR at h;split at h
 .rename_i vc hc
  obtain⟨hlen,hone,h⟩:=h;obtain⟨hcs,hcv⟩:=DB hx hc;have h1s:=ln hcs hcv hone;have hcv':Ba (Hh F Z w) (fun i=>cx.cells.toList[i]?) 0 vc:=BE hcv (fun i _=>by simp)
  have hrun: ∀n o,ca= .pointer (some ⟨n,o,none⟩)->(Instr.storeAt t ca cx).run P w=(storeCells ⟨n,o,none⟩ cx.cells.toList).run P w:=by
   rintro n o rfl;have:cx.cells.size=sz:=by omega
   simp[Instr.storeAt,Instr.sureAddr,storeVar,EU hS,this]
  split at h
  .rename_i n off
   split at h
   .rename_i vs hs
    obtain⟨hle,hk⟩:=h;simp only[Af]at ha;obtain⟨c,e,h1,h2,h3⟩:=Ke hR hs;refine⟨_,Cf w n (.cells (DF c off cx.cells.toList) e (0,0)),?_,hk,?_,HI hs _ _⟩
    .rw[hrun n off ha,Cy cx.cells.toList w c off 0 h1 (by simp;omega) h1s]
     rfl
    .exact J9 hR hs ⟨_,e,rfl,by rw[D8,FB];exact h2,MX h2 h3 (by simp;omega) hcv'⟩
   .exact h.elim
  .rename_i n s i off
   split at h
   .rename_i s' es cap hs
    obtain⟨rfl,h⟩:=h;split at h
    .rename_i e he
     obtain⟨hle,hk⟩:=h;simp only[Af]at ha;obtain⟨c,et,h1,h2,h3,h4,h5⟩:=E6 hR hs;obtain⟨h6,h7⟩:=BG.1 h5 i e he;have hi:i<es.length:=(JT.1 he).1
     have hb:i*s+s<=c.size:=by
      rw[<-Nat.succ_mul];exact Nat.le_trans (Va _ (by omega)) h2
     refine⟨_,Cf w n (.cells (DF c (i*s+off) cx.cells.toList) et (0,0)),?_,hk,?_,HI hs _ _⟩
     .rw[hrun n _ ha,Cy cx.cells.toList w c _ 0 h1 (by simp;omega) h1s]
      rfl
     .refine J9 hR hs ⟨_,et,rfl,by rw[D8];exact h2,by simpa using h3,by simpa using h4,?_⟩
      rw[BG];intro j u hu;rw[List.getElem?_set]at hu;split at hu
      .rename_i ej
       subst ej;cases hu;refine⟨by rw[FB];exact h6,?_⟩
       have hrow:Ba (Hh F Z w) (fun q=>(c.extract (i*s) (i*s+s))[q]?) 0 e:=by
        refine BE h7 (fun q hq=>?_);simp only[Gu];rw[Array.getElem?_extract_of_lt (by omega)];exact(Array.getElem?_eq_getElem (by omega)).symm
       have:=MX (o:=off) (by simp;omega) hrow (by simp;omega) hcv';refine BE this (fun q hq=>?_);rw[FB]at hq;simp only[Gu];by_cases hin:off<=q/\q<off+cx.cells.toList.length
       .obtain⟨r,rfl⟩: ∃r,q=off+r:=⟨q - off,by omega⟩
        rw[show i*s+(off+r)=i*s+off+r by omega,GV _ _ _ _ (by omega) (by simp;omega),GV _ _ _ _ (by omega) (by simp;omega)]
       .rw[DU _ _ _ _ (by omega),DU _ _ _ _ (by omega),Array.getElem?_extract_of_lt (by omega)]
        exact Array.getElem?_eq_getElem (by omega)
      .rename_i ej
       obtain⟨h8,h9⟩:=BG.1 h5 j u hu;refine⟨h8,BE h9 (fun q hq=>?_)⟩;rw[DU];rcases Nat.lt_or_ge j i with hji|hji
       .left
        have:(j+1)*s<=i*s:=Va _ hji;rw[Nat.succ_mul]at this;omega
       .right
        have:(i+1)*s<=j*s:=Va _ (by omega);rw[Nat.succ_mul]at this;simp;omega
    .exact h.elim
   .exact h.elim
  .exact h.elim
 .exact h.elim
end Go.Gl
namespace Go.Gl
variable {P:Program} {F:Nat->Prop} {Z:AE} {w:World} {k kp:V->AE->Prop}
def TV (hR:Rel F Z w) {cells:Array Value} {e:TypeId} {cs:List V} (hs:cells.size=cs.length) (hv:Ba (Hh F Z w) (fun i=>cells[i]?) 0 cs)
    (h: ∀n,Z n=none->k (.p n 0) (B5 Z n (.cs cs))):Cl F Z w k kp ((do pure (.pointer (some (<-newRow e cells))):Sem Value).run P w):=by
 simp only[newRow,DX,run_newObj,Ey,Result.andThen,World.alloc_eq];exact⟨.p w.heap.size 0,_,h _ hR.new,rfl,IQ hR ⟨cells,e,rfl,hs,hv⟩,EG _ _⟩
def fA (e:TypeId) (hR:Rel F Z w) {vx:V} {c:Value} (hx:Af (Hh F Z w) vx c) {cs:List V} (hc:cellsOf vx=some cs) (h: ∀n,Z n=none->k (.p n 0) (B5 Z n (.cs cs))) :
    Cl F Z w k kp ((Instr.box e c).run P w):=by
 obtain⟨h1,h2⟩:=DB hx hc;exact TV hR h1 h2 h
def Gm {z:Option V} {cs:List V} (h:LL z=some cs): ∃v,z=some v/\cellsOf v=some cs:=by
 cases z with
 | none=>cases h
 | some v=>cases v<;>first|(cases h;done)|(cases h;exact⟨_,rfl,rfl⟩)
def YC {e:TypeId} {z:List V} (hz:LL (zeroOf P e)=some z) (hR:Rel F Z w) (h: ∀n,Z n=none->k (.p n 0) (B5 Z n (.cs z))) :
    Cl F Z w k kp ((Instr.alloc e true (.tuple #[])).run P w):=by
 obtain⟨v,h1,h2⟩:=Gm hz;obtain⟨c,h3,h4⟩:=Ej h1 w;obtain⟨h5,h6⟩:=DB (HA (H:=Hh F Z w) h4) h2;have:=TV (P:=P) (kp:=kp) (e:=e) hR h5 h6 h;unfold Instr.alloc;simp only[DX,h3,Result.andThen]at this ⊢;simpa[newVar,newRow]using this
def YB {s:TypeId} {fields:Array Field} {f:Nat} {fd:Field} {sz:Nat} (hu:P.underlying s=some (.struct fields)) (hf:fields[f]? =some fd) (hs:ES P fd.type=some sz) (h0:sz≠0)
    (hR:Rel F Z w) {vx:V} {c:Value} (hx:Af (Hh F Z w) vx c) (h:LI fd.offset vx fun v=>k v Z):Cl F Z w k kp ((Instr.fieldAt s c f).run P w):=by
 have hrun: ∀b o,c= .pointer (some ⟨b,o,none⟩)->(Instr.fieldAt s c f).run P w= .ok (.pointer (some ⟨b,o+fd.offset,none⟩)) w:=by
  rintro b o rfl;simp[Instr.fieldAt,BK hu,hf,Instr.sureAddr,fieldPlace,EU hs,h0,Cx]
 unfold LI at h;split at h
 .obtain⟨b,o,hc,hv⟩:=hx
  rw[hrun b o hc];exact Ay hR h ⟨b,_,rfl,KO hv _⟩
 .rw[hrun _ _ hx]
  exact Ay hR h rfl
 .simp only[Af]at hx
  rw[hrun _ _ hx,Nat.add_assoc];exact Ay hR h rfl
 .exact h.elim
def bI {t:TypeId} {agg:Option Nat} (hA:JH P t=some agg) {H:Nat->Nat->Option Value} {c:Array Value} {off:Nat} {vs:List V} (hs:c.size=vs.length) (hv:Ba H (fun i=>c[i]?) 0 vs)
    {K:V->Prop} (hk:cut agg vs off K) (w:World): ∃v d,(part t c off).run P w= .ok d w/\Af H v d/\K v:=by
 obtain⟨h1,h2⟩:=S9 hA w;unfold part;simp only[DX,h1,Result.andThen];cases agg with
 | none=>
   simp only[cut]at hk;split at hk
   .rename_i v hv'
    obtain⟨d,hd,hr⟩:=Bg.1 hv off v hv';refine⟨v,d,?_,hr,hk⟩;simp only[Gu]at hd;simp[hd]
   .exact hk.elim
 | some n=>
   simp only[cut]at hk;refine⟨.a ((vs.drop off).take n),.agg (c.extract off (off+n)),by simp[h2 n rfl],⟨_,rfl,by simp;omega,?_⟩,hk.2⟩;refine BE (Sw (KO hv off) n) (fun i hi=>?_);simp at hi;rw[Array.getElem?_extract_of_lt (by omega)];rw[show 0+off+i=off+(0+i) by omega];exact(Array.getElem?_eq_getElem (by omega)).symm
def YA {s:TypeId} {fields:Array Field} {f:Nat} {fd:Field} {agg:Option Nat} (hu:P.underlying s=some (.struct fields)) (hf:fields[f]? =some fd) (hA:JH P fd.type=some agg)
    (hR:Rel F Z w) {cs:List V} {c:Value} (hx:Af (Hh F Z w) (.a cs) c) (h:cut agg cs fd.offset fun v=>k v Z):Cl F Z w k kp ((Instr.field s c f).run P w):=by
 obtain⟨c',rfl,h1,h2⟩:=hx;obtain⟨v,d,h3,h4,h5⟩:=bI hA h1 h2 h w;simp only[Instr.field,DX,BK hu,Result.andThen,hf,asAgg,Ey,h3];exact Fa hR h4 h5
def X9 {t e:TypeId} {len sz:Nat} {agg:Option Nat} (hu:P.underlying t=some (.array len e)) (hs:ES P e=some sz) (hA:JH P e=some agg)
    (hR:Rel F Z w) {vx vi:V} {cx ci:Value} (hx:Af (Hh F Z w) vx cx) (hi:Af (Hh F Z w) vi ci) (h:LH len sz agg vx vi fun v=>k v Z):Cl F Z w k kp ((Instr.index t cx ci).run P w):=by
 unfold LH at h;split at h
 .rename_i cs ki j
  obtain⟨h0,h1,h⟩:=h;obtain⟨c',rfl,h2,h3⟩:=hx;obtain⟨rfl,_⟩:=hi;obtain⟨v,d,h4,h5,h6⟩:=bI hA h2 h3 h w;simp only[Instr.index,DX,asIntOf,Ey,Result.andThen,BK hu,h0,h1,and_self,if_true,EU hs,h4];exact Fa hR h5 h6
 .exact h.elim
def run_indexAt_slice {t e:TypeId} {sz:Nat} (hu:P.underlying t=some (.slice e)) (hs:ES P e=some sz) {b o:Nat} {n cap:Nat} {j:Int} {ki:IntKind} (h0:0<=j) (h1:j<n) :
    (Instr.indexAt t (.slice (some ⟨b,o,none⟩) n cap) (.int ki j)).run P w= .ok (.pointer (some ⟨b,o+j.toNat*sz,none⟩)) w:=by
 simp[Instr.indexAt,asIntOf,BK hu,h0,h1,EU hs,Cx]
def run_indexAt_array {t e:TypeId} {sz m:Nat} (hu:P.underlying t=some (.array m e)) (hs:ES P e=some sz) {b o:Nat} {j:Int} {ki:IntKind} (h0:0<=j) (h1:j<m) :
    (Instr.indexAt t (.pointer (some ⟨b,o,none⟩)) (.int ki j)).run P w= .ok (.pointer (some ⟨b,o+j.toNat*sz,none⟩)) w:=by
 simp[Instr.indexAt,asIntOf,BK hu,h0,h1,EU hs,Cx,Instr.sureAddr]
def NK {t e:TypeId} {sz:Nat} (hu:P.underlying t=some (.slice e)) (hs:ES P e=some sz)
    (hR:Rel F Z w) {vx vi:V} {cx ci:Value} (hx:Af (Hh F Z w) vx cx) (hi:Af (Hh F Z w) vi ci) (h:AQ sz none vx vi fun v=>k v Z):Cl F Z w k kp ((Instr.indexAt t cx ci).run P w):=by
 cases vi<;>simp only[AQ]at h
 rename_i ki j;obtain⟨rfl,_⟩:=hi;cases vx<;>simp only at h
 .rename_i es full
  obtain⟨h0,e',he,hl,h⟩:=h;obtain⟨a,cap,rfl,_,_,_,_,h6⟩:=hx;have hlt:=(JT.1 he).1;obtain⟨b,o,s,rfl,h7⟩:=h6 (by rintro rfl;simp at he);obtain⟨h8,h9⟩:=BG.1 h7 _ _ he;have:s=sz:=by omega
  subst this;rw[run_indexAt_slice hu hs h0 (by omega)];exact Ay hR h ⟨b,_,rfl,h9⟩
 .rename_i n len cap
  obtain⟨h0,h1,h⟩:=h;obtain⟨rfl,_⟩:=hx;rw[run_indexAt_slice hu hs h0 h1];exact Ay hR h (by simp[Af])
 .rename_i n s off len
  obtain⟨rfl,h0,h1,h⟩:=h;obtain⟨a,cap,rfl,_,h3⟩:=hx;obtain rfl:=h3 (by omega);rw[run_indexAt_slice hu hs h0 h1];exact Ay hR h (by simp[Af,Nat.add_mul])
def NL {t e:TypeId} {sz m:Nat} (hu:P.underlying t=some (.array m e)) (hs:ES P e=some sz)
    (hR:Rel F Z w) {vx vi:V} {cx ci:Value} (hx:Af (Hh F Z w) vx cx) (hi:Af (Hh F Z w) vi ci) (h:AQ sz (some m) vx vi fun v=>k v Z):Cl F Z w k kp ((Instr.indexAt t cx ci).run P w):=by
 cases vi<;>simp only[AQ]at h
 rename_i ki j;obtain⟨rfl,_⟩:=hi;cases vx<;>simp only at h
 .rename_i n o
  obtain⟨h0,h1,h⟩:=h;simp only[Af]at hx;subst hx;rw[run_indexAt_array hu hs h0 h1];exact Ay hR h rfl
 .rename_i cs
  obtain⟨h0,h1,h⟩:=h;obtain⟨b,o,rfl,hv⟩:=hx;rw[run_indexAt_array hu hs h0 h1];exact Ay hR h ⟨b,_,rfl,KO hv _⟩
 .rename_i n s q o
  obtain⟨h0,h1,h⟩:=h;simp only[Af]at hx;subst hx;rw[run_indexAt_array hu hs h0 h1,Nat.add_assoc];exact Ay hR h rfl
end Go.Gl
