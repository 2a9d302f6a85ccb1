import Derived.OrdersIn
import Derived.Below
set_option linter.all false
set_option linter.defProp false
set_option maxHeartbeats 8000000
noncomputable section
namespace Go.Gl
def kZ {n m:Nat} (h:Nat.ble n m=true:=by exact rfl):n<=m:=Nat.le_of_ble_eq_true h
abbrev CQ:=@List.getElem?_eq_getElem
abbrev BY:=@List.mem_of_getElem?
abbrev Bh:=@List.length_map
abbrev Co:=@List.getD_eq_getElem?_getD
abbrev CF:=@decide_eq_true_eq
abbrev A7:=@Bool.and_eq_true
abbrev JV:=@List.getElem?_map
abbrev Hp:=@Option.some.injEq
abbrev NK:=@List.mem_append_left
abbrev Lu:=@List.mem_append_right
abbrev Xm:=@List.getElem?_append_left
abbrev Du:=@List.mem_append
abbrev DT:=@List.all_eq_true
abbrev Jc:=@Bool.false_eq_true
abbrev Kt:=@List.length_append
abbrev JU:=@List.length_cons
abbrev GL:=@List.mem_map
abbrev Xg:=@Option.map_some
abbrev qJ:=@List.getElem?_cons_zero
abbrev qI:=@List.getElem?_cons_succ
abbrev qH:=@Array.getElem?_eq_some_iff
abbrev qG:=@List.map_map
abbrev lB:=@List.length_drop
abbrev Ib:=@List.length_take
abbrev xM:=@List.getElem?_drop
abbrev xc:=@List.length_range
abbrev Ff:=@List.mem_cons
abbrev NJ:=@List.append_assoc
abbrev Ia:=@List.mem_filter
abbrev zrH:=@Bool.and_eq_true_iff
abbrev Cd:=@beq_iff_eq
abbrev zrJ:=@bne_iff_ne
abbrev DS:=@Sem.run_bind
abbrev FB:=@Sem.run_pure
abbrev G2:=@Result.andThen_ok
abbrev JA:=@List.getElem?_eq_some_iff
abbrev Cn:=@List.map_cons
abbrev Ew:=@Bool.or_eq_true
abbrev HU:=@List.sublist_cons_self
abbrev FZ:=@Int.toNat_natCast
abbrev EU:=@List.append_nil
abbrev G7:=@Nat.zero_add
abbrev KF:=@Bool.eq_iff_iff
abbrev Db:=@Bool.true_and
abbrev NI:=@List.length_filter_le
abbrev ZJ:=@Nat.eq_of_beq_eq_true
abbrev Ta:=@Nat.mul_le_mul_right
abbrev G1:=@List.any_eq_true
abbrev Ie:=@List.nil_sublist
abbrev G0:=@Nat.le_refl
abbrev VA:=@List.length_eq_zero_iff
abbrev JT:=@List.mem_singleton
abbrev NF:=@List.perm_append_comm
abbrev Jd:=@List.all_cons
abbrev ND:=@List.map_append
abbrev Oj:=@List.any_cons
end Go.Gl
namespace Go.Gl
def AZ:Nat:=17592186044416
inductive V where
 | b (x:Bool)
 | i (k:IntKind) (n:Int)
 | s (x:ByteArray)
 | pn
 | p (n off:Nat)
 | rp (cs:List V)
 | l (es:List (List V)) (full:Bool)
 | sl (n len cap:Nat)
 | sv (n sz off len:Nat)
 | pe (n sz i off:Nat)
 | m (n:Nat)
 | mn
 | f (fn:Fn) (first cap:List V)
 | eZ
 | Lx (t:TypeId) (v:V)
 | K0
 | a (cs:List V)
 | t (vs:List V)
 | any
 deriving Inhabited
def u8V:V->Bool
 | .i .u8 _=>true
 | .any=>true
 | _=>false
def lD:List V->Bool
 | [v]=>u8V v
 | _=>false
def Ji (es:List (List V)):Nat:=if es.all lD then 140737488355328 else AZ
def nC (es:List (List V)):AZ<=Ji es:=by
 unfold Ji AZ;split<;>omega
def nA (es:List (List V)):Ji es<=140737488355328:=by
 unfold Ji AZ;split<;>omega
def MM {es:List (List V)} {n:Nat} (h:n<=AZ):n<=Ji es:=Nat.le_trans h (nC es)
def jm {α:Type} {enc:α->List V} {xs:List α} (h: ∀x,lD (enc x)=false) (hl:(xs.map enc).length<=Ji (xs.map enc)):xs.length<=AZ:=by
 cases xs with
 | nil=>simp
 | cons x r=>
   have e:((x::r).map enc).all lD=false:=by rw[Cn,Jd,h x];rfl
   rw[Ji,e,Bh]at hl;exact hl
def WS {es es':List (List V)} (h: ∀e∈es',e∈es) {n m:Nat} (hn:n<=Ji es) (hm:m<=n):m<=Ji es':=by
 unfold Ji at *;split at hn
 .rename_i he
  have:es'.all lD=true:=by
   rw[DT]at he ⊢;exact fun e h2=>he e (h e h2)
  rw[if_pos this];omega
 .split
  .unfold AZ at hn;omega
  .omega
mutual
def Ae (H:Nat->Nat->Option Value):V->Value->Prop
 | .b x,c=>c= .bool x
 | .i k n,c=>c= .int k n/\k.min<=n/\n<=k.max
 | .s x,c=>c= .string x
 | .pn,c=>c= .pointer none
 | .p n off,c=>c= .pointer (some ⟨n,off,none⟩)
 | .rp cs,c=> ∃b o,c= .pointer (some ⟨b,o,none⟩)/\BU H (H b) o cs
 | .l es full,c=> ∃a cap,c= .slice a es.length cap/\es.length<=cap/\(full=true->cap=es.length)/\es.length<=Ji es/\(a=none->cap=0)/\
  (es≠[]-> ∃b o sz,a=some ⟨b,o,none⟩/\BH H (H b) sz o es)
 | .sl n len cap,c=>c= .slice (some ⟨n,0,none⟩) len cap/\len<=cap
 | .sv n sz off len,c=> ∃a cap,c= .slice a len cap/\len<=cap/\(len≠0->a=some ⟨n,off*sz,none⟩)
 | .pe n sz i off,c=>c= .pointer (some ⟨n,i*sz+off,none⟩)
 | .m n,c=>c= .map (some n)
 | .mn,c=>c= .map none
 | .f fn first cap,c=> ∃f' c',c= .func fn f' c'/\f'.size=first.length/\BU H (fun i=>f'[i]?) 0 first/\c'.size=cap.length/\BU H (fun i=>c'[i]?) 0 cap
 | .eZ,c=>c= .nilFunc
 | .Lx t v,c=> ∃c',c= .iface t c'/\Ae H v c'
 | .K0,c=>c= .nilIface
 | .a cs,c=> ∃c',c= .agg c'/\c'.size=cs.length/\BU H (fun i=>c'[i]?) 0 cs
 | .t vs,c=> ∃c',c= .tuple c'/\c'.size=vs.length/\BU H (fun i=>c'[i]?) 0 vs
 | .any,_=>True
def BU (H:Nat->Nat->Option Value) (g:Nat->Option Value):Nat->List V->Prop
 | _,[]=>True
 | o,v::vs=>(∃c,g o=some c/\Ae H v c)/\BU H g (o+1) vs
def BH (H:Nat->Nat->Option Value) (g:Nat->Option Value) (sz:Nat):Nat->List (List V)->Prop
 | _,[]=>True
 | o,e::es=>e.length=sz/\BU H g o e/\BH H g sz (o+sz) es
end
inductive xZ where
 | ready
 | ret
 | exit (id:Nat)
inductive O where
 | cs (vs:List V)
 | arr (sz:Nat) (es:List (List V)) (cap:Nat)
 | map (kvs:List (V×V))
 | loop (st:xZ) (env:List (Nat×V)) (ok:FuncId->Array Tmp->Code->Code->Nat->Prop)
 deriving Inhabited
def qc:xZ->Loop->Prop
 | .ready,lp=>lp.state= .ready/\lp.pending=none
 | .ret,lp=>lp.state= .done/\lp.pending=some .ret
 | .exit id,lp=>lp.state= .done/\lp.pending=some (.exit id)
def F1 (H:Nat->Nat->Option Value):List (V×V)->List MapEntry->Prop
 | [],[]=>True
 | (k,v)::r,e::es=>Ae H k e.key/\Ae H v e.val/\F1 H r es
 | _,_=>False
def Ph (H:Nat->Nat->Option Value):O->Obj->Prop
 | .cs vs,o=> ∃c e,o= .cells c e (0,0)/\c.size=vs.length/\BU H (fun i=>c[i]?) 0 vs
 | .arr sz es cap,o=> ∃c e,o= .cells c e (0,0)/\cap*sz<=c.size/\es.length<=cap/\es.length<=AZ/\BH H (fun i=>c[i]?) sz 0 es
 | .map kvs,o=> ∃es clk,o= .map es clk/\F1 H kvs es.toList/\es.toList.Pairwise (fun a b=>a.key≠b.key)
 | .loop st env ok,o=> ∃lp,o= .loop lp/\qc st lp/\(∀k v,(k,v)∈env-> ∃c,lp.tmps[k]? =some c/\Ae H v c)/\ok lp.fn lp.params lp.assign lp.body lp.tmps.size
abbrev AD:=Nat->Option O
def Hh (F:Nat->Prop) (Z:AD) (w:World) (b o:Nat):Option Value:=
 open Classical in if F b\/(Z b).isSome=true then none else w.cell? ⟨b,o,none⟩
structure Rel (F:Nat->Prop) (Z:AD) (w:World):Prop where
 own: ∀n o,Z n=some o-> ¬F n/\ ∃ob,w.heap[n]? =some ob/\Ph (Hh F Z w) o ob
 lock: ∀n,F n->n<w.heap.size
structure B3 (F:Nat->Prop) (Z:AD) (w:World) (Z':AD) (w':World):Prop where
 frame: ∀n,n<w.heap.size->Z n=none->w'.heap[n]? =w.heap[n]?
 size:w.heap.size<=w'.heap.size
 os:w'.os=w.os
 tape:w'.tape=w.tape
 output:w'.output=w.output
 names: ∀n,Z n=none->n<w.heap.size->Z' n=none
def B3.refl (F:Nat->Prop) (Z:AD) (w:World):B3 F Z w Z w:=
 ⟨fun _ _ _=>rfl,G0 _,rfl,rfl,rfl,fun _ h _=>h⟩
def B3.trans {F:Nat->Prop} {Z Z' Z'':AD} {w w' w'':World} (h:B3 F Z w Z' w') (k:B3 F Z' w' Z'' w''):B3 F Z w Z'' w'' where
 frame n hn h0:=(k.frame n (Nat.lt_of_lt_of_le hn h.size) (h.names n h0 hn)).trans (h.frame n hn h0)
 size:=Nat.le_trans h.size k.size
 os:=k.os.trans h.os
 tape:=k.tape.trans h.tape
 output:=k.output.trans h.output
 names n h0 hn:=k.names n (h.names n h0 hn) (Nat.lt_of_lt_of_le hn h.size)
def ZO (H H':Nat->Nat->Option Value):Prop:= ∀b o c,H b o=some c->H' b o=some c
mutual
def Ae.mono {H H':Nat->Nat->Option Value} (hle:ZO H H'): ∀(v:V) (c:Value),Ae H v c->Ae H' v c
 | .b _,_,h| .i _ _,_,h| .s _,_,h| .pn,_,h| .p _ _,_,h| .sl _ _ _,_,h| .sv _ _ _ _,_,h| .pe _ _ _ _,_,h| .m _,_,h| .mn,_,h| .eZ,_,h| .K0,_,h| .any,_,h=>by
   simp only[Ae]at h ⊢
   try exact h
 | .rp cs,_,h=>by
   simp only[Ae]at h ⊢;obtain⟨b,o,rfl,h⟩:=h;exact⟨b,o,rfl,BU.mono hle (fun i c e=>hle b i c e) cs o h⟩
 | .l es full,_,h=>by
   simp only[Ae]at h ⊢;obtain⟨a,cap,h1,h2,h3,h4,h5,h6⟩:=h;refine⟨a,cap,h1,h2,h3,h4,h5,fun hne=>?_⟩;obtain⟨b,o,sz,h7,h8⟩:=h6 hne;exact⟨b,o,sz,h7,BH.mono hle (fun i c e=>hle b i c e) sz es o h8⟩
 | .f fn first cap,_,h=>by
   simp only[Ae]at h ⊢;obtain⟨f',c',h1,h2,h3,h4,h5⟩:=h;exact⟨f',c',h1,h2,BU.mono hle (fun _ _ e=>e) first 0 h3,h4,BU.mono hle (fun _ _ e=>e) cap 0 h5⟩
 | .Lx t v,_,h=>by
   simp only[Ae]at h ⊢;obtain⟨c',h1,h2⟩:=h;exact⟨c',h1,Ae.mono hle v c' h2⟩
 | .a cs,_,h=>by
   simp only[Ae]at h ⊢;obtain⟨c',h1,h2,h3⟩:=h;exact⟨c',h1,h2,BU.mono hle (fun _ _ e=>e) cs 0 h3⟩
 | .t cs,_,h=>by
   simp only[Ae]at h ⊢;obtain⟨c',h1,h2,h3⟩:=h;exact⟨c',h1,h2,BU.mono hle (fun _ _ e=>e) cs 0 h3⟩
def BU.mono {H H':Nat->Nat->Option Value} (hle:ZO H H') {g g':Nat->Option Value} (hg: ∀i c,g i=some c->g' i=some c) :
    ∀(vs:List V) (o:Nat),BU H g o vs->BU H' g' o vs
 | [],_,_=>trivial
 | v::vs,o,h=>by
   simp only[BU]at h ⊢;obtain⟨⟨c,h1,h2⟩,h3⟩:=h;exact⟨⟨c,hg _ _ h1,Ae.mono hle v c h2⟩,BU.mono hle hg vs (o+1) h3⟩
def BH.mono {H H':Nat->Nat->Option Value} (hle:ZO H H') {g g':Nat->Option Value} (hg: ∀i c,g i=some c->g' i=some c) (sz:Nat) :
    ∀(es:List (List V)) (o:Nat),BH H g sz o es->BH H' g' sz o es
 | [],_,_=>trivial
 | e::es,o,h=>by
   simp only[BH]at h ⊢;obtain⟨h1,h2,h3⟩:=h;exact⟨h1,BU.mono hle hg e o h2,BH.mono hle hg sz es (o+sz) h3⟩
end
def F1.mono {H H':Nat->Nat->Option Value} (hle:ZO H H'): ∀(r:List (V×V)) (es:List MapEntry),F1 H r es->F1 H' r es
 | [],[],_=>trivial
 | (k,v)::r,e::es,h=>by
   simp only[F1]at h ⊢;exact⟨Ae.mono hle _ _ h.1,Ae.mono hle _ _ h.2.1,F1.mono hle r es h.2.2⟩
 | [],_::_,h=>h.elim
 | _::_,[],h=>h.elim
def Ph.mono {H H':Nat->Nat->Option Value} (hle:ZO H H') {o:O} {ob:Obj} (h:Ph H o ob):Ph H' o ob:=by
 cases o with
 | cs vs=>obtain⟨c,e,h1,h2,h3⟩:=h;exact⟨c,e,h1,h2,BU.mono hle (fun _ _ e=>e) _ _ h3⟩
 | arr sz es cap=>obtain⟨c,e,h1,h2,h3,h4,h5⟩:=h;exact⟨c,e,h1,h2,h3,h4,BH.mono hle (fun _ _ e=>e) _ _ _ h5⟩
 | map kvs=>obtain⟨es,clk,h1,h2,h3⟩:=h;exact⟨es,clk,h1,F1.mono hle _ _ h2,h3⟩
 | loop st env ok=>obtain⟨lp,h1,h2,h3,h4⟩:=h;exact⟨lp,h1,h2,fun k v hm=>let⟨c,h5,h6⟩:=h3 k v hm;⟨c,h5,h6.mono hle⟩,h4⟩
def GP {F:Nat->Prop} {Z:AD} {w:World} {b o:Nat} {c:Value} (h:Hh F Z w b o=some c) :
    ¬F b/\Z b=none/\w.cell? ⟨b,o,none⟩=some c:=by
 unfold Hh at h;split at h
 .cases h
 .rename_i hn
  refine⟨fun hl=>hn (.inl hl),?_,h⟩;cases hs:Z b with
  | none=>rfl
  | some o=>exact absurd (.inr (by simp[hs])) hn
def OP {F:Nat->Prop} {Z:AD} {w:World} {b o:Nat} (h1: ¬F b) (h2:Z b=none):Hh F Z w b o=w.cell? ⟨b,o,none⟩:=by
 unfold Hh;rw[if_neg];simp[h1,h2]
def oV {w:World} {b o:Nat} {c:Value} (h:w.cell? ⟨b,o,none⟩=some c):b<w.heap.size:=by
 unfold World.cell? at h;rcases Nat.lt_or_ge b w.heap.size with h'|h'
 .exact h'
 .simp[Array.getElem?_eq_none h']at h
def B3.hle {F:Nat->Prop} {Z Z':AD} {w w':World} (h:B3 F Z w Z' w'):ZO (Hh F Z w) (Hh F Z' w'):=by
 intro b o c hc;obtain⟨h1,h2,h3⟩:=GP hc;have hb:=oV h3;rw[OP h1 (h.names b h2 hb),World.cell?_of_block (w:=w) (h.frame b hb h2)];exact h3
def FQ {F:Nat->Prop} {Z Z':AD} {w:World} (hs: ∀n,Z n=none->Z' n=none):ZO (Hh F Z w) (Hh F Z' w):=by
 intro b o c hc;obtain⟨h1,h2,h3⟩:=GP hc;rw[OP h1 (hs b h2)];exact h3
def Sub (Z' Z:AD):Prop:= ∀n o,Z' n=some o->Z n=some o
def Sub.none {Z' Z:AD} (h:Sub Z' Z) {n:Nat} (hn:Z n=none):Z' n=none:=by
 cases h':Z' n with
 | none=>rfl
 | some o=>rw[h n o h']at hn;cases hn
def Sub.refl (Z:AD):Sub Z Z:=fun _ _ h=>h
def Sub.trans {a b c:AD} (h:Sub a b) (k:Sub b c):Sub a c:=fun n o e=>k n o (h n o e)
def Rel.drop {F:Nat->Prop} {Z Z':AD} {w:World} (h:Rel F Z w) (hs:Sub Z' Z):Rel F Z' w where
 own n o ho:=by
  obtain⟨h1,ob,h2,h3⟩:=h.own n o (hs n o ho);exact⟨h1,ob,h2,Ph.mono (FQ fun n hn=>hs.none hn) h3⟩
 lock:=h.lock
def B3.drop {F:Nat->Prop} {Z Z':AD} (w:World) (hs:Sub Z' Z):B3 F Z w Z' w:=
 ⟨fun _ _ _=>rfl,G0 _,rfl,rfl,rfl,fun _ hn _=>hs.none hn⟩
end Go.Gl
namespace Go.Gl
abbrev Env:=List (Nat×V)
def get (k:Nat):Env->Option V
 | []=>none
 | (j,v)::r=>bif Nat.beq j k then some v else get k r
inductive CG where
 | t (n:Nat)
 | c (v:V)
 deriving Inhabited
def ev (env:Env):CG->Option V
 | .t n=>get n env
 | .c v=>some v
def Xk (env:Env):List CG->Option (List V)
 | []=>some []
 | x::r=>match ev env x,Xk env r with
   | some v,some vs=>some (v::vs)
   | _,_=>none
def Bz (Z:AD) (n:Nat) (o:O):AD:=fun k=>if k=n then some o else Z k
def del (Z:AD) (n:Nat):AD:=fun k=>if k=n then none else Z k
mutual
inductive Fa (Z Z':AD):V->V->Prop
 | refl (v:V):Fa Z Z' v v
 | arr {n sz cap len:Nat} {es es':List (List V)}:Z n=some (.arr sz es cap)->Z' n=none->len=es.length->EL Z Z' es es'->Fa Z Z' (.sl n len cap) (.l es' false)
 | cs {n:Nat} {vs vs':List V}:Z n=some (.cs vs)->Z' n=none->Cm Z Z' vs vs'->Fa Z Z' (.p n 0) (.rp vs')
 | a {vs vs':List V}:Cm Z Z' vs vs'->Fa Z Z' (.a vs) (.a vs')
 | t {vs vs':List V}:Cm Z Z' vs vs'->Fa Z Z' (.t vs) (.t vs')
 | Lx {t:TypeId} {v v':V}:Fa Z Z' v v'->Fa Z Z' (.Lx t v) (.Lx t v')
 | l {es es':List (List V)} {f f':Bool}:(f'=true->f=true)->EL Z Z' es es'->Fa Z Z' (.l es f) (.l es' f')
 | rp {vs vs':List V}:Cm Z Z' vs vs'->Fa Z Z' (.rp vs) (.rp vs')
 | f {fn:Fn} {a a' b b':List V}:Cm Z Z' a a'->Cm Z Z' b b'->Fa Z Z' (.f fn a b) (.f fn a' b')
 | any {v:V}:Fa Z Z' v .any
inductive Cm (Z Z':AD):List V->List V->Prop
 | nil:Cm Z Z' [] []
 | cons {v v':V} {vs vs':List V}:Fa Z Z' v v'->Cm Z Z' vs vs'->Cm Z Z' (v::vs) (v'::vs')
inductive EL (Z Z':AD):List (List V)->List (List V)->Prop
 | nil:EL Z Z' [] []
 | cons {v v':List V} {vs vs':List (List V)}:Cm Z Z' v v'->EL Z Z' vs vs'->EL Z Z' (v::vs) (v'::vs')
end
inductive KS where
 | i (k:IntKind)
 | a (l:List IntKind)
 | s
 deriving Inhabited
inductive Ht where
 | mv (x:CG)
 | xS (x:CG)
 | pick (c a b:CG)
 | bin (op:BinOp) (x y:CG)
 | xW (neg:Bool) (x y:CG)
 | xV (len:Nat) (neg:Bool) (x y:CG)
 | qW (kind:Nat) (neg:Bool) (x:CG)
 | not (x:CG)
 | neg (xor:Bool) (x:CG)
 | conv(k:IntKind) (x:CG)
 | box (x:CG)
 | To (x:CG)
 | Xy (sz bytes:Nat) (x y:CG)
 | alloc (zero:List V)
 | build (zero:List V) (parts:List (Nat×Nat×CG))
 | Nh (sz len:Nat) (zero:List V) (parts:List (Nat×CG))
 | load (agg:Option Nat) (x:CG)
 | store (sz:Nat) (a x:CG)
 | MA (off:Nat) (x:CG)
 | field (agg:Option Nat) (off:Nat) (x:CG)
 | SQ (sz:Nat) (arr:Option Nat) (x i:CG)
 | index (len sz:Nat) (agg:Option Nat) (x i:CG)
 | slice (sz:Nat) (x:CG) (lo hi mx:Option CG)
 | len (x:CG)
 | bZ (x:CG)
 | str (x:CG)
 | eO (x i:CG)
 | append (sz bytes:Nat) (x y:CG)
 | copy (sz:Nat) (x y:CG)
 | eV (x y:CG)
 | eT (x y:CG)
 | extract (i:Nat) (x:CG)
 | Po (x:CG)
 | qP (f:Fn) (first cap:List CG)
 | Vd
 | KO (sz bytes:Nat) (zero:List V) (len cap:CG)
 | lookup (ks:KS) (zero:V) (ok:Bool) (m k:CG)
 | Hg (ks:KS) (m k v:CG)
 | Ve (t:TypeId) (x:CG)
 | qL (t:TypeId) (zero:V) (ok:Bool) (x:CG)
 | panic (x:CG)
 | call (f:FuncId) (args:List CG)
 | SR (f:FuncId) (args:List CG)
 | Pv (x:CG) (args:List CG)
 | gw (x:CG) (args:List CG)
 | inv (tab:List (TypeId×FuncId)) (x:CG) (args:List CG)
 deriving Inhabited
abbrev wv (o:Option V) (k:V->Prop):Prop:=match o with|some v=>k v|none=>False
@[simp] theorem HD (v:V) (k:V->Prop):wv (some v) k=k v:=rfl
@[simp] theorem AAF (k:V->Prop):wv none k=False:=rfl
def bits (op:BinOp) (k:IntKind) (x y:Int):Int:=
 let a:=BitVec.ofInt k.bits x
 let b:=BitVec.ofInt k.bits y
 k.wrap (match op with
  | .and=>a&&&b
  | .or=>a|||b
  | .xor=>a ^^^ b
  | _=>a&&& ~~~b:BitVec k.bits).toNat
def bc (op:BinOp) (x y:V) (k:V->Prop):Prop:=
 match x,y with
 | .i ka a,.i kb b=>
   match op with
   | .add=>ka=kb/\k (.i ka (ka.wrap (a+b)))
   | .sub=>ka=kb/\k (.i ka (ka.wrap (a - b)))
   | .mul=>ka=kb/\k (.i ka (ka.wrap (a*b)))
   | .quo=>ka=kb/\b≠0/\k (.i ka (ka.wrap (a.tdiv b)))
   | .rem=>ka=kb/\b≠0/\k (.i ka (a.tmod b))
   | .eql=>ka=kb/\k (.b (a==b))
   | .neq=>ka=kb/\k (.b (a != b))
   | .lss=>ka=kb/\k (.b (decide (a<b)))
   | .leq=>ka=kb/\k (.b (decide (a<=b)))
   | .gtr=>ka=kb/\k (.b (decide (a > b)))
   | .geq=>ka=kb/\k (.b (decide (a≥b)))
   | .shl=>0<=b/\k (.i ka (ka.wrap (a*2 ^ (min b.toNat ka.bits))))
   | .shr=>0<=b/\k (.i ka (a.fdiv (2 ^ (min b.toNat ka.bits))))
   | op=>ka=kb/\k (.i ka (bits op ka a b))
 | _,_=>False
def cellsOf:V->Option (List V)
 | .a cs=>some cs
 | .t _=>none
 | .any=>none
 | v=>some [v]
def DL:V->Bool
 | .a _=>false
 | .t _=>false
 | .any=>false
 | _=>true
def putAt:List V->Nat->List V->List V
 | cs,_,[]=>cs
 | cs,o,v::vs=>putAt (cs.set o v) (o+1) vs
def ON (env:Env):List V->List (Nat×Nat×CG)->Option (List V)
 | cs,[]=>some cs
 | cs,(off,sz,x)::r=>
   match ev env x with
   | some v=>match cellsOf v with
     | some vc=>bif Nat.beq vc.length sz&&Nat.ble (off+sz) cs.length then ON env (putAt cs off vc) r else none
     | none=>none
   | none=>none
def L9 (env:Env) (sz:Nat):List (List V)->List (Nat×CG)->Option (List (List V))
 | es,[]=>some es
 | es,(i,x)::r=>
   match ev env x with
   | some v=>match cellsOf v with
     | some vc=>bif Nat.beq vc.length sz&&Nat.blt i es.length then L9 env sz (es.set i vc) r else none
     | none=>none
   | none=>none
def cut (agg:Option Nat) (cs:List V) (off:Nat) (k:V->Prop):Prop:=
 match agg with
 | none=>match cs[off]? with|some v=>k v|none=>False
 | some n=>off+n<=cs.length/\k (.a ((cs.drop off).take n))
def SK (Z:AD) (n off:Nat) (agg:Option Nat) (k:V->Prop):Prop:=
 match Z n with
 | some (.cs vs)=>cut agg vs off k
 | _=>False
def SL (Z:AD) (n sz i off:Nat) (agg:Option Nat) (k:V->Prop):Prop:=
 match Z n with
 | some (.arr sz' es _)=>sz=sz'/\match es[i]? with|some e=>cut agg e off k|none=>False
 | _=>False
def AS (Z:AD) (agg:Option Nat) (x:V) (k:V->Prop):Prop:=
 match x with
 | .rp cs=>cut agg cs 0 k
 | .p n off=>SK Z n off agg k
 | .pe n sz i off=>SL Z n sz i off agg k
 | _=>False
def AR (Z:AD) (sz:Nat) (a x:V) (k:AD->Prop):Prop:=
 match cellsOf x with
 | some vc=>
   vc.length=sz/\vc.all DL=true/\match a with
   | .p n off=>match Z n with
     | some (.cs vs)=>off+sz<=vs.length/\k (Bz Z n (.cs (putAt vs off vc)))
     | _=>False
   | .pe n s i off=>match Z n with
     | some (.arr s' es cap)=>s=s'/\match es[i]? with
       | some e=>off+sz<=s/\k (Bz Z n (.arr s (es.set i (putAt e off vc)) cap))
       | none=>False
     | _=>False
   | _=>False
 | none=>False
def Na (off:Nat) (x:V) (k:V->Prop):Prop:=
 match x with
 | .rp cs=>k (.rp (cs.drop off))
 | .p n o=>k (.p n (o+off))
 | .pe n sz i o=>k (.pe n sz i (o+off))
 | _=>False
def AQ (sz:Nat) (arr:Option Nat) (x i:V) (k:V->Prop):Prop:=
 match i with
 | .i _ j=>match arr,x with
   | none,.l es _=>0<=j/\ ∃e,es[j.toNat]? =some e/\e.length=sz/\k (.rp e)
   | none,.sl n len _=>0<=j/\j<len/\k (.pe n sz j.toNat 0)
   | none,.sv n s off len=>s=sz/\0<=j/\j<len/\k (.pe n sz (off+j.toNat) 0)
   | some m,.rp cs=>0<=j/\j<m/\k (.rp (cs.drop (j.toNat*sz)))
   | some m,.p n o=>0<=j/\j<m/\k (.p n (o+j.toNat*sz))
   | some m,.pe n s q o=>0<=j/\j<m/\k (.pe n s q (o+j.toNat*sz))
   | _,_=>False
 | _=>False
def NZ (len sz:Nat) (agg:Option Nat) (x i:V) (k:V->Prop):Prop:=
 match x,i with
 | .a cs,.i _ j=>0<=j/\j<len/\cut agg cs (j.toNat*sz) k
 | _,_=>False
def SO (x i:V) (k:V->Prop):Prop:=
 match x,i with
 | .s b,.i _ j=>0<=j/\match b.data.toList[j.toNat]? with|some c=>k (.i .u8 c.toNat)|none=>False
 | _,_=>False
def Ap (x:V) (k:V->Prop):Prop:=
 match x with
 | .l es _=>k (.i .i64 es.length)
 | .sl _ len _=>len<=AZ/\k (.i .i64 len)
 | .sv _ _ _ len=>len<=AZ/\k (.i .i64 len)
 | _=>False
def OI (Z:AD) (x:V) (k:V->Prop):Prop:=
 match x with
 | .m n=>match Z n with
   | some (.map kvs)=>kvs.length<=AZ/\k (.i .i64 kvs.length)
   | _=>False
 | .mn=>k (.i .i64 0)
 | _=>False
def rowsOf (Z:AD) (sz:Nat) (y:V) (k:List (List V)->Prop):Prop:=
 match y with
 | .l ys _=>(∀e∈ys,e.length=sz)/\k ys
 | .sl m len _=>match Z m with
   | some (.arr s ys _)=>s=sz/\len<=ys.length/\k (ys.take len)
   | _=>False
 | .sv m s off len=>match Z m with
   | some (.arr s' ys _)=>s=sz/\s'=sz/\off+len<=ys.length/\k ((ys.drop off).take len)
   | _=>False
 | _=>False
def Ju:List (List V)->Option (List Int)
 | []=>some []
 | [.i .u8 n]::r=>match Ju r with|some l=>some (n::l)|none=>none
 | _=>none
def lh (Z:AD) (x:V) (k:V->Prop):Prop:=rowsOf Z 1 x fun ys=>match Ju ys with|some ns=>k (.s ⟨(ns.map fun n=>UInt8.ofNat n.toNat).toArray⟩)|none=>False
def AI (b : Nat) (Z:AD) (sz:Nat) (x y:V) (k:V->AD->Prop):Prop:=
 rowsOf Z sz y fun ys=>
 (∀e∈ys,∀v∈e,DL v=true)/\match x with
 | .l es full=>(∀e∈es,e.length=sz)/\(es.length+ys.length<=AZ/\(es.length+ys.length)*b<=140737488355328)/\(ys= []->k (.l es full) Z)/\
  (ys≠[]->full=true/\ ∀n cap,Z n=none->es.length+ys.length<=cap->k (.sl n (es.length+ys.length) cap) (Bz Z n (.arr sz (es++ys) cap)))
 | .sl n len cap=>match Z n with
   | some (.arr s es c)=>s=sz/\c=cap/\len=es.length/\(es.length+ys.length<=AZ/\(es.length+ys.length)*b<=140737488355328)/\
    ∀ n' cap',del Z n n'=none->es.length+ys.length<=cap'->
      k (.sl n' (es.length+ys.length) cap') (Bz (del Z n) n' (.arr sz (es++ys) cap'))
   | _=>False
 | _=>False
def Tm (Z:AD) (sz:Nat) (ys:List (List V)) (n off len:Nat) (k:V->AD->Prop):Prop:=
 match Z n with
 | some (.arr s es c)=>s=sz/\off+len<=es.length/\k (.i .i64 (min ys.length len:Nat)) (Bz Z n (.arr s (es.take off++(ys.take (min ys.length len)++es.drop (off+min ys.length len))) c))
 | _=>False
def AT (Z:AD) (sz:Nat) (x y:V) (k:V->AD->Prop):Prop:=
 rowsOf Z sz y fun ys=>(∀e∈ys,∀v∈e,DL v=true)/\match x with
 | .sl n len _=>Tm Z sz ys n 0 len k
 | .sv n s off len=>s=sz/\Tm Z sz ys n off len k
 | _=>False
def AU (b:Nat) (Z:AD) (sz:Nat) (x y:V) (k:V->Prop):Prop:=
 rowsOf Z sz y fun ys=>
 (∀e∈ys,∀v∈e,DL v=true)/\match x with
 | .l es full=>(∀e∈es,e.length=sz)/\(es.length+ys.length<=AZ/\(es.length+ys.length)*b<=140737488355328)/\(ys≠[]->full=true)/\k (.l (es++ys) false)
 | _=>False
def OD (o:Option V) (d:Int) (k:Int->Prop):Prop:=
 match o with
 | none=>k d
 | some (.i _ n)=>k n
 | _=>False
def AP (Z:AD) (sz:Nat) (x:V) (lo hi mx:Option V) (k:V->AD->Prop):Prop:=
 match x with
 | .l es full=>(∀e∈es,e.length=sz)/\OD hi es.length fun h=>OD lo 0 fun l=>0<=l/\l<=h/\h<=es.length/\
  match mx with
  | none=>k (.l ((es.take h.toNat).drop l.toNat) (full&&decide (h=es.length))) Z
  | some (.i _ m)=>m=h/\k (.l ((es.take h.toNat).drop l.toNat) true) Z
  | _=>False
 | .sl n len cap=>OD hi len fun h=>OD lo 0 fun l=>0<=l/\l<=h/\h<=len/\
  match mx with
  | none=>k (.sv n sz l.toNat (h - l).toNat) Z
  | some (.i _ m)=>m=h/\h=len/\l=0/\match Z n with
    | some (.arr s es c)=>s=sz/\c=cap/\len=es.length/\(k (.l es true) (del Z n)\/k (.sl n len len) (Bz Z n (.arr s es len)))
    | _=>False
  | _=>False
 | .sv n s off len=>OD hi len fun h=>OD lo 0 fun l=>0<=l/\l<=h/\h<=len/\s=sz/\mx=none/\k (.sv n sz (off+l.toNat) (h - l).toNat) Z
 | _=>False
def Jo (env:Env):Option CG->Option (Option V)
 | none=>some none
 | some x=>match ev env x with|some v=>some (some v)|none=>none
abbrev wo (o:Option (Option V)) (k:Option V->Prop):Prop:=match o with|some v=>k v|none=>False
@[simp] theorem Zh (v:Option V) (k:Option V->Prop):wo (some v) k=k v:=rfl
abbrev ws (o:Option (List V)) (k:List V->Prop):Prop:=match o with|some v=>k v|none=>False
@[simp] theorem AAG (v:List V) (k:List V->Prop):ws (some v) k=k v:=rfl
abbrev wr (o:Option (List (List V))) (k:List (List V)->Prop):Prop:=match o with|some v=>k v|none=>False
@[simp] theorem AAH (v:List (List V)) (k:List (List V)->Prop):wr (some v) k=k v:=rfl
def CI:List V->List V->Option Bool
 | [],[]=>some true
 | .i k a::r,.i k' b::s=>if k=k' then(CI r s).map ((a==b)&& ·)else none
 | _,_=>none
def Xs (len:Nat) (neg:Bool) (x y:V) (k:V->Prop):Prop:=
 match x,y with
 | .a cs,.a ds=>match Nat.beq cs.length len,CI cs ds with|true,some t=>k (.b (bif neg then !t else t))|_,_=>False
 | _,_=>False
def VJ (kind:Nat) (neg:Bool) (x:V) (k:V->Prop):Prop:=
 match kind,x with
 | 0,.pn=>k (.b (!neg))
 | 0,.rp _|0,.p _ _|0,.pe _ _ _ _=>k (.b neg)
 | 1,.sl _ _ _=>k (.b neg)
 | 1,.l es _=>(es= []-> ∀t,k (.b t))/\(es≠[]->k (.b neg))
 | 2,.K0=>k (.b (!neg))
 | 2,.Lx _ _=>k (.b neg)
 | 3,.mn=>k (.b (!neg))
 | 3,.m _=>k (.b neg)
 | 4,.eZ=>k (.b (!neg))
 | 4,.f _ _ _=>k (.b neg)
 | _,_=>False
def AJ (Z:AD) (sz:Nat) (z:List V) (x y:V) (k:V->AD->Prop):Prop:=
 match x,y with
 | .i _ n,.i _ m=>0<=n/\n<=m/\m<=1073741824/\ ∀id,Z id=none->k (.sl id n.toNat m.toNat) (Bz Z id (.arr sz (List.replicate n.toNat z) m.toNat))
 | _,_=>False
def FM:List IntKind->List V->Bool
 | [],[]=>true
 | q::l,.i q' _::cs=>decide (q=q')&&FM l cs
 | _,_=>false
def Bf (ks:KS) (v:V):Bool:=
 match ks,v with
 | .i k,.i k' _=>decide (k=k')
 | .a l,.a cs=>FM l cs
 | .s,.s b=>Nat.ble b.size 1048576
 | _,_=>false
def D1 (x y:V):Bool:=
 match x,y with
 | .i _ a,.i _ b=>a==b
 | .s b,.s c=>decide (b=c)
 | .a cs,.a ds=>(CI cs ds).getD false
 | _,_=>false
def Cs (key:V):List (V×V)->Option V
 | []=>none
 | (k,v)::r=>bif D1 key k then some v else Cs key r
def Dy (key val:V):List (V×V)->List (V×V)
 | []=>[(key,val)]
 | (k,v)::r=>bif D1 key k then(key,val)::r else(k,v)::Dy key val r
def found (z:V) (ok:Bool) (o:Option V):V:=match o with|some v=>bif ok then .t [v,.b true]else v|none=>bif ok then .t [z,.b false]else z
def AM (Z:AD) (ks:KS) (z:V) (ok:Bool) (vm vk:V) (k:V->Prop):Prop:=
 Bf ks vk=true/\match vm with
 | .m n=>match Z n with
   | some (.map kvs)=>(∀kv∈kvs,Bf ks kv.1=true)/\k (found z ok (Cs vk kvs))
   | _=>False
 | .mn=>k (found z ok none)
 | _=>False
def AN (Z:AD) (ks:KS) (vm vk vv:V) (k:AD->Prop):Prop:=
 Bf ks vk=true/\match vm with
 | .m n=>match Z n with
   | some (.map kvs)=>(∀kv∈kvs,Bf ks kv.1=true)/\k (Bz Z n (.map (Dy vk vv kvs)))
   | _=>False
 | _=>False
inductive R where
 | ret (v:V)
 | Cu (v:V)
def VT (H:Nat->Nat->Option Value):R->Ending->Prop
 | .ret v,e=> ∃c,e= .returned c/\Ae H v c
 | .Cu v,e=> ∃c,e= .panicked [{v:=c,recovered:=false}]/\Ae H v c
def okF (P:Program) (f:FuncId):Bool:=
 match P.funcs[f]? with
 | some fn=>fn.body.isSome&&fn.name != "runtime.NumGoroutine"
 | none=>false
def eG (H:Nat->Nat->Option Value) (vs:List V) (cs:Array Value):Prop:=cs.size=vs.length/\BU H (fun i=>cs[i]?) 0 vs
def As (P:Program) (f:FuncId) (args:List V) (Z:AD) (Q:R->AD->Prop):Prop:=
 okF P f=true/\ ∀(F:Nat->Prop) (w:World) (cs:Array Value),Rel F Z w->eG (Hh F Z w) args cs->
  Calls P f cs w fun e w'=> ∃r Z',Q r Z'/\VT (Hh F Z' w') r e/\Rel F Z' w'/\B3 F Z w Z' w'
def Oy (P:Program) (l:Nat) (args:List V) (Z:AD) (Q:R->AD->Prop):Prop:=
 ∀ (F:Nat->Prop) (w:World) (cs:Array Value),Rel F Z w->eG (Hh F Z w) args cs->
   ∃ f tmps assign body,(Instr.yield l cs).run P w= .ok (.round l f tmps assign body) w/\
     RoundIn Fence.wide 0 P l f tmps assign body w fun e w'=> ∃r Z',Q r Z'/\VT (Hh F Z' w') r e/\Rel F Z' w'/\B3 F Z w Z' w'
def Ag (P:Program) (x:V) (args:List V) (Z:AD) (Q:R->AD->Prop):Prop:=
 match x with
 | .f (.func f) first cap=>As P f (first++args++cap) Z Q
 | .f (.yield l) [] []=>Oy P l args Z Q
 | _=>False
def look (t:TypeId):List (TypeId×FuncId)->Option FuncId
 | []=>none
 | (u,f)::r=>bif Nat.beq u t then some f else look t r
def Ar (P:Program) (tab:List (TypeId×FuncId)) (x:V) (args:List V) (Z:AD) (Q:R->AD->Prop):Prop:=
 match x with
 | .Lx t v=>match look t tab with
   | some f=>As P f (v::args) Z Q
   | none=>False
 | _=>False
def qk (k kp:V->AD->Prop):R->AD->Prop
 | .ret v,Z=>k v Z
 | .Cu v,Z=>kp v Z
def F6 (P:Program) (o:Ht) (env:Env) (Z:AD) (k kp:V->AD->Prop):Prop:=
 match o with
 | .mv x=>wv (ev env x) fun v=>k v Z
 | .xS x=>wv (ev env x) fun v=> ∃vf Z2,Sub Z2 Z/\Fa Z Z2 v vf/\k vf Z2
 | .pick c a b=>wv (ev env c) fun vc=>wv (ev env a) fun va=>wv (ev env b) fun vb=>
  match vc with| .b t=>(match va,vb with| .b x,.b y=>k (.b (bif t then x else y)) Z|_,_=>k (bif t then va else vb) Z)|_=>False
 | .bin op x y=>wv (ev env x) fun vx=>wv (ev env y) fun vy=>bc op vx vy fun v=>k v Z
 | .xW neg x y=>wv (ev env x) fun vx=>wv (ev env y) fun vy=>
  match vx,vy with| .b p,.b q=>k (.b (bif neg then p != q else p==q)) Z|_,_=>False
 | .not x=>wv (ev env x) fun vx=>match vx with| .b p=>k (.b (!p)) Z|_=>False
 | .neg xor x=>wv (ev env x) fun vx=>match vx with
  | .i ka a=>k (.i ka (bif xor then bits .xor ka (bif ka.signed then -1 else ka.max) a else ka.wrap (0 - a))) Z
  | _=>False
 | .conv ka x=>wv (ev env x) fun vx=>match vx with| .i _ a=>k (.i ka (ka.wrap a)) Z|_=>False
 | .box x=>wv (ev env x) fun vx=>match cellsOf vx with
  | some cs=> ∀n,Z n=none->k (.p n 0) (Bz Z n (.cs cs))
  | none=>False
 | .To x=>wv (ev env x) fun vx=>match cellsOf vx with
  | some cs=>k (.rp cs) Z
  | none=>False
 | .Xy sz b x y=>wv (ev env x) fun vx=>wv (ev env y) fun vy=>AU b Z sz vx vy fun v=>k v Z
 | .alloc z=> ∀n,Z n=none->k (.p n 0) (Bz Z n (.cs z))
 | .build z parts=>ws (ON env z parts) fun cs=>k (.a cs) Z
 | .Nh _ len z parts=>wr (L9 env z.length (List.replicate len z) parts) fun es=>k (.l es true) Z
 | .load agg x=>wv (ev env x) fun vx=>AS Z agg vx fun v=>k v Z
 | .store sz a x=>wv (ev env a) fun va=>wv (ev env x) fun vx=>AR Z sz va vx fun Z'=>k (.t []) Z'
 | .MA off x=>wv (ev env x) fun vx=>Na off vx fun v=>k v Z
 | .field agg off x=>wv (ev env x) fun vx=>match vx with| .a cs=>cut agg cs off fun v=>k v Z|_=>False
 | .SQ sz arr x i=>wv (ev env x) fun vx=>wv (ev env i) fun vi=>AQ sz arr vx vi fun v=>k v Z
 | .index len sz agg x i=>wv (ev env x) fun vx=>wv (ev env i) fun vi=>NZ len sz agg vx vi fun v=>k v Z
 | .slice sz x lo hi mx=>wv (ev env x) fun vx=>wo (Jo env lo) fun l=>wo (Jo env hi) fun h=>wo (Jo env mx) fun m=>AP Z sz vx l h m k
 | .len x=>wv (ev env x) fun vx=>Ap vx fun v=>k v Z
 | .bZ x=>wv (ev env x) fun vx=>OI Z vx fun v=>k v Z
 | .eO x i=>wv (ev env x) fun vx=>wv (ev env i) fun vi=>SO vx vi fun v=>k v Z
 | .str x=>wv (ev env x) fun vx=>lh Z vx fun v=>k v Z
 | .append sz b x y=>wv (ev env x) fun vx=>wv (ev env y) fun vy=>AI b Z sz vx vy k
 | .copy sz x y=>wv (ev env x) fun vx=>wv (ev env y) fun vy=>AT Z sz vx vy k
 | .eV x y=>wv (ev env x) fun vx=>wv (ev env y) fun vy=>match vx,vy with
  | .i ka a,.i kb b=>ka=kb/\k (.i ka (if b > a then b else a)) Z
  | _,_=>False
 | .eT x y=>wv (ev env x) fun vx=>wv (ev env y) fun vy=>match vx,vy with
  | .i ka a,.i kb b=>ka=kb/\k (.i ka (if b<a then b else a)) Z
  | _,_=>False
 | .extract i x=>wv (ev env x) fun vx=>match vx with| .t vs=>(match vs[i]? with|some v=>k v Z|none=>False)|_=>False
 | .Po x=>wv (ev env x) fun vx=>match vx with
  | .p n off=>k (.p n off) Z
  | .rp cs=>k (.rp cs) Z
  | .pe n sz i off=>k (.pe n sz i off) Z
  | .f (.func f) first cap=>k (.f (.func f) first cap) Z
  | .f (.yield l) first cap=>k (.f (.yield l) first cap) Z
  | _=>False
 | .qP f first cap=>ws (Xk env first) fun vf=>ws (Xk env cap) fun vc=>k (.f f vf vc) Z
 | .Ve t x=>wv (ev env x) fun vx=>k (.Lx t vx) Z
 | .qL t z ok x=>wv (ev env x) fun vx=>match vx with
  | .Lx t' v=>(t'=t->k (bif ok then .t [v,.b true]else v) Z)/\(t'≠t->ok=true/\k (.t [z,.b false]) Z)
  | .K0=>ok=true/\k (.t [z,.b false]) Z
  | _=>False
 | .panic x=>wv (ev env x) fun vx=>match vx with| .Lx t v=>kp (.Lx t v) Z|_=>False
 | .call f args=>ws (Xk env args) fun vs=>As P f vs Z (qk k kp)
 | .xV len neg x y=>wv (ev env x) fun vx=>wv (ev env y) fun vy=>Xs len neg vx vy fun v=>k v Z
 | .qW kind neg x=>wv (ev env x) fun vx=>VJ kind neg vx fun v=>k v Z
 | .KO sz _ z x y=>wv (ev env x) fun vx=>wv (ev env y) fun vy=>AJ Z sz z vx vy k
 | .Vd=> ∀n,Z n=none->k (.m n) (Bz Z n (.map []))
 | .lookup ks z ok m key=>wv (ev env m) fun vm=>wv (ev env key) fun vk=>AM Z ks z ok vm vk fun v=>k v Z
 | .Hg ks m key x=>wv (ev env m) fun vm=>wv (ev env key) fun vk=>wv (ev env x) fun vx=>AN Z ks vm vk vx fun Z'=>k (.t []) Z'
 | .SR f args=>ws (Xk env args) fun vs=> ∃v,As P f vs (fun _=>none) (fun r Z'=>r= .ret v/\Z'=fun _=>none)/\k v Z
 | .Pv x args=>wv (ev env x) fun vx=>ws (Xk env args) fun vs=>Ag P vx vs Z (qk k kp)
 | .inv tab x args=>wv (ev env x) fun vx=>ws (Xk env args) fun vs=>Ar P tab vx vs Z (qk k kp)
 | _=>False
end Go.Gl
