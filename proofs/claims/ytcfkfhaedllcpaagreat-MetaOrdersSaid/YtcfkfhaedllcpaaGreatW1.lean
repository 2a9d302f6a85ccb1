import Derived.OrdersIn
import Derived.Below
set_option linter.all false
set_option linter.defProp false
set_option maxHeartbeats 8000000
noncomputable section
namespace Go.Gl
def kZ {n m:Nat} (h:Nat.ble n m=true:=by exact rfl):n<=m:=Nat.le_of_ble_eq_true h
abbrev Cy:=@List.getElem?_eq_getElem
abbrev B1:=@List.mem_of_getElem?
abbrev BU:=@List.length_map
abbrev DH:=@List.getD_eq_getElem?_getD
abbrev CN:=@decide_eq_true_eq
abbrev BD:=@Bool.and_eq_true
abbrev Md:=@List.getElem?_map
abbrev Hl:=@Option.some.injEq
abbrev RU:=@List.mem_append_left
abbrev RT:=@List.mem_append_right
abbrev jq:=@List.getElem?_append_left
abbrev E4:=@List.mem_append
abbrev E3:=@List.all_eq_true
abbrev LG:=@Bool.false_eq_true
abbrev RQ:=@List.length_append
abbrev LF:=@List.length_cons
abbrev Mg:=@List.mem_map
abbrev W6:=@Option.map_some
abbrev nr:=@List.getElem?_cons_zero
abbrev vT:=@List.getElem?_cons_succ
abbrev nq:=@Array.getElem?_eq_some_iff
abbrev pF:=@List.length_drop
abbrev Mf:=@List.length_take
abbrev vS:=@List.getElem?_drop
abbrev Fm:=@List.mem_cons
abbrev Wx:=@List.append_assoc
abbrev LH:=@List.mem_filter
abbrev EU:=@beq_iff_eq
abbrev xm:=@bne_iff_ne
abbrev DG:=@Sem.run_bind
abbrev Ej:=@Sem.run_pure
abbrev GS:=@Result.andThen_ok
abbrev IN:=@List.getElem?_eq_some_iff
abbrev Ex:=@List.map_cons
abbrev Fl:=@Bool.or_eq_true
abbrev Mc:=@List.sublist_cons_self
abbrev JP:=@Int.toNat_natCast
abbrev Ip:=@List.append_nil
abbrev Gj:=@Nat.zero_add
abbrev J1:=@Bool.eq_iff_iff
abbrev G7:=@Bool.true_and
abbrev Qs:=@List.length_filter_le
abbrev UX:=@Nat.eq_of_beq_eq_true
abbrev UW:=@Nat.mul_le_mul_right
abbrev J0:=@List.any_eq_true
abbrev KG:=@List.nil_sublist
abbrev Io:=@Nat.le_refl
abbrev Yh:=@List.length_eq_zero_iff
abbrev LD:=@List.mem_singleton
abbrev RP:=@List.perm_append_comm
abbrev LC:=@List.all_cons
abbrev Uf:=@List.map_append
abbrev Q1:=@List.any_cons
end Go.Gl
namespace Go.Gl
def AY:Nat:=17592186044416
inductive V where
 | b (x:Bool)
 | i (k:IntKind) (n:Int)
 | s (x:ByteArray)
 | pn
 | p (n off:Nat)
 | rp (cs:List V)
 | l (es:List (List V)) (full:Bool)
 | sl (n len cap:Nat)
 | sv (n sz off len:Nat)
 | pe (n sz i off:Nat)
 | m (n:Nat)
 | mn
 | f (fn:Fn) (first cap:List V)
 | LN
 | Ey (t:TypeId) (v:V)
 | DZ
 | a (cs:List V)
 | t (vs:List V)
 | any
 deriving Inhabited
def xn:V->Bool
 | .i .u8 _=>true
 | .any=>true
 | _=>false
def jr:List V->Bool
 | [v]=>xn v
 | _=>false
def Iy (es:List (List V)):Nat:=if es.all jr then 140737488355328 else AY
def l9 (es:List (List V)):AY<=Iy es:=by
 unfold Iy AY;split<;>omega
def l8 (es:List (List V)):Iy es<=140737488355328:=by
 unfold Iy AY;split<;>omega
def Lg {es:List (List V)} {n:Nat} (h:n<=AY):n<=Iy es:=Nat.le_trans h (l9 es)
def ib {α:Type} {enc:α->List V} {xs:List α} (h: ∀x,jr (enc x)=false) (hl:(xs.map enc).length<=Iy (xs.map enc)):xs.length<=AY:=by
 cases xs with
 | nil=>simp
 | cons x r=>
   have e:((x::r).map enc).all jr=false:=by rw[Ex,LC,h x];rfl
   rw[Iy,e,BU]at hl;exact hl
def Vk {es es':List (List V)} (h: ∀e∈es',e∈es) {n m:Nat} (hn:n<=Iy es) (hm:m<=n):m<=Iy es':=by
 unfold Iy at *;split at hn
 .rename_i he
  have:es'.all jr=true:=by
   rw[E3]at he ⊢;exact fun e h2=>he e (h e h2)
  rw[if_pos this];omega
 .split
  .unfold AY at hn;omega
  .omega
mutual
def Ab (H:Nat->Nat->Option Value):V->Value->Prop
 | .b x,c=>c= .bool x
 | .i k n,c=>c= .int k n/\k.min<=n/\n<=k.max
 | .s x,c=>c= .string x
 | .pn,c=>c= .pointer none
 | .p n off,c=>c= .pointer (some ⟨n,off,none⟩)
 | .rp cs,c=> ∃b o,c= .pointer (some ⟨b,o,none⟩)/\BT H (H b) o cs
 | .l es full,c=> ∃a cap,c= .slice a es.length cap/\es.length<=cap/\(full=true->cap=es.length)/\es.length<=Iy es/\(a=none->cap=0)/\
  (es≠[]-> ∃b o sz,a=some ⟨b,o,none⟩/\BH H (H b) sz o es)
 | .sl n len cap,c=>c= .slice (some ⟨n,0,none⟩) len cap/\len<=cap
 | .sv n sz off len,c=> ∃a cap,c= .slice a len cap/\len<=cap/\(len≠0->a=some ⟨n,off*sz,none⟩)
 | .pe n sz i off,c=>c= .pointer (some ⟨n,i*sz+off,none⟩)
 | .m n,c=>c= .map (some n)
 | .mn,c=>c= .map none
 | .f fn first cap,c=> ∃f' c',c= .func fn f' c'/\f'.size=first.length/\BT H (fun i=>f'[i]?) 0 first/\c'.size=cap.length/\BT H (fun i=>c'[i]?) 0 cap
 | .LN,c=>c= .nilFunc
 | .Ey t v,c=> ∃c',c= .iface t c'/\Ab H v c'
 | .DZ,c=>c= .nilIface
 | .a cs,c=> ∃c',c= .agg c'/\c'.size=cs.length/\BT H (fun i=>c'[i]?) 0 cs
 | .t vs,c=> ∃c',c= .tuple c'/\c'.size=vs.length/\BT H (fun i=>c'[i]?) 0 vs
 | .any,_=>True
def BT (H:Nat->Nat->Option Value) (g:Nat->Option Value):Nat->List V->Prop
 | _,[]=>True
 | o,v::vs=>(∃c,g o=some c/\Ab H v c)/\BT H g (o+1) vs
def BH (H:Nat->Nat->Option Value) (g:Nat->Option Value) (sz:Nat):Nat->List (List V)->Prop
 | _,[]=>True
 | o,e::es=>e.length=sz/\BT H g o e/\BH H g sz (o+sz) es
end
inductive vj where
 | ready
 | ret
 | exit (id:Nat)
inductive O where
 | cs (vs:List V)
 | arr (sz:Nat) (es:List (List V)) (cap:Nat)
 | map (kvs:List (V×V))
 | loop (st:vj) (env:List (Nat×V)) (ok:FuncId->Array Tmp->Code->Code->Nat->Prop)
 deriving Inhabited
def pW:vj->Loop->Prop
 | .ready,lp=>lp.state= .ready/\lp.pending=none
 | .ret,lp=>lp.state= .done/\lp.pending=some .ret
 | .exit id,lp=>lp.state= .done/\lp.pending=some (.exit id)
def Fb (H:Nat->Nat->Option Value):List (V×V)->List MapEntry->Prop
 | [],[]=>True
 | (k,v)::r,e::es=>Ab H k e.key/\Ab H v e.val/\Fb H r es
 | _,_=>False
def O8 (H:Nat->Nat->Option Value):O->Obj->Prop
 | .cs vs,o=> ∃c e,o= .cells c e (0,0)/\c.size=vs.length/\BT H (fun i=>c[i]?) 0 vs
 | .arr sz es cap,o=> ∃c e,o= .cells c e (0,0)/\cap*sz<=c.size/\es.length<=cap/\es.length<=AY/\BH H (fun i=>c[i]?) sz 0 es
 | .map kvs,o=> ∃es clk,o= .map es clk/\Fb H kvs es.toList/\es.toList.Pairwise (fun a b=>a.key≠b.key)
 | .loop st env ok,o=> ∃lp,o= .loop lp/\pW st lp/\(∀k v,(k,v)∈env-> ∃c,lp.tmps[k]? =some c/\Ab H v c)/\ok lp.fn lp.params lp.assign lp.body lp.tmps.size
abbrev AE:=Nat->Option O
def Hh (F:Nat->Prop) (Z:AE) (w:World) (b o:Nat):Option Value:=
 open Classical in if F b\/(Z b).isSome=true then none else w.cell? ⟨b,o,none⟩
structure Rel (F:Nat->Prop) (Z:AE) (w:World):Prop where
 own: ∀n o,Z n=some o-> ¬F n/\ ∃ob,w.heap[n]? =some ob/\O8 (Hh F Z w) o ob
 lock: ∀n,F n->n<w.heap.size
structure Bu (F:Nat->Prop) (Z:AE) (w:World) (Z':AE) (w':World):Prop where
 frame: ∀n,n<w.heap.size->Z n=none->w'.heap[n]? =w.heap[n]?
 size:w.heap.size<=w'.heap.size
 os:w'.os=w.os
 tape:w'.tape=w.tape
 output:w'.output=w.output
 names: ∀n,Z n=none->n<w.heap.size->Z' n=none
def Bu.refl (F:Nat->Prop) (Z:AE) (w:World):Bu F Z w Z w:=
 ⟨fun _ _ _=>rfl,Io _,rfl,rfl,rfl,fun _ h _=>h⟩
def Bu.trans {F:Nat->Prop} {Z Z' Z'':AE} {w w' w'':World} (h:Bu F Z w Z' w') (k:Bu F Z' w' Z'' w''):Bu F Z w Z'' w'' where
 frame n hn h0:=(k.frame n (Nat.lt_of_lt_of_le hn h.size) (h.names n h0 hn)).trans (h.frame n hn h0)
 size:=Nat.le_trans h.size k.size
 os:=k.os.trans h.os
 tape:=k.tape.trans h.tape
 output:=k.output.trans h.output
 names n h0 hn:=k.names n (h.names n h0 hn) (Nat.lt_of_lt_of_le hn h.size)
def Ym (H H':Nat->Nat->Option Value):Prop:= ∀b o c,H b o=some c->H' b o=some c
mutual
def Ab.mono {H H':Nat->Nat->Option Value} (hle:Ym H H'): ∀(v:V) (c:Value),Ab H v c->Ab H' v c
 | .b _,_,h| .i _ _,_,h| .s _,_,h| .pn,_,h| .p _ _,_,h| .sl _ _ _,_,h| .sv _ _ _ _,_,h| .pe _ _ _ _,_,h| .m _,_,h| .mn,_,h| .LN,_,h| .DZ,_,h| .any,_,h=>by
   simp only[Ab]at h ⊢
   try exact h
 | .rp cs,_,h=>by
   simp only[Ab]at h ⊢;obtain⟨b,o,rfl,h⟩:=h;exact⟨b,o,rfl,BT.mono hle (fun i c e=>hle b i c e) cs o h⟩
 | .l es full,_,h=>by
   simp only[Ab]at h ⊢;obtain⟨a,cap,h1,h2,h3,h4,h5,h6⟩:=h;refine⟨a,cap,h1,h2,h3,h4,h5,fun hne=>?_⟩;obtain⟨b,o,sz,h7,h8⟩:=h6 hne;exact⟨b,o,sz,h7,BH.mono hle (fun i c e=>hle b i c e) sz es o h8⟩
 | .f fn first cap,_,h=>by
   simp only[Ab]at h ⊢;obtain⟨f',c',h1,h2,h3,h4,h5⟩:=h;exact⟨f',c',h1,h2,BT.mono hle (fun _ _ e=>e) first 0 h3,h4,BT.mono hle (fun _ _ e=>e) cap 0 h5⟩
 | .Ey t v,_,h=>by
   simp only[Ab]at h ⊢;obtain⟨c',h1,h2⟩:=h;exact⟨c',h1,Ab.mono hle v c' h2⟩
 | .a cs,_,h=>by
   simp only[Ab]at h ⊢;obtain⟨c',h1,h2,h3⟩:=h;exact⟨c',h1,h2,BT.mono hle (fun _ _ e=>e) cs 0 h3⟩
 | .t cs,_,h=>by
   simp only[Ab]at h ⊢;obtain⟨c',h1,h2,h3⟩:=h;exact⟨c',h1,h2,BT.mono hle (fun _ _ e=>e) cs 0 h3⟩
def BT.mono {H H':Nat->Nat->Option Value} (hle:Ym H H') {g g':Nat->Option Value} (hg: ∀i c,g i=some c->g' i=some c) :
    ∀(vs:List V) (o:Nat),BT H g o vs->BT H' g' o vs
 | [],_,_=>trivial
 | v::vs,o,h=>by
   simp only[BT]at h ⊢;obtain⟨⟨c,h1,h2⟩,h3⟩:=h;exact⟨⟨c,hg _ _ h1,Ab.mono hle v c h2⟩,BT.mono hle hg vs (o+1) h3⟩
def BH.mono {H H':Nat->Nat->Option Value} (hle:Ym H H') {g g':Nat->Option Value} (hg: ∀i c,g i=some c->g' i=some c) (sz:Nat) :
    ∀(es:List (List V)) (o:Nat),BH H g sz o es->BH H' g' sz o es
 | [],_,_=>trivial
 | e::es,o,h=>by
   simp only[BH]at h ⊢;obtain⟨h1,h2,h3⟩:=h;exact⟨h1,BT.mono hle hg e o h2,BH.mono hle hg sz es (o+sz) h3⟩
end
def Fb.mono {H H':Nat->Nat->Option Value} (hle:Ym H H'): ∀(r:List (V×V)) (es:List MapEntry),Fb H r es->Fb H' r es
 | [],[],_=>trivial
 | (k,v)::r,e::es,h=>by
   simp only[Fb]at h ⊢;exact⟨Ab.mono hle _ _ h.1,Ab.mono hle _ _ h.2.1,Fb.mono hle r es h.2.2⟩
 | [],_::_,h=>h.elim
 | _::_,[],h=>h.elim
def O8.mono {H H':Nat->Nat->Option Value} (hle:Ym H H') {o:O} {ob:Obj} (h:O8 H o ob):O8 H' o ob:=by
 cases o with
 | cs vs=>obtain⟨c,e,h1,h2,h3⟩:=h;exact⟨c,e,h1,h2,BT.mono hle (fun _ _ e=>e) _ _ h3⟩
 | arr sz es cap=>obtain⟨c,e,h1,h2,h3,h4,h5⟩:=h;exact⟨c,e,h1,h2,h3,h4,BH.mono hle (fun _ _ e=>e) _ _ _ h5⟩
 | map kvs=>obtain⟨es,clk,h1,h2,h3⟩:=h;exact⟨es,clk,h1,Fb.mono hle _ _ h2,h3⟩
 | loop st env ok=>obtain⟨lp,h1,h2,h3,h4⟩:=h;exact⟨lp,h1,h2,fun k v hm=>let⟨c,h5,h6⟩:=h3 k v hm;⟨c,h5,h6.mono hle⟩,h4⟩
def Fu {F:Nat->Prop} {Z:AE} {w:World} {b o:Nat} {c:Value} (h:Hh F Z w b o=some c) :
    ¬F b/\Z b=none/\w.cell? ⟨b,o,none⟩=some c:=by
 unfold Hh at h;split at h
 .cases h
 .rename_i hn
  refine⟨fun hl=>hn (.inl hl),?_,h⟩;cases hs:Z b with
  | none=>rfl
  | some o=>exact absurd (.inr (by simp[hs])) hn
def N0 {F:Nat->Prop} {Z:AE} {w:World} {b o:Nat} (h1: ¬F b) (h2:Z b=none):Hh F Z w b o=w.cell? ⟨b,o,none⟩:=by
 unfold Hh;rw[if_neg];simp[h1,h2]
def nT {w:World} {b o:Nat} {c:Value} (h:w.cell? ⟨b,o,none⟩=some c):b<w.heap.size:=by
 unfold World.cell? at h;rcases Nat.lt_or_ge b w.heap.size with h'|h'
 .exact h'
 .simp[Array.getElem?_eq_none h']at h
def Bu.hle {F:Nat->Prop} {Z Z':AE} {w w':World} (h:Bu F Z w Z' w'):Ym (Hh F Z w) (Hh F Z' w'):=by
 intro b o c hc;obtain⟨h1,h2,h3⟩:=Fu hc;have hb:=nT h3;rw[N0 h1 (h.names b h2 hb),World.cell?_of_block (w:=w) (h.frame b hb h2)];exact h3
def Et {F:Nat->Prop} {Z Z':AE} {w:World} (hs: ∀n,Z n=none->Z' n=none):Ym (Hh F Z w) (Hh F Z' w):=by
 intro b o c hc;obtain⟨h1,h2,h3⟩:=Fu hc;rw[N0 h1 (hs b h2)];exact h3
def Sub (Z' Z:AE):Prop:= ∀n o,Z' n=some o->Z n=some o
def Sub.none {Z' Z:AE} (h:Sub Z' Z) {n:Nat} (hn:Z n=none):Z' n=none:=by
 cases h':Z' n with
 | none=>rfl
 | some o=>rw[h n o h']at hn;cases hn
def Sub.refl (Z:AE):Sub Z Z:=fun _ _ h=>h
def Sub.trans {a b c:AE} (h:Sub a b) (k:Sub b c):Sub a c:=fun n o e=>k n o (h n o e)
def Rel.drop {F:Nat->Prop} {Z Z':AE} {w:World} (h:Rel F Z w) (hs:Sub Z' Z):Rel F Z' w where
 own n o ho:=by
  obtain⟨h1,ob,h2,h3⟩:=h.own n o (hs n o ho);exact⟨h1,ob,h2,O8.mono (Et fun n hn=>hs.none hn) h3⟩
 lock:=h.lock
def Bu.drop {F:Nat->Prop} {Z Z':AE} (w:World) (hs:Sub Z' Z):Bu F Z w Z' w:=
 ⟨fun _ _ _=>rfl,Io _,rfl,rfl,rfl,fun _ hn _=>hs.none hn⟩
end Go.Gl
namespace Go.Gl
abbrev Env:=List (Nat×V)
def get (k:Nat):Env->Option V
 | []=>none
 | (j,v)::r=>bif Nat.beq j k then some v else get k r
inductive Bf where
 | t (n:Nat)
 | c (v:V)
 deriving Inhabited
def ev (env:Env):Bf->Option V
 | .t n=>get n env
 | .c v=>some v
def Ud (env:Env):List Bf->Option (List V)
 | []=>some []
 | x::r=>match ev env x,Ud env r with
   | some v,some vs=>some (v::vs)
   | _,_=>none
def Bd (Z:AE) (n:Nat) (o:O):AE:=fun k=>if k=n then some o else Z k
def del (Z:AE) (n:Nat):AE:=fun k=>if k=n then none else Z k
mutual
inductive Ez (Z Z':AE):V->V->Prop
 | refl (v:V):Ez Z Z' v v
 | arr {n sz cap len:Nat} {es es':List (List V)}:Z n=some (.arr sz es cap)->Z' n=none->len=es.length->D7 Z Z' es es'->Ez Z Z' (.sl n len cap) (.l es' false)
 | cs {n:Nat} {vs vs':List V}:Z n=some (.cs vs)->Z' n=none->DA Z Z' vs vs'->Ez Z Z' (.p n 0) (.rp vs')
 | a {vs vs':List V}:DA Z Z' vs vs'->Ez Z Z' (.a vs) (.a vs')
 | t {vs vs':List V}:DA Z Z' vs vs'->Ez Z Z' (.t vs) (.t vs')
 | Ey {t:TypeId} {v v':V}:Ez Z Z' v v'->Ez Z Z' (.Ey t v) (.Ey t v')
 | l {es es':List (List V)} {f f':Bool}:(f'=true->f=true)->D7 Z Z' es es'->Ez Z Z' (.l es f) (.l es' f')
 | rp {vs vs':List V}:DA Z Z' vs vs'->Ez Z Z' (.rp vs) (.rp vs')
 | f {fn:Fn} {a a' b b':List V}:DA Z Z' a a'->DA Z Z' b b'->Ez Z Z' (.f fn a b) (.f fn a' b')
 | any {v:V}:Ez Z Z' v .any
inductive DA (Z Z':AE):List V->List V->Prop
 | nil:DA Z Z' [] []
 | cons {v v':V} {vs vs':List V}:Ez Z Z' v v'->DA Z Z' vs vs'->DA Z Z' (v::vs) (v'::vs')
inductive D7 (Z Z':AE):List (List V)->List (List V)->Prop
 | nil:D7 Z Z' [] []
 | cons {v v':List V} {vs vs':List (List V)}:DA Z Z' v v'->D7 Z Z' vs vs'->D7 Z Z' (v::vs) (v'::vs')
end
inductive KS where
 | i (k:IntKind)
 | a (l:List IntKind)
 | s
 deriving Inhabited
inductive Fh where
 | mv (x:Bf)
 | jy (x:Bf)
 | pick (c a b:Bf)
 | bin (op:BinOp) (x y:Bf)
 | kD (neg:Bool) (x y:Bf)
 | W9 (len:Nat) (neg:Bool) (x y:Bf)
 | aX (kind:Nat) (neg:Bool) (x:Bf)
 | not (x:Bf)
 | neg (xor:Bool) (x:Bf)
 | conv(k:IntKind) (x:Bf)
 | box (x:Bf)
 | Q8 (x:Bf)
 | Q9 (sz bytes:Nat) (x y:Bf)
 | alloc (zero:List V)
 | build (zero:List V) (parts:List (Nat×Nat×Bf))
 | Di (sz len:Nat) (zero:List V) (parts:List (Nat×Bf))
 | load (agg:Option Nat) (x:Bf)
 | store (sz:Nat) (a x:Bf)
 | Bs (off:Nat) (x:Bf)
 | field (agg:Option Nat) (off:Nat) (x:Bf)
 | I7 (sz:Nat) (arr:Option Nat) (x i:Bf)
 | index (len sz:Nat) (agg:Option Nat) (x i:Bf)
 | slice (sz:Nat) (x:Bf) (lo hi mx:Option Bf)
 | len (x:Bf)
 | TC (x:Bf)
 | str (x:Bf)
 | Uk (x i:Bf)
 | append (sz bytes:Nat) (x y:Bf)
 | copy (sz:Nat) (x y:Bf)
 | Um (x y:Bf)
 | Ul (x y:Bf)
 | extract (i:Nat) (x:Bf)
 | EX (x:Bf)
 | Yi (f:Fn) (first cap:List Bf)
 | Np
 | Fp (sz bytes:Nat) (zero:List V) (len cap:Bf)
 | lookup (ks:KS) (zero:V) (ok:Bool) (m k:Bf)
 | FG (ks:KS) (m k v:Bf)
 | Nq (t:TypeId) (x:Bf)
 | aT (t:TypeId) (zero:V) (ok:Bool) (x:Bf)
 | panic (x:Bf)
 | call (f:FuncId) (args:List Bf)
 | HK (f:FuncId) (args:List Bf)
 | Ih (x:Bf) (args:List Bf)
 | Xg (x:Bf) (args:List Bf)
 | inv (tab:List (TypeId×FuncId)) (x:Bf) (args:List Bf)
 deriving Inhabited
abbrev wv (o:Option V) (k:V->Prop):Prop:=match o with|some v=>k v|none=>False
@[simp] theorem Eo (v:V) (k:V->Prop):wv (some v) k=k v:=rfl
@[simp] theorem x8 (k:V->Prop):wv none k=False:=rfl
def bits (op:BinOp) (k:IntKind) (x y:Int):Int:=
 let a:=BitVec.ofInt k.bits x
 let b:=BitVec.ofInt k.bits y
 k.wrap (match op with
  | .and=>a&&&b
  | .or=>a|||b
  | .xor=>a ^^^ b
  | _=>a&&& ~~~b:BitVec k.bits).toNat
def Up (op:BinOp) (x y:V) (k:V->Prop):Prop:=
 match x,y with
 | .i ka a,.i kb b=>
   match op with
   | .add=>ka=kb/\k (.i ka (ka.wrap (a+b)))
   | .sub=>ka=kb/\k (.i ka (ka.wrap (a - b)))
   | .mul=>ka=kb/\k (.i ka (ka.wrap (a*b)))
   | .quo=>ka=kb/\b≠0/\k (.i ka (ka.wrap (a.tdiv b)))
   | .rem=>ka=kb/\b≠0/\k (.i ka (a.tmod b))
   | .eql=>ka=kb/\k (.b (a==b))
   | .neq=>ka=kb/\k (.b (a != b))
   | .lss=>ka=kb/\k (.b (decide (a<b)))
   | .leq=>ka=kb/\k (.b (decide (a<=b)))
   | .gtr=>ka=kb/\k (.b (decide (a > b)))
   | .geq=>ka=kb/\k (.b (decide (a≥b)))
   | .shl=>0<=b/\k (.i ka (ka.wrap (a*2 ^ (min b.toNat ka.bits))))
   | .shr=>0<=b/\k (.i ka (a.fdiv (2 ^ (min b.toNat ka.bits))))
   | op=>ka=kb/\k (.i ka (bits op ka a b))
 | _,_=>False
def cellsOf:V->Option (List V)
 | .a cs=>some cs
 | .t _=>none
 | .any=>none
 | v=>some [v]
def CC:V->Bool
 | .a _=>false
 | .t _=>false
 | .any=>false
 | _=>true
def putAt:List V->Nat->List V->List V
 | cs,_,[]=>cs
 | cs,o,v::vs=>putAt (cs.set o v) (o+1) vs
def J9 (env:Env):List V->List (Nat×Nat×Bf)->Option (List V)
 | cs,[]=>some cs
 | cs,(off,sz,x)::r=>
   match ev env x with
   | some v=>match cellsOf v with
     | some vc=>bif Nat.beq vc.length sz&&Nat.ble (off+sz) cs.length then J9 env (putAt cs off vc) r else none
     | none=>none
   | none=>none
def I8 (env:Env) (sz:Nat):List (List V)->List (Nat×Bf)->Option (List (List V))
 | es,[]=>some es
 | es,(i,x)::r=>
   match ev env x with
   | some v=>match cellsOf v with
     | some vc=>bif Nat.beq vc.length sz&&Nat.blt i es.length then I8 env sz (es.set i vc) r else none
     | none=>none
   | none=>none
def cut (agg:Option Nat) (cs:List V) (off:Nat) (k:V->Prop):Prop:=
 match agg with
 | none=>match cs[off]? with|some v=>k v|none=>False
 | some n=>off+n<=cs.length/\k (.a ((cs.drop off).take n))
def PA (Z:AE) (n off:Nat) (agg:Option Nat) (k:V->Prop):Prop:=
 match Z n with
 | some (.cs vs)=>cut agg vs off k
 | _=>False
def PB (Z:AE) (n sz i off:Nat) (agg:Option Nat) (k:V->Prop):Prop:=
 match Z n with
 | some (.arr sz' es _)=>sz=sz'/\match es[i]? with|some e=>cut agg e off k|none=>False
 | _=>False
def AX (Z:AE) (agg:Option Nat) (x:V) (k:V->Prop):Prop:=
 match x with
 | .rp cs=>cut agg cs 0 k
 | .p n off=>PA Z n off agg k
 | .pe n sz i off=>PB Z n sz i off agg k
 | _=>False
def AT (Z:AE) (sz:Nat) (a x:V) (k:AE->Prop):Prop:=
 match cellsOf x with
 | some vc=>
   vc.length=sz/\vc.all CC=true/\match a with
   | .p n off=>match Z n with
     | some (.cs vs)=>off+sz<=vs.length/\k (Bd Z n (.cs (putAt vs off vc)))
     | _=>False
   | .pe n s i off=>match Z n with
     | some (.arr s' es cap)=>s=s'/\match es[i]? with
       | some e=>off+sz<=s/\k (Bd Z n (.arr s (es.set i (putAt e off vc)) cap))
       | none=>False
     | _=>False
   | _=>False
 | none=>False
def Kb (off:Nat) (x:V) (k:V->Prop):Prop:=
 match x with
 | .rp cs=>k (.rp (cs.drop off))
 | .p n o=>k (.p n (o+off))
 | .pe n sz i o=>k (.pe n sz i (o+off))
 | _=>False
def AR (sz:Nat) (arr:Option Nat) (x i:V) (k:V->Prop):Prop:=
 match i with
 | .i _ j=>match arr,x with
   | none,.l es _=>0<=j/\ ∃e,es[j.toNat]? =some e/\e.length=sz/\k (.rp e)
   | none,.sl n len _=>0<=j/\j<len/\k (.pe n sz j.toNat 0)
   | none,.sv n s off len=>s=sz/\0<=j/\j<len/\k (.pe n sz (off+j.toNat) 0)
   | some m,.rp cs=>0<=j/\j<m/\k (.rp (cs.drop (j.toNat*sz)))
   | some m,.p n o=>0<=j/\j<m/\k (.p n (o+j.toNat*sz))
   | some m,.pe n s q o=>0<=j/\j<m/\k (.pe n s q (o+j.toNat*sz))
   | _,_=>False
 | _=>False
def Ka (len sz:Nat) (agg:Option Nat) (x i:V) (k:V->Prop):Prop:=
 match x,i with
 | .a cs,.i _ j=>0<=j/\j<len/\cut agg cs (j.toNat*sz) k
 | _,_=>False
def PE (x i:V) (k:V->Prop):Prop:=
 match x,i with
 | .s b,.i _ j=>0<=j/\match b.data.toList[j.toNat]? with|some c=>k (.i .u8 c.toNat)|none=>False
 | _,_=>False
def A4 (x:V) (k:V->Prop):Prop:=
 match x with
 | .l es _=>k (.i .i64 es.length)
 | .sl _ len _=>len<=AY/\k (.i .i64 len)
 | .sv _ _ _ len=>len<=AY/\k (.i .i64 len)
 | _=>False
def J7 (Z:AE) (x:V) (k:V->Prop):Prop:=
 match x with
 | .m n=>match Z n with
   | some (.map kvs)=>kvs.length<=AY/\k (.i .i64 kvs.length)
   | _=>False
 | .mn=>k (.i .i64 0)
 | _=>False
def rowsOf (Z:AE) (sz:Nat) (y:V) (k:List (List V)->Prop):Prop:=
 match y with
 | .l ys _=>(∀e∈ys,e.length=sz)/\k ys
 | .sl m len _=>match Z m with
   | some (.arr s ys _)=>s=sz/\len<=ys.length/\k (ys.take len)
   | _=>False
 | .sv m s off len=>match Z m with
   | some (.arr s' ys _)=>s=sz/\s'=sz/\off+len<=ys.length/\k ((ys.drop off).take len)
   | _=>False
 | _=>False
def FF:List (List V)->Option (List Int)
 | []=>some []
 | [.i .u8 n]::r=>match FF r with|some l=>some (n::l)|none=>none
 | _=>none
def dv (Z:AE) (x:V) (k:V->Prop):Prop:=rowsOf Z 1 x fun ys=>match FF ys with|some ns=>k (.s ⟨(ns.map fun n=>UInt8.ofNat n.toNat).toArray⟩)|none=>False
def AJ (b : Nat) (Z:AE) (sz:Nat) (x y:V) (k:V->AE->Prop):Prop:=
 rowsOf Z sz y fun ys=>
 (∀e∈ys,∀v∈e,CC v=true)/\match x with
 | .l es full=>(∀e∈es,e.length=sz)/\(es.length+ys.length<=AY/\(es.length+ys.length)*b<=140737488355328)/\(ys= []->k (.l es full) Z)/\
  (ys≠[]->full=true/\ ∀n cap,Z n=none->es.length+ys.length<=cap->k (.sl n (es.length+ys.length) cap) (Bd Z n (.arr sz (es++ys) cap)))
 | .sl n len cap=>match Z n with
   | some (.arr s es c)=>s=sz/\c=cap/\len=es.length/\(es.length+ys.length<=AY/\(es.length+ys.length)*b<=140737488355328)/\
    ∀ n' cap',del Z n n'=none->es.length+ys.length<=cap'->
      k (.sl n' (es.length+ys.length) cap') (Bd (del Z n) n' (.arr sz (es++ys) cap'))
   | _=>False
 | _=>False
def O3 (Z:AE) (sz:Nat) (ys:List (List V)) (n off len:Nat) (k:V->AE->Prop):Prop:=
 match Z n with
 | some (.arr s es c)=>s=sz/\off+len<=es.length/\k (.i .i64 (min ys.length len:Nat)) (Bd Z n (.arr s (es.take off++(ys.take (min ys.length len)++es.drop (off+min ys.length len))) c))
 | _=>False
def Ac (Z:AE) (sz:Nat) (x y:V) (k:V->AE->Prop):Prop:=
 rowsOf Z sz y fun ys=>(∀e∈ys,∀v∈e,CC v=true)/\match x with
 | .sl n len _=>O3 Z sz ys n 0 len k
 | .sv n s off len=>s=sz/\O3 Z sz ys n off len k
 | _=>False
def Ad (b:Nat) (Z:AE) (sz:Nat) (x y:V) (k:V->Prop):Prop:=
 rowsOf Z sz y fun ys=>
 (∀e∈ys,∀v∈e,CC v=true)/\match x with
 | .l es full=>(∀e∈es,e.length=sz)/\(es.length+ys.length<=AY/\(es.length+ys.length)*b<=140737488355328)/\(ys≠[]->full=true)/\k (.l (es++ys) false)
 | _=>False
def OL (o:Option V) (d:Int) (k:Int->Prop):Prop:=
 match o with
 | none=>k d
 | some (.i _ n)=>k n
 | _=>False
def AQ (Z:AE) (sz:Nat) (x:V) (lo hi mx:Option V) (k:V->AE->Prop):Prop:=
 match x with
 | .l es full=>(∀e∈es,e.length=sz)/\OL hi es.length fun h=>OL lo 0 fun l=>0<=l/\l<=h/\h<=es.length/\
  match mx with
  | none=>k (.l ((es.take h.toNat).drop l.toNat) (full&&decide (h=es.length))) Z
  | some (.i _ m)=>m=h/\k (.l ((es.take h.toNat).drop l.toNat) true) Z
  | _=>False
 | .sl n len cap=>OL hi len fun h=>OL lo 0 fun l=>0<=l/\l<=h/\h<=len/\
  match mx with
  | none=>k (.sv n sz l.toNat (h - l).toNat) Z
  | some (.i _ m)=>m=h/\h=len/\l=0/\match Z n with
    | some (.arr s es c)=>s=sz/\c=cap/\len=es.length/\(k (.l es true) (del Z n)\/k (.sl n len len) (Bd Z n (.arr s es len)))
    | _=>False
  | _=>False
 | .sv n s off len=>OL hi len fun h=>OL lo 0 fun l=>0<=l/\l<=h/\h<=len/\s=sz/\mx=none/\k (.sv n sz (off+l.toNat) (h - l).toNat) Z
 | _=>False
def HG (env:Env):Option Bf->Option (Option V)
 | none=>some none
 | some x=>match ev env x with|some v=>some (some v)|none=>none
abbrev wo (o:Option (Option V)) (k:Option V->Prop):Prop:=match o with|some v=>k v|none=>False
@[simp] theorem Y6 (v:Option V) (k:Option V->Prop):wo (some v) k=k v:=rfl
abbrev ws (o:Option (List V)) (k:List V->Prop):Prop:=match o with|some v=>k v|none=>False
@[simp] theorem x9 (v:List V) (k:List V->Prop):ws (some v) k=k v:=rfl
abbrev wr (o:Option (List (List V))) (k:List (List V)->Prop):Prop:=match o with|some v=>k v|none=>False
@[simp] theorem yA (v:List (List V)) (k:List (List V)->Prop):wr (some v) k=k v:=rfl
def Bo:List V->List V->Option Bool
 | [],[]=>some true
 | .i k a::r,.i k' b::s=>if k=k' then(Bo r s).map ((a==b)&& ·)else none
 | _,_=>none
def TD (len:Nat) (neg:Bool) (x y:V) (k:V->Prop):Prop:=
 match x,y with
 | .a cs,.a ds=>match Nat.beq cs.length len,Bo cs ds with|true,some t=>k (.b (bif neg then !t else t))|_,_=>False
 | _,_=>False
def Iz (kind:Nat) (neg:Bool) (x:V) (k:V->Prop):Prop:=
 match kind,x with
 | 0,.pn=>k (.b (!neg))
 | 0,.rp _|0,.p _ _|0,.pe _ _ _ _=>k (.b neg)
 | 1,.sl _ _ _=>k (.b neg)
 | 1,.l es _=>(es= []-> ∀t,k (.b t))/\(es≠[]->k (.b neg))
 | 2,.DZ=>k (.b (!neg))
 | 2,.Ey _ _=>k (.b neg)
 | 3,.mn=>k (.b (!neg))
 | 3,.m _=>k (.b neg)
 | 4,.LN=>k (.b (!neg))
 | 4,.f _ _ _=>k (.b neg)
 | _,_=>False
def AK (Z:AE) (sz:Nat) (z:List V) (x y:V) (k:V->AE->Prop):Prop:=
 match x,y with
 | .i _ n,.i _ m=>0<=n/\n<=m/\m<=1073741824/\ ∀id,Z id=none->k (.sl id n.toNat m.toNat) (Bd Z id (.arr sz (List.replicate n.toNat z) m.toNat))
 | _,_=>False
def DT:List IntKind->List V->Bool
 | [],[]=>true
 | q::l,.i q' _::cs=>decide (q=q')&&DT l cs
 | _,_=>false
def BN (ks:KS) (v:V):Bool:=
 match ks,v with
 | .i k,.i k' _=>decide (k=k')
 | .a l,.a cs=>DT l cs
 | .s,.s b=>Nat.ble b.size 1048576
 | _,_=>false
def Df (x y:V):Bool:=
 match x,y with
 | .i _ a,.i _ b=>a==b
 | .s b,.s c=>decide (b=c)
 | .a cs,.a ds=>(Bo cs ds).getD false
 | _,_=>false
def CZ (key:V):List (V×V)->Option V
 | []=>none
 | (k,v)::r=>bif Df key k then some v else CZ key r
def DV (key val:V):List (V×V)->List (V×V)
 | []=>[(key,val)]
 | (k,v)::r=>bif Df key k then(key,val)::r else(k,v)::DV key val r
def found (z:V) (ok:Bool) (o:Option V):V:=match o with|some v=>bif ok then .t [v,.b true]else v|none=>bif ok then .t [z,.b false]else z
def AM (Z:AE) (ks:KS) (z:V) (ok:Bool) (vm vk:V) (k:V->Prop):Prop:=
 BN ks vk=true/\match vm with
 | .m n=>match Z n with
   | some (.map kvs)=>(∀kv∈kvs,BN ks kv.1=true)/\k (found z ok (CZ vk kvs))
   | _=>False
 | .mn=>k (found z ok none)
 | _=>False
def AN (Z:AE) (ks:KS) (vm vk vv:V) (k:AE->Prop):Prop:=
 BN ks vk=true/\match vm with
 | .m n=>match Z n with
   | some (.map kvs)=>(∀kv∈kvs,BN ks kv.1=true)/\k (Bd Z n (.map (DV vk vv kvs)))
   | _=>False
 | _=>False
inductive R where
 | ret (v:V)
 | Bb (v:V)
def U1 (H:Nat->Nat->Option Value):R->Ending->Prop
 | .ret v,e=> ∃c,e= .returned c/\Ab H v c
 | .Bb v,e=> ∃c,e= .panicked [{v:=c,recovered:=false}]/\Ab H v c
def okF (P:Program) (f:FuncId):Bool:=
 match P.funcs[f]? with
 | some fn=>fn.body.isSome&&fn.name != "runtime.NumGoroutine"
 | none=>false
def dg (H:Nat->Nat->Option Value) (vs:List V) (cs:Array Value):Prop:=cs.size=vs.length/\BT H (fun i=>cs[i]?) 0 vs
def A3 (P:Program) (f:FuncId) (args:List V) (Z:AE) (Q:R->AE->Prop):Prop:=
 okF P f=true/\ ∀(F:Nat->Prop) (w:World) (cs:Array Value),Rel F Z w->dg (Hh F Z w) args cs->
  Calls P f cs w fun e w'=> ∃r Z',Q r Z'/\U1 (Hh F Z' w') r e/\Rel F Z' w'/\Bu F Z w Z' w'
def LR (P:Program) (l:Nat) (args:List V) (Z:AE) (Q:R->AE->Prop):Prop:=
 ∀ (F:Nat->Prop) (w:World) (cs:Array Value),Rel F Z w->dg (Hh F Z w) args cs->
   ∃ f tmps assign body,(Instr.yield l cs).run P w= .ok (.round l f tmps assign body) w/\
     RoundIn Fence.wide 0 P l f tmps assign body w fun e w'=> ∃r Z',Q r Z'/\U1 (Hh F Z' w') r e/\Rel F Z' w'/\Bu F Z w Z' w'
def Ax (P:Program) (x:V) (args:List V) (Z:AE) (Q:R->AE->Prop):Prop:=
 match x with
 | .f (.func f) first cap=>A3 P f (first++args++cap) Z Q
 | .f (.yield l) [] []=>LR P l args Z Q
 | _=>False
def look (t:TypeId):List (TypeId×FuncId)->Option FuncId
 | []=>none
 | (u,f)::r=>bif Nat.beq u t then some f else look t r
def A5 (P:Program) (tab:List (TypeId×FuncId)) (x:V) (args:List V) (Z:AE) (Q:R->AE->Prop):Prop:=
 match x with
 | .Ey t v=>match look t tab with
   | some f=>A3 P f (v::args) Z Q
   | none=>False
 | _=>False
def qk (k kp:V->AE->Prop):R->AE->Prop
 | .ret v,Z=>k v Z
 | .Bb v,Z=>kp v Z
def FQ (P:Program) (o:Fh) (env:Env) (Z:AE) (k kp:V->AE->Prop):Prop:=
 match o with
 | .mv x=>wv (ev env x) fun v=>k v Z
 | .jy x=>wv (ev env x) fun v=> ∃vf Z2,Sub Z2 Z/\Ez Z Z2 v vf/\k vf Z2
 | .pick c a b=>wv (ev env c) fun vc=>wv (ev env a) fun va=>wv (ev env b) fun vb=>
  match vc with| .b t=>(match va,vb with| .b x,.b y=>k (.b (bif t then x else y)) Z|_,_=>k (bif t then va else vb) Z)|_=>False
 | .bin op x y=>wv (ev env x) fun vx=>wv (ev env y) fun vy=>Up op vx vy fun v=>k v Z
 | .kD neg x y=>wv (ev env x) fun vx=>wv (ev env y) fun vy=>
  match vx,vy with| .b p,.b q=>k (.b (bif neg then p != q else p==q)) Z|_,_=>False
 | .not x=>wv (ev env x) fun vx=>match vx with| .b p=>k (.b (!p)) Z|_=>False
 | .neg xor x=>wv (ev env x) fun vx=>match vx with
  | .i ka a=>k (.i ka (bif xor then bits .xor ka (bif ka.signed then -1 else ka.max) a else ka.wrap (0 - a))) Z
  | _=>False
 | .conv ka x=>wv (ev env x) fun vx=>match vx with| .i _ a=>k (.i ka (ka.wrap a)) Z|_=>False
 | .box x=>wv (ev env x) fun vx=>match cellsOf vx with
  | some cs=> ∀n,Z n=none->k (.p n 0) (Bd Z n (.cs cs))
  | none=>False
 | .Q8 x=>wv (ev env x) fun vx=>match cellsOf vx with
  | some cs=>k (.rp cs) Z
  | none=>False
 | .Q9 sz b x y=>wv (ev env x) fun vx=>wv (ev env y) fun vy=>Ad b Z sz vx vy fun v=>k v Z
 | .alloc z=> ∀n,Z n=none->k (.p n 0) (Bd Z n (.cs z))
 | .build z parts=>ws (J9 env z parts) fun cs=>k (.a cs) Z
 | .Di _ len z parts=>wr (I8 env z.length (List.replicate len z) parts) fun es=>k (.l es true) Z
 | .load agg x=>wv (ev env x) fun vx=>AX Z agg vx fun v=>k v Z
 | .store sz a x=>wv (ev env a) fun va=>wv (ev env x) fun vx=>AT Z sz va vx fun Z'=>k (.t []) Z'
 | .Bs off x=>wv (ev env x) fun vx=>Kb off vx fun v=>k v Z
 | .field agg off x=>wv (ev env x) fun vx=>match vx with| .a cs=>cut agg cs off fun v=>k v Z|_=>False
 | .I7 sz arr x i=>wv (ev env x) fun vx=>wv (ev env i) fun vi=>AR sz arr vx vi fun v=>k v Z
 | .index len sz agg x i=>wv (ev env x) fun vx=>wv (ev env i) fun vi=>Ka len sz agg vx vi fun v=>k v Z
 | .slice sz x lo hi mx=>wv (ev env x) fun vx=>wo (HG env lo) fun l=>wo (HG env hi) fun h=>wo (HG env mx) fun m=>AQ Z sz vx l h m k
 | .len x=>wv (ev env x) fun vx=>A4 vx fun v=>k v Z
 | .TC x=>wv (ev env x) fun vx=>J7 Z vx fun v=>k v Z
 | .Uk x i=>wv (ev env x) fun vx=>wv (ev env i) fun vi=>PE vx vi fun v=>k v Z
 | .str x=>wv (ev env x) fun vx=>dv Z vx fun v=>k v Z
 | .append sz b x y=>wv (ev env x) fun vx=>wv (ev env y) fun vy=>AJ b Z sz vx vy k
 | .copy sz x y=>wv (ev env x) fun vx=>wv (ev env y) fun vy=>Ac Z sz vx vy k
 | .Um x y=>wv (ev env x) fun vx=>wv (ev env y) fun vy=>match vx,vy with
  | .i ka a,.i kb b=>ka=kb/\k (.i ka (if b > a then b else a)) Z
  | _,_=>False
 | .Ul x y=>wv (ev env x) fun vx=>wv (ev env y) fun vy=>match vx,vy with
  | .i ka a,.i kb b=>ka=kb/\k (.i ka (if b<a then b else a)) Z
  | _,_=>False
 | .extract i x=>wv (ev env x) fun vx=>match vx with| .t vs=>(match vs[i]? with|some v=>k v Z|none=>False)|_=>False
 | .EX x=>wv (ev env x) fun vx=>match vx with
  | .p n off=>k (.p n off) Z
  | .rp cs=>k (.rp cs) Z
  | .pe n sz i off=>k (.pe n sz i off) Z
  | .f (.func f) first cap=>k (.f (.func f) first cap) Z
  | .f (.yield l) first cap=>k (.f (.yield l) first cap) Z
  | _=>False
 | .Yi f first cap=>ws (Ud env first) fun vf=>ws (Ud env cap) fun vc=>k (.f f vf vc) Z
 | .Nq t x=>wv (ev env x) fun vx=>k (.Ey t vx) Z
 | .aT t z ok x=>wv (ev env x) fun vx=>match vx with
  | .Ey t' v=>(t'=t->k (bif ok then .t [v,.b true]else v) Z)/\(t'≠t->ok=true/\k (.t [z,.b false]) Z)
  | .DZ=>ok=true/\k (.t [z,.b false]) Z
  | _=>False
 | .panic x=>wv (ev env x) fun vx=>match vx with| .Ey t v=>kp (.Ey t v) Z|_=>False
 | .call f args=>ws (Ud env args) fun vs=>A3 P f vs Z (qk k kp)
 | .W9 len neg x y=>wv (ev env x) fun vx=>wv (ev env y) fun vy=>TD len neg vx vy fun v=>k v Z
 | .aX kind neg x=>wv (ev env x) fun vx=>Iz kind neg vx fun v=>k v Z
 | .Fp sz _ z x y=>wv (ev env x) fun vx=>wv (ev env y) fun vy=>AK Z sz z vx vy k
 | .Np=> ∀n,Z n=none->k (.m n) (Bd Z n (.map []))
 | .lookup ks z ok m key=>wv (ev env m) fun vm=>wv (ev env key) fun vk=>AM Z ks z ok vm vk fun v=>k v Z
 | .FG ks m key x=>wv (ev env m) fun vm=>wv (ev env key) fun vk=>wv (ev env x) fun vx=>AN Z ks vm vk vx fun Z'=>k (.t []) Z'
 | .HK f args=>ws (Ud env args) fun vs=> ∃v,A3 P f vs (fun _=>none) (fun r Z'=>r= .ret v/\Z'=fun _=>none)/\k v Z
 | .Ih x args=>wv (ev env x) fun vx=>ws (Ud env args) fun vs=>Ax P vx vs Z (qk k kp)
 | .inv tab x args=>wv (ev env x) fun vx=>ws (Ud env args) fun vs=>A5 P tab vx vs Z (qk k kp)
 | _=>False
end Go.Gl
