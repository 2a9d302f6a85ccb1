import Derived.OrdersIn
import Derived.Below
set_option linter.all false
set_option linter.defProp false
set_option maxHeartbeats 8000000
noncomputable section
namespace Go.Gl
def kZ {n m:Nat} (h:Nat.ble n m=true:=by exact rfl):n<=m:=Nat.le_of_ble_eq_true h
abbrev Di:=@List.getElem?_eq_getElem
abbrev Dn:=@List.mem_of_getElem?
abbrev C4:=@List.length_map
abbrev Dh:=@List.getD_eq_getElem?_getD
abbrev CT:=@decide_eq_true_eq
abbrev A4:=@Bool.and_eq_true
abbrev Np:=@List.getElem?_map
abbrev GU:=@Option.some.injEq
abbrev NL:=@List.mem_append_left
abbrev MH:=@List.mem_append_right
abbrev dN:=@List.getElem?_append_left
abbrev Dm:=@List.mem_append
abbrev DR:=@List.all_eq_true
abbrev Jf:=@Bool.false_eq_true
abbrev RG:=@List.length_append
abbrev Kt:=@List.length_cons
abbrev H8:=@List.mem_map
abbrev aE:=@Option.map_some
abbrev pW:=@List.getElem?_cons_zero
abbrev uk:=@List.getElem?_cons_succ
abbrev pV:=@Array.getElem?_eq_some_iff
abbrev uj:=@List.map_map
abbrev NK:=@List.length_take
abbrev ui:=@List.getElem?_drop
abbrev FR:=@List.mem_cons
abbrev Od:=@List.append_assoc
abbrev Kv:=@List.mem_filter
abbrev x7:=@Bool.and_eq_true_iff
abbrev Cy:=@beq_iff_eq
abbrev xg:=@bne_iff_ne
abbrev C5:=@Sem.run_bind
abbrev EK:=@Sem.run_pure
abbrev GA:=@Result.andThen_ok
abbrev Je:=@List.getElem?_eq_some_iff
abbrev Eg:=@List.map_cons
abbrev Ek:=@Bool.or_eq_true
abbrev NJ:=@List.sublist_cons_self
abbrev Hc:=@Int.toNat_natCast
abbrev Fj:=@List.append_nil
abbrev F9:=@Nat.zero_add
abbrev Gr:=@Bool.eq_iff_iff
abbrev Ed:=@Bool.true_and
abbrev W9:=@List.length_filter_le
abbrev UJ:=@Nat.eq_of_beq_eq_true
abbrev W8:=@Nat.mul_le_mul_right
abbrev GF:=@List.any_eq_true
abbrev RF:=@List.nil_sublist
abbrev IN:=@Nat.le_refl
abbrev W7:=@List.length_eq_zero_iff
abbrev MG:=@List.mem_singleton
abbrev OD:=@List.perm_append_comm
abbrev W5:=@List.all_cons
abbrev Yh:=@List.map_append
abbrev Qj:=@List.any_cons
end Go.Gl
namespace Go.Gl
def As:Nat:=17592186044416
inductive V where
 | b (x:Bool)
 | i (k:IntKind) (n:Int)
 | s (x:ByteArray)
 | pn
 | p (n off:Nat)
 | rp (cs:List V)
 | l (es:List (List V)) (full:Bool)
 | sl (n len cap:Nat)
 | sv (n sz off len:Nat)
 | pe (n sz i off:Nat)
 | m (n:Nat)
 | mn
 | f (fn:Fn) (first cap:List V)
 | Ky
 | Ee (t:TypeId) (v:V)
 | DT
 | a (cs:List V)
 | t (vs:List V)
 | any
 deriving Inhabited
mutual
def Ac (H:Nat->Nat->Option Value):V->Value->Prop
 | .b x,c=>c= .bool x
 | .i k n,c=>c= .int k n/\k.min<=n/\n<=k.max
 | .s x,c=>c= .string x
 | .pn,c=>c= .pointer none
 | .p n off,c=>c= .pointer (some ⟨n,off,none⟩)
 | .rp cs,c=> ∃b o,c= .pointer (some ⟨b,o,none⟩)/\BI H (H b) o cs
 | .l es full,c=> ∃a cap,c= .slice a es.length cap/\es.length<=cap/\(full=true->cap=es.length)/\es.length<=As/\(a=none->cap=0)/\
  (es≠[]-> ∃b o sz,a=some ⟨b,o,none⟩/\A9 H (H b) sz o es)
 | .sl n len cap,c=>c= .slice (some ⟨n,0,none⟩) len cap/\len<=cap
 | .sv n sz off len,c=> ∃a cap,c= .slice a len cap/\len<=cap/\(len≠0->a=some ⟨n,off*sz,none⟩)
 | .pe n sz i off,c=>c= .pointer (some ⟨n,i*sz+off,none⟩)
 | .m n,c=>c= .map (some n)
 | .mn,c=>c= .map none
 | .f fn first cap,c=> ∃f' c',c= .func fn f' c'/\f'.size=first.length/\BI H (fun i=>f'[i]?) 0 first/\c'.size=cap.length/\BI H (fun i=>c'[i]?) 0 cap
 | .Ky,c=>c= .nilFunc
 | .Ee t v,c=> ∃c',c= .iface t c'/\Ac H v c'
 | .DT,c=>c= .nilIface
 | .a cs,c=> ∃c',c= .agg c'/\c'.size=cs.length/\BI H (fun i=>c'[i]?) 0 cs
 | .t vs,c=> ∃c',c= .tuple c'/\c'.size=vs.length/\BI H (fun i=>c'[i]?) 0 vs
 | .any,_=>True
def BI (H:Nat->Nat->Option Value) (g:Nat->Option Value):Nat->List V->Prop
 | _,[]=>True
 | o,v::vs=>(∃c,g o=some c/\Ac H v c)/\BI H g (o+1) vs
def A9 (H:Nat->Nat->Option Value) (g:Nat->Option Value) (sz:Nat):Nat->List (List V)->Prop
 | _,[]=>True
 | o,e::es=>e.length=sz/\BI H g o e/\A9 H g sz (o+sz) es
end
inductive pd where
 | ready
 | ret
 | exit (id:Nat)
inductive O where
 | cs (vs:List V)
 | arr (sz:Nat) (es:List (List V)) (cap:Nat)
 | map (kvs:List (V×V))
 | loop (st:pd) (env:List (Nat×V)) (ok:FuncId->Array Tmp->Code->Code->Nat->Prop)
 deriving Inhabited
def pw:pd->Loop->Prop
 | .ready,lp=>lp.state= .ready/\lp.pending=none
 | .ret,lp=>lp.state= .done/\lp.pending=some .ret
 | .exit id,lp=>lp.state= .done/\lp.pending=some (.exit id)
def FG (H:Nat->Nat->Option Value):List (V×V)->List MapEntry->Prop
 | [],[]=>True
 | (k,v)::r,e::es=>Ac H k e.key/\Ac H v e.val/\FG H r es
 | _,_=>False
def Oq (H:Nat->Nat->Option Value):O->Obj->Prop
 | .cs vs,o=> ∃c e,o= .cells c e (0,0)/\c.size=vs.length/\BI H (fun i=>c[i]?) 0 vs
 | .arr sz es cap,o=> ∃c e,o= .cells c e (0,0)/\cap*sz<=c.size/\es.length<=cap/\es.length<=As/\A9 H (fun i=>c[i]?) sz 0 es
 | .map kvs,o=> ∃es clk,o= .map es clk/\FG H kvs es.toList/\es.toList.Pairwise (fun a b=>a.key≠b.key)
 | .loop st env ok,o=> ∃lp,o= .loop lp/\pw st lp/\(∀k v,(k,v)∈env-> ∃c,lp.tmps[k]? =some c/\Ac H v c)/\ok lp.fn lp.params lp.assign lp.body lp.tmps.size
abbrev AE:=Nat->Option O
def Hh (F:Nat->Prop) (Z:AE) (w:World) (b o:Nat):Option Value:=
 open Classical in if F b\/(Z b).isSome=true then none else w.cell? ⟨b,o,none⟩
structure Rel (F:Nat->Prop) (Z:AE) (w:World):Prop where
 own: ∀n o,Z n=some o-> ¬F n/\ ∃ob,w.heap[n]? =some ob/\Oq (Hh F Z w) o ob
 lock: ∀n,F n->n<w.heap.size
structure Bw (F:Nat->Prop) (Z:AE) (w:World) (Z':AE) (w':World):Prop where
 frame: ∀n,n<w.heap.size->Z n=none->w'.heap[n]? =w.heap[n]?
 size:w.heap.size<=w'.heap.size
 os:w'.os=w.os
 tape:w'.tape=w.tape
 output:w'.output=w.output
 names: ∀n,Z n=none->n<w.heap.size->Z' n=none
def Bw.refl (F:Nat->Prop) (Z:AE) (w:World):Bw F Z w Z w:=
 ⟨fun _ _ _=>rfl,IN _,rfl,rfl,rfl,fun _ h _=>h⟩
def Bw.trans {F:Nat->Prop} {Z Z' Z'':AE} {w w' w'':World} (h:Bw F Z w Z' w') (k:Bw F Z' w' Z'' w''):Bw F Z w Z'' w'' where
 frame n hn h0:=(k.frame n (Nat.lt_of_lt_of_le hn h.size) (h.names n h0 hn)).trans (h.frame n hn h0)
 size:=Nat.le_trans h.size k.size
 os:=k.os.trans h.os
 tape:=k.tape.trans h.tape
 output:=k.output.trans h.output
 names n h0 hn:=k.names n (h.names n h0 hn) (Nat.lt_of_lt_of_le hn h.size)
def Yk (H H':Nat->Nat->Option Value):Prop:= ∀b o c,H b o=some c->H' b o=some c
mutual
def Ac.mono {H H':Nat->Nat->Option Value} (hle:Yk H H'): ∀(v:V) (c:Value),Ac H v c->Ac H' v c
 | .b _,_,h| .i _ _,_,h| .s _,_,h| .pn,_,h| .p _ _,_,h| .sl _ _ _,_,h| .sv _ _ _ _,_,h| .pe _ _ _ _,_,h| .m _,_,h| .mn,_,h| .Ky,_,h| .DT,_,h| .any,_,h=>by
   simp only[Ac]at h ⊢
   try exact h
 | .rp cs,_,h=>by
   simp only[Ac]at h ⊢;obtain⟨b,o,rfl,h⟩:=h;exact⟨b,o,rfl,BI.mono hle (fun i c e=>hle b i c e) cs o h⟩
 | .l es full,_,h=>by
   simp only[Ac]at h ⊢;obtain⟨a,cap,h1,h2,h3,h4,h5,h6⟩:=h;refine⟨a,cap,h1,h2,h3,h4,h5,fun hne=>?_⟩;obtain⟨b,o,sz,h7,h8⟩:=h6 hne;exact⟨b,o,sz,h7,A9.mono hle (fun i c e=>hle b i c e) sz es o h8⟩
 | .f fn first cap,_,h=>by
   simp only[Ac]at h ⊢;obtain⟨f',c',h1,h2,h3,h4,h5⟩:=h;exact⟨f',c',h1,h2,BI.mono hle (fun _ _ e=>e) first 0 h3,h4,BI.mono hle (fun _ _ e=>e) cap 0 h5⟩
 | .Ee t v,_,h=>by
   simp only[Ac]at h ⊢;obtain⟨c',h1,h2⟩:=h;exact⟨c',h1,Ac.mono hle v c' h2⟩
 | .a cs,_,h=>by
   simp only[Ac]at h ⊢;obtain⟨c',h1,h2,h3⟩:=h;exact⟨c',h1,h2,BI.mono hle (fun _ _ e=>e) cs 0 h3⟩
 | .t cs,_,h=>by
   simp only[Ac]at h ⊢;obtain⟨c',h1,h2,h3⟩:=h;exact⟨c',h1,h2,BI.mono hle (fun _ _ e=>e) cs 0 h3⟩
def BI.mono {H H':Nat->Nat->Option Value} (hle:Yk H H') {g g':Nat->Option Value} (hg: ∀i c,g i=some c->g' i=some c) :
    ∀(vs:List V) (o:Nat),BI H g o vs->BI H' g' o vs
 | [],_,_=>trivial
 | v::vs,o,h=>by
   simp only[BI]at h ⊢;obtain⟨⟨c,h1,h2⟩,h3⟩:=h;exact⟨⟨c,hg _ _ h1,Ac.mono hle v c h2⟩,BI.mono hle hg vs (o+1) h3⟩
def A9.mono {H H':Nat->Nat->Option Value} (hle:Yk H H') {g g':Nat->Option Value} (hg: ∀i c,g i=some c->g' i=some c) (sz:Nat) :
    ∀(es:List (List V)) (o:Nat),A9 H g sz o es->A9 H' g' sz o es
 | [],_,_=>trivial
 | e::es,o,h=>by
   simp only[A9]at h ⊢;obtain⟨h1,h2,h3⟩:=h;exact⟨h1,BI.mono hle hg e o h2,A9.mono hle hg sz es (o+sz) h3⟩
end
def FG.mono {H H':Nat->Nat->Option Value} (hle:Yk H H'): ∀(r:List (V×V)) (es:List MapEntry),FG H r es->FG H' r es
 | [],[],_=>trivial
 | (k,v)::r,e::es,h=>by
   simp only[FG]at h ⊢;exact⟨Ac.mono hle _ _ h.1,Ac.mono hle _ _ h.2.1,FG.mono hle r es h.2.2⟩
 | [],_::_,h=>h.elim
 | _::_,[],h=>h.elim
def Oq.mono {H H':Nat->Nat->Option Value} (hle:Yk H H') {o:O} {ob:Obj} (h:Oq H o ob):Oq H' o ob:=by
 cases o with
 | cs vs=>obtain⟨c,e,h1,h2,h3⟩:=h;exact⟨c,e,h1,h2,BI.mono hle (fun _ _ e=>e) _ _ h3⟩
 | arr sz es cap=>obtain⟨c,e,h1,h2,h3,h4,h5⟩:=h;exact⟨c,e,h1,h2,h3,h4,A9.mono hle (fun _ _ e=>e) _ _ _ h5⟩
 | map kvs=>obtain⟨es,clk,h1,h2,h3⟩:=h;exact⟨es,clk,h1,FG.mono hle _ _ h2,h3⟩
 | loop st env ok=>obtain⟨lp,h1,h2,h3,h4⟩:=h;exact⟨lp,h1,h2,fun k v hm=>let⟨c,h5,h6⟩:=h3 k v hm;⟨c,h5,h6.mono hle⟩,h4⟩
def Fe {F:Nat->Prop} {Z:AE} {w:World} {b o:Nat} {c:Value} (h:Hh F Z w b o=some c) :
    ¬F b/\Z b=none/\w.cell? ⟨b,o,none⟩=some c:=by
 unfold Hh at h;split at h
 .cases h
 .rename_i hn
  refine⟨fun hl=>hn (.inl hl),?_,h⟩;cases hs:Z b with
  | none=>rfl
  | some o=>exact absurd (.inr (by simp[hs])) hn
def NW {F:Nat->Prop} {Z:AE} {w:World} {b o:Nat} (h1: ¬F b) (h2:Z b=none):Hh F Z w b o=w.cell? ⟨b,o,none⟩:=by
 unfold Hh;rw[if_neg];simp[h1,h2]
def nv {w:World} {b o:Nat} {c:Value} (h:w.cell? ⟨b,o,none⟩=some c):b<w.heap.size:=by
 unfold World.cell? at h;rcases Nat.lt_or_ge b w.heap.size with h'|h'
 .exact h'
 .simp[Array.getElem?_eq_none h']at h
def Bw.hle {F:Nat->Prop} {Z Z':AE} {w w':World} (h:Bw F Z w Z' w'):Yk (Hh F Z w) (Hh F Z' w'):=by
 intro b o c hc;obtain⟨h1,h2,h3⟩:=Fe hc;have hb:=nv h3;rw[NW h1 (h.names b h2 hb),World.cell?_of_block (w:=w) (h.frame b hb h2)];exact h3
def EX {F:Nat->Prop} {Z Z':AE} {w:World} (hs: ∀n,Z n=none->Z' n=none):Yk (Hh F Z w) (Hh F Z' w):=by
 intro b o c hc;obtain⟨h1,h2,h3⟩:=Fe hc;rw[NW h1 (hs b h2)];exact h3
def Sub (Z' Z:AE):Prop:= ∀n o,Z' n=some o->Z n=some o
def Sub.none {Z' Z:AE} (h:Sub Z' Z) {n:Nat} (hn:Z n=none):Z' n=none:=by
 cases h':Z' n with
 | none=>rfl
 | some o=>rw[h n o h']at hn;cases hn
def Sub.refl (Z:AE):Sub Z Z:=fun _ _ h=>h
def Sub.trans {a b c:AE} (h:Sub a b) (k:Sub b c):Sub a c:=fun n o e=>k n o (h n o e)
def Rel.drop {F:Nat->Prop} {Z Z':AE} {w:World} (h:Rel F Z w) (hs:Sub Z' Z):Rel F Z' w where
 own n o ho:=by
  obtain⟨h1,ob,h2,h3⟩:=h.own n o (hs n o ho);exact⟨h1,ob,h2,Oq.mono (EX fun n hn=>hs.none hn) h3⟩
 lock:=h.lock
def Bw.drop {F:Nat->Prop} {Z Z':AE} (w:World) (hs:Sub Z' Z):Bw F Z w Z' w:=
 ⟨fun _ _ _=>rfl,IN _,rfl,rfl,rfl,fun _ hn _=>hs.none hn⟩
end Go.Gl
namespace Go.Gl
abbrev Env:=List (Nat×V)
def get (k:Nat):Env->Option V
 | []=>none
 | (j,v)::r=>bif Nat.beq j k then some v else get k r
inductive Bb where
 | t (n:Nat)
 | c (v:V)
 deriving Inhabited
def ev (env:Env):Bb->Option V
 | .t n=>get n env
 | .c v=>some v
def UN (env:Env):List Bb->Option (List V)
 | []=>some []
 | x::r=>match ev env x,UN env r with
   | some v,some vs=>some (v::vs)
   | _,_=>none
def Bo (Z:AE) (n:Nat) (o:O):AE:=fun k=>if k=n then some o else Z k
def del (Z:AE) (n:Nat):AE:=fun k=>if k=n then none else Z k
mutual
inductive FZ (Z Z':AE):V->V->Prop
 | refl (v:V):FZ Z Z' v v
 | arr {n sz cap len:Nat} {es es':List (List V)}:Z n=some (.arr sz es cap)->Z' n=none->len=es.length->FA Z Z' es es'->FZ Z Z' (.sl n len cap) (.l es' false)
 | cs {n:Nat} {vs vs':List V}:Z n=some (.cs vs)->Z' n=none->Cz Z Z' vs vs'->FZ Z Z' (.p n 0) (.rp vs')
 | a {vs vs':List V}:Cz Z Z' vs vs'->FZ Z Z' (.a vs) (.a vs')
 | t {vs vs':List V}:Cz Z Z' vs vs'->FZ Z Z' (.t vs) (.t vs')
 | Ee {t:TypeId} {v v':V}:FZ Z Z' v v'->FZ Z Z' (.Ee t v) (.Ee t v')
 | l {es es':List (List V)} {f f':Bool}:(f'=true->f=true)->FA Z Z' es es'->FZ Z Z' (.l es f) (.l es' f')
 | rp {vs vs':List V}:Cz Z Z' vs vs'->FZ Z Z' (.rp vs) (.rp vs')
 | f {fn:Fn} {a a' b b':List V}:Cz Z Z' a a'->Cz Z Z' b b'->FZ Z Z' (.f fn a b) (.f fn a' b')
 | any {v:V}:FZ Z Z' v .any
inductive Cz (Z Z':AE):List V->List V->Prop
 | nil:Cz Z Z' [] []
 | cons {v v':V} {vs vs':List V}:FZ Z Z' v v'->Cz Z Z' vs vs'->Cz Z Z' (v::vs) (v'::vs')
inductive FA (Z Z':AE):List (List V)->List (List V)->Prop
 | nil:FA Z Z' [] []
 | cons {v v':List V} {vs vs':List (List V)}:Cz Z Z' v v'->FA Z Z' vs vs'->FA Z Z' (v::vs) (v'::vs')
end
inductive KS where
 | i (k:IntKind)
 | a (l:List IntKind)
 | s
 deriving Inhabited
inductive FU where
 | mv (x:Bb)
 | kL (x:Bb)
 | pick (c a b:Bb)
 | bin (op:BinOp) (x y:Bb)
 | kR (neg:Bool) (x y:Bb)
 | kQ (len:Nat) (neg:Bool) (x y:Bb)
 | dI (kind:Nat) (neg:Bool) (x:Bb)
 | not (x:Bb)
 | neg (xor:Bool) (x:Bb)
 | conv(k:IntKind) (x:Bb)
 | box (x:Bb)
 | N3 (x:Bb)
 | Q3 (sz bytes:Nat) (x y:Bb)
 | alloc (zero:List V)
 | build (zero:List V) (parts:List (Nat×Nat×Bb))
 | Gj (sz len:Nat) (zero:List V) (parts:List (Nat×Bb))
 | load (agg:Option Nat) (x:Bb)
 | store (sz:Nat) (a x:Bb)
 | FW (off:Nat) (x:Bb)
 | field (agg:Option Nat) (off:Nat) (x:Bb)
 | K4 (sz:Nat) (arr:Option Nat) (x i:Bb)
 | index (len sz:Nat) (agg:Option Nat) (x i:Bb)
 | slice (sz:Nat) (x:Bb) (lo hi mx:Option Bb)
 | len (x:Bb)
 | Sx (x:Bb)
 | str (x:Bb)
 | UT (x i:Bb)
 | append (sz bytes:Nat) (x y:Bb)
 | copy (sz:Nat) (x y:Bb)
 | UY (x y:Bb)
 | UX (x y:Bb)
 | extract (i:Nat) (x:Bb)
 | IB (x:Bb)
 | dF (f:Fn) (first cap:List Bb)
 | NQ
 | Fb (sz bytes:Nat) (zero:List V) (len cap:Bb)
 | lookup (ks:KS) (zero:V) (ok:Bool) (m k:Bb)
 | D0 (ks:KS) (m k v:Bb)
 | NR (t:TypeId) (x:Bb)
 | dD (t:TypeId) (zero:V) (ok:Bool) (x:Bb)
 | panic (x:Bb)
 | call (f:FuncId) (args:List Bb)
 | K7 (f:FuncId) (args:List Bb)
 | Ii (x:Bb) (args:List Bb)
 | Xm (x:Bb) (args:List Bb)
 | inv (tab:List (TypeId×FuncId)) (x:Bb) (args:List Bb)
 deriving Inhabited
abbrev wv (o:Option V) (k:V->Prop):Prop:=match o with|some v=>k v|none=>False
@[simp] theorem EU (v:V) (k:V->Prop):wv (some v) k=k v:=rfl
@[simp] theorem xx (k:V->Prop):wv none k=False:=rfl
def bits (op:BinOp) (k:IntKind) (x y:Int):Int:=
 let a:=BitVec.ofInt k.bits x
 let b:=BitVec.ofInt k.bits y
 k.wrap (match op with
  | .and=>a&&&b
  | .or=>a|||b
  | .xor=>a ^^^ b
  | _=>a&&& ~~~b:BitVec k.bits).toNat
def Uc (op:BinOp) (x y:V) (k:V->Prop):Prop:=
 match x,y with
 | .i ka a,.i kb b=>
   match op with
   | .add=>ka=kb/\k (.i ka (ka.wrap (a+b)))
   | .sub=>ka=kb/\k (.i ka (ka.wrap (a - b)))
   | .mul=>ka=kb/\k (.i ka (ka.wrap (a*b)))
   | .quo=>ka=kb/\b≠0/\k (.i ka (ka.wrap (a.tdiv b)))
   | .rem=>ka=kb/\b≠0/\k (.i ka (a.tmod b))
   | .eql=>ka=kb/\k (.b (a==b))
   | .neq=>ka=kb/\k (.b (a != b))
   | .lss=>ka=kb/\k (.b (decide (a<b)))
   | .leq=>ka=kb/\k (.b (decide (a<=b)))
   | .gtr=>ka=kb/\k (.b (decide (a > b)))
   | .geq=>ka=kb/\k (.b (decide (a≥b)))
   | .shl=>0<=b/\k (.i ka (ka.wrap (a*2 ^ (min b.toNat ka.bits))))
   | .shr=>0<=b/\k (.i ka (a.fdiv (2 ^ (min b.toNat ka.bits))))
   | op=>ka=kb/\k (.i ka (bits op ka a b))
 | _,_=>False
def cellsOf:V->Option (List V)
 | .a cs=>some cs
 | .t _=>none
 | .any=>none
 | v=>some [v]
def B6:V->Bool
 | .a _=>false
 | .t _=>false
 | .any=>false
 | _=>true
def putAt:List V->Nat->List V->List V
 | cs,_,[]=>cs
 | cs,o,v::vs=>putAt (cs.set o v) (o+1) vs
def Jw (env:Env):List V->List (Nat×Nat×Bb)->Option (List V)
 | cs,[]=>some cs
 | cs,(off,sz,x)::r=>
   match ev env x with
   | some v=>match cellsOf v with
     | some vc=>bif Nat.beq vc.length sz&&Nat.ble (off+sz) cs.length then Jw env (putAt cs off vc) r else none
     | none=>none
   | none=>none
def Ig (env:Env) (sz:Nat):List (List V)->List (Nat×Bb)->Option (List (List V))
 | es,[]=>some es
 | es,(i,x)::r=>
   match ev env x with
   | some v=>match cellsOf v with
     | some vc=>bif Nat.beq vc.length sz&&Nat.blt i es.length then Ig env sz (es.set i vc) r else none
     | none=>none
   | none=>none
def cut (agg:Option Nat) (cs:List V) (off:Nat) (k:V->Prop):Prop:=
 match agg with
 | none=>match cs[off]? with|some v=>k v|none=>False
 | some n=>off+n<=cs.length/\k (.a ((cs.drop off).take n))
def Oz (Z:AE) (n off:Nat) (agg:Option Nat) (k:V->Prop):Prop:=
 match Z n with
 | some (.cs vs)=>cut agg vs off k
 | _=>False
def O0 (Z:AE) (n sz i off:Nat) (agg:Option Nat) (k:V->Prop):Prop:=
 match Z n with
 | some (.arr sz' es _)=>sz=sz'/\match es[i]? with|some e=>cut agg e off k|none=>False
 | _=>False
def AT (Z:AE) (agg:Option Nat) (x:V) (k:V->Prop):Prop:=
 match x with
 | .rp cs=>cut agg cs 0 k
 | .p n off=>Oz Z n off agg k
 | .pe n sz i off=>O0 Z n sz i off agg k
 | _=>False
def AP (Z:AE) (sz:Nat) (a x:V) (k:AE->Prop):Prop:=
 match cellsOf x with
 | some vc=>
   vc.length=sz/\vc.all B6=true/\match a with
   | .p n off=>match Z n with
     | some (.cs vs)=>off+sz<=vs.length/\k (Bo Z n (.cs (putAt vs off vc)))
     | _=>False
   | .pe n s i off=>match Z n with
     | some (.arr s' es cap)=>s=s'/\match es[i]? with
       | some e=>off+sz<=s/\k (Bo Z n (.arr s (es.set i (putAt e off vc)) cap))
       | none=>False
     | _=>False
   | _=>False
 | none=>False
def KE (off:Nat) (x:V) (k:V->Prop):Prop:=
 match x with
 | .rp cs=>k (.rp (cs.drop off))
 | .p n o=>k (.p n (o+off))
 | .pe n sz i o=>k (.pe n sz i (o+off))
 | _=>False
def AO (sz:Nat) (arr:Option Nat) (x i:V) (k:V->Prop):Prop:=
 match i with
 | .i _ j=>match arr,x with
   | none,.l es _=>0<=j/\ ∃e,es[j.toNat]? =some e/\e.length=sz/\k (.rp e)
   | none,.sl n len _=>0<=j/\j<len/\k (.pe n sz j.toNat 0)
   | none,.sv n s off len=>s=sz/\0<=j/\j<len/\k (.pe n sz (off+j.toNat) 0)
   | some m,.rp cs=>0<=j/\j<m/\k (.rp (cs.drop (j.toNat*sz)))
   | some m,.p n o=>0<=j/\j<m/\k (.p n (o+j.toNat*sz))
   | some m,.pe n s q o=>0<=j/\j<m/\k (.pe n s q (o+j.toNat*sz))
   | _,_=>False
 | _=>False
def KD (len sz:Nat) (agg:Option Nat) (x i:V) (k:V->Prop):Prop:=
 match x,i with
 | .a cs,.i _ j=>0<=j/\j<len/\cut agg cs (j.toNat*sz) k
 | _,_=>False
def O4 (x i:V) (k:V->Prop):Prop:=
 match x,i with
 | .s b,.i _ j=>0<=j/\match b.data.toList[j.toNat]? with|some c=>k (.i .u8 c.toNat)|none=>False
 | _,_=>False
def Ar (x:V) (k:V->Prop):Prop:=
 match x with
 | .l es _=>k (.i .i64 es.length)
 | .sl _ len _=>len<=As/\k (.i .i64 len)
 | .sv _ _ _ len=>len<=As/\k (.i .i64 len)
 | _=>False
def Jt (Z:AE) (x:V) (k:V->Prop):Prop:=
 match x with
 | .m n=>match Z n with
   | some (.map kvs)=>kvs.length<=As/\k (.i .i64 kvs.length)
   | _=>False
 | .mn=>k (.i .i64 0)
 | _=>False
def rowsOf (Z:AE) (sz:Nat) (y:V) (k:List (List V)->Prop):Prop:=
 match y with
 | .l ys _=>(∀e∈ys,e.length=sz)/\k ys
 | .sl m len _=>match Z m with
   | some (.arr s ys _)=>s=sz/\len<=ys.length/\k (ys.take len)
   | _=>False
 | .sv m s off len=>match Z m with
   | some (.arr s' ys _)=>s=sz/\s'=sz/\off+len<=ys.length/\k ((ys.drop off).take len)
   | _=>False
 | _=>False
def Ep:List (List V)->Option (List Int)
 | []=>some []
 | [.i .u8 n]::r=>match Ep r with|some l=>some (n::l)|none=>none
 | _=>none
def di (Z:AE) (x:V) (k:V->Prop):Prop:=rowsOf Z 1 x fun ys=>match Ep ys with|some ns=>k (.s ⟨(ns.map fun n=>UInt8.ofNat n.toNat).toArray⟩)|none=>False
def AJ (b : Nat) (Z:AE) (sz:Nat) (x y:V) (k:V->AE->Prop):Prop:=
 rowsOf Z sz y fun ys=>
 (∀e∈ys,∀v∈e,B6 v=true)/\match x with
 | .l es full=>(∀e∈es,e.length=sz)/\(es.length+ys.length<=As/\(es.length+ys.length)*b<=140737488355328)/\(ys= []->k (.l es full) Z)/\
  (ys≠[]->full=true/\ ∀n cap,Z n=none->es.length+ys.length<=cap->k (.sl n (es.length+ys.length) cap) (Bo Z n (.arr sz (es++ys) cap)))
 | .sl n len cap=>match Z n with
   | some (.arr s es c)=>s=sz/\c=cap/\len=es.length/\(es.length+ys.length<=As/\(es.length+ys.length)*b<=140737488355328)/\
    ∀ n' cap',del Z n n'=none->es.length+ys.length<=cap'->
      k (.sl n' (es.length+ys.length) cap') (Bo (del Z n) n' (.arr sz (es++ys) cap'))
   | _=>False
 | _=>False
def Oi (Z:AE) (sz:Nat) (ys:List (List V)) (n off len:Nat) (k:V->AE->Prop):Prop:=
 match Z n with
 | some (.arr s es c)=>s=sz/\off+len<=es.length/\k (.i .i64 (min ys.length len:Nat)) (Bo Z n (.arr s (es.take off++(ys.take (min ys.length len)++es.drop (off+min ys.length len))) c))
 | _=>False
def AW (Z:AE) (sz:Nat) (x y:V) (k:V->AE->Prop):Prop:=
 rowsOf Z sz y fun ys=>(∀e∈ys,∀v∈e,B6 v=true)/\match x with
 | .sl n len _=>Oi Z sz ys n 0 len k
 | .sv n s off len=>s=sz/\Oi Z sz ys n off len k
 | _=>False
def AX (b:Nat) (Z:AE) (sz:Nat) (x y:V) (k:V->Prop):Prop:=
 rowsOf Z sz y fun ys=>
 (∀e∈ys,∀v∈e,B6 v=true)/\match x with
 | .l es full=>(∀e∈es,e.length=sz)/\(es.length+ys.length<=As/\(es.length+ys.length)*b<=140737488355328)/\(ys≠[]->full=true)/\k (.l (es++ys) false)
 | _=>False
def Nt (o:Option V) (d:Int) (k:Int->Prop):Prop:=
 match o with
 | none=>k d
 | some (.i _ n)=>k n
 | _=>False
def AN (Z:AE) (sz:Nat) (x:V) (lo hi mx:Option V) (k:V->AE->Prop):Prop:=
 match x with
 | .l es full=>(∀e∈es,e.length=sz)/\Nt hi es.length fun h=>Nt lo 0 fun l=>0<=l/\l<=h/\h<=es.length/\
  match mx with
  | none=>k (.l ((es.take h.toNat).drop l.toNat) (full&&decide (h=es.length))) Z
  | some (.i _ m)=>m=h/\k (.l ((es.take h.toNat).drop l.toNat) true) Z
  | _=>False
 | .sl n len cap=>Nt hi len fun h=>Nt lo 0 fun l=>0<=l/\l<=h/\h<=len/\
  match mx with
  | none=>k (.sv n sz l.toNat (h - l).toNat) Z
  | some (.i _ m)=>m=h/\h=len/\l=0/\match Z n with
    | some (.arr s es c)=>s=sz/\c=cap/\len=es.length/\(k (.l es true) (del Z n)\/k (.sl n len len) (Bo Z n (.arr s es len)))
    | _=>False
  | _=>False
 | .sv n s off len=>Nt hi len fun h=>Nt lo 0 fun l=>0<=l/\l<=h/\h<=len/\s=sz/\mx=none/\k (.sv n sz (off+l.toNat) (h - l).toNat) Z
 | _=>False
def G4 (env:Env):Option Bb->Option (Option V)
 | none=>some none
 | some x=>match ev env x with|some v=>some (some v)|none=>none
abbrev wo (o:Option (Option V)) (k:Option V->Prop):Prop:=match o with|some v=>k v|none=>False
@[simp] theorem Y3 (v:Option V) (k:Option V->Prop):wo (some v) k=k v:=rfl
abbrev ws (o:Option (List V)) (k:List V->Prop):Prop:=match o with|some v=>k v|none=>False
@[simp] theorem xy (v:List V) (k:List V->Prop):ws (some v) k=k v:=rfl
abbrev wr (o:Option (List (List V))) (k:List (List V)->Prop):Prop:=match o with|some v=>k v|none=>False
@[simp] theorem xz (v:List (List V)) (k:List (List V)->Prop):wr (some v) k=k v:=rfl
def Bh:List V->List V->Option Bool
 | [],[]=>some true
 | .i k a::r,.i k' b::s=>if k=k' then(Bh r s).map ((a==b)&& ·)else none
 | _,_=>none
def Sz (len:Nat) (neg:Bool) (x y:V) (k:V->Prop):Prop:=
 match x,y with
 | .a cs,.a ds=>match Nat.beq cs.length len,Bh cs ds with|true,some t=>k (.b (bif neg then !t else t))|_,_=>False
 | _,_=>False
def IY (kind:Nat) (neg:Bool) (x:V) (k:V->Prop):Prop:=
 match kind,x with
 | 0,.pn=>k (.b (!neg))
 | 0,.rp _|0,.p _ _|0,.pe _ _ _ _=>k (.b neg)
 | 1,.sl _ _ _=>k (.b neg)
 | 1,.l es _=>(es= []-> ∀t,k (.b t))/\(es≠[]->k (.b neg))
 | 2,.DT=>k (.b (!neg))
 | 2,.Ee _ _=>k (.b neg)
 | 3,.mn=>k (.b (!neg))
 | 3,.m _=>k (.b neg)
 | 4,.Ky=>k (.b (!neg))
 | 4,.f _ _ _=>k (.b neg)
 | _,_=>False
def AI (Z:AE) (sz:Nat) (z:List V) (x y:V) (k:V->AE->Prop):Prop:=
 match x,y with
 | .i _ n,.i _ m=>0<=n/\n<=m/\m<=1073741824/\ ∀id,Z id=none->k (.sl id n.toNat m.toNat) (Bo Z id (.arr sz (List.replicate n.toNat z) m.toNat))
 | _,_=>False
def DJ:List IntKind->List V->Bool
 | [],[]=>true
 | q::l,.i q' _::cs=>decide (q=q')&&DJ l cs
 | _,_=>false
def BD (ks:KS) (v:V):Bool:=
 match ks,v with
 | .i k,.i k' _=>decide (k=k')
 | .a l,.a cs=>DJ l cs
 | .s,.s b=>Nat.ble b.size 1048576
 | _,_=>false
def C8 (x y:V):Bool:=
 match x,y with
 | .i _ a,.i _ b=>a==b
 | .s b,.s c=>decide (b=c)
 | .a cs,.a ds=>(Bh cs ds).getD false
 | _,_=>false
def CA (key:V):List (V×V)->Option V
 | []=>none
 | (k,v)::r=>bif C8 key k then some v else CA key r
def Cp (key val:V):List (V×V)->List (V×V)
 | []=>[(key,val)]
 | (k,v)::r=>bif C8 key k then(key,val)::r else(k,v)::Cp key val r
def found (z:V) (ok:Bool) (o:Option V):V:=match o with|some v=>bif ok then .t [v,.b true]else v|none=>bif ok then .t [z,.b false]else z
def AK (Z:AE) (ks:KS) (z:V) (ok:Bool) (vm vk:V) (k:V->Prop):Prop:=
 BD ks vk=true/\match vm with
 | .m n=>match Z n with
   | some (.map kvs)=>(∀kv∈kvs,BD ks kv.1=true)/\k (found z ok (CA vk kvs))
   | _=>False
 | .mn=>k (found z ok none)
 | _=>False
def AL (Z:AE) (ks:KS) (vm vk vv:V) (k:AE->Prop):Prop:=
 BD ks vk=true/\match vm with
 | .m n=>match Z n with
   | some (.map kvs)=>(∀kv∈kvs,BD ks kv.1=true)/\k (Bo Z n (.map (Cp vk vv kvs)))
   | _=>False
 | _=>False
inductive R where
 | ret (v:V)
 | BV (v:V)
def Ur (H:Nat->Nat->Option Value):R->Ending->Prop
 | .ret v,e=> ∃c,e= .returned c/\Ac H v c
 | .BV v,e=> ∃c,e= .panicked [{v:=c,recovered:=false}]/\Ac H v c
def okF (P:Program) (f:FuncId):Bool:=
 match P.funcs[f]? with
 | some fn=>fn.body.isSome&&fn.name != "runtime.NumGoroutine"
 | none=>false
def dU (H:Nat->Nat->Option Value) (vs:List V) (cs:Array Value):Prop:=cs.size=vs.length/\BI H (fun i=>cs[i]?) 0 vs
def Ao (P:Program) (f:FuncId) (args:List V) (Z:AE) (Q:R->AE->Prop):Prop:=
 okF P f=true/\ ∀(F:Nat->Prop) (w:World) (cs:Array Value),Rel F Z w->dU (Hh F Z w) args cs->
  Calls P f cs w fun e w'=> ∃r Z',Q r Z'/\Ur (Hh F Z' w') r e/\Rel F Z' w'/\Bw F Z w Z' w'
def MQ (P:Program) (l:Nat) (args:List V) (Z:AE) (Q:R->AE->Prop):Prop:=
 ∀ (F:Nat->Prop) (w:World) (cs:Array Value),Rel F Z w->dU (Hh F Z w) args cs->
   ∃ f tmps assign body,(Instr.yield l cs).run P w= .ok (.round l f tmps assign body) w/\
     RoundIn Fence.wide 0 P l f tmps assign body w fun e w'=> ∃r Z',Q r Z'/\Ur (Hh F Z' w') r e/\Rel F Z' w'/\Bw F Z w Z' w'
def Ak (P:Program) (x:V) (args:List V) (Z:AE) (Q:R->AE->Prop):Prop:=
 match x with
 | .f (.func f) first cap=>Ao P f (first++args++cap) Z Q
 | .f (.yield l) [] []=>MQ P l args Z Q
 | _=>False
def look (t:TypeId):List (TypeId×FuncId)->Option FuncId
 | []=>none
 | (u,f)::r=>bif Nat.beq u t then some f else look t r
def Au (P:Program) (tab:List (TypeId×FuncId)) (x:V) (args:List V) (Z:AE) (Q:R->AE->Prop):Prop:=
 match x with
 | .Ee t v=>match look t tab with
   | some f=>Ao P f (v::args) Z Q
   | none=>False
 | _=>False
def qk (k kp:V->AE->Prop):R->AE->Prop
 | .ret v,Z=>k v Z
 | .BV v,Z=>kp v Z
def Ez (P:Program) (o:FU) (env:Env) (Z:AE) (k kp:V->AE->Prop):Prop:=
 match o with
 | .mv x=>wv (ev env x) fun v=>k v Z
 | .kL x=>wv (ev env x) fun v=> ∃vf Z2,Sub Z2 Z/\FZ Z Z2 v vf/\k vf Z2
 | .pick c a b=>wv (ev env c) fun vc=>wv (ev env a) fun va=>wv (ev env b) fun vb=>
  match vc with| .b t=>(match va,vb with| .b x,.b y=>k (.b (bif t then x else y)) Z|_,_=>k (bif t then va else vb) Z)|_=>False
 | .bin op x y=>wv (ev env x) fun vx=>wv (ev env y) fun vy=>Uc op vx vy fun v=>k v Z
 | .kR neg x y=>wv (ev env x) fun vx=>wv (ev env y) fun vy=>
  match vx,vy with| .b p,.b q=>k (.b (bif neg then p != q else p==q)) Z|_,_=>False
 | .not x=>wv (ev env x) fun vx=>match vx with| .b p=>k (.b (!p)) Z|_=>False
 | .neg xor x=>wv (ev env x) fun vx=>match vx with
  | .i ka a=>k (.i ka (bif xor then bits .xor ka (bif ka.signed then -1 else ka.max) a else ka.wrap (0 - a))) Z
  | _=>False
 | .conv ka x=>wv (ev env x) fun vx=>match vx with| .i _ a=>k (.i ka (ka.wrap a)) Z|_=>False
 | .box x=>wv (ev env x) fun vx=>match cellsOf vx with
  | some cs=> ∀n,Z n=none->k (.p n 0) (Bo Z n (.cs cs))
  | none=>False
 | .N3 x=>wv (ev env x) fun vx=>match cellsOf vx with
  | some cs=>k (.rp cs) Z
  | none=>False
 | .Q3 sz b x y=>wv (ev env x) fun vx=>wv (ev env y) fun vy=>AX b Z sz vx vy fun v=>k v Z
 | .alloc z=> ∀n,Z n=none->k (.p n 0) (Bo Z n (.cs z))
 | .build z parts=>ws (Jw env z parts) fun cs=>k (.a cs) Z
 | .Gj _ len z parts=>wr (Ig env z.length (List.replicate len z) parts) fun es=>k (.l es true) Z
 | .load agg x=>wv (ev env x) fun vx=>AT Z agg vx fun v=>k v Z
 | .store sz a x=>wv (ev env a) fun va=>wv (ev env x) fun vx=>AP Z sz va vx fun Z'=>k (.t []) Z'
 | .FW off x=>wv (ev env x) fun vx=>KE off vx fun v=>k v Z
 | .field agg off x=>wv (ev env x) fun vx=>match vx with| .a cs=>cut agg cs off fun v=>k v Z|_=>False
 | .K4 sz arr x i=>wv (ev env x) fun vx=>wv (ev env i) fun vi=>AO sz arr vx vi fun v=>k v Z
 | .index len sz agg x i=>wv (ev env x) fun vx=>wv (ev env i) fun vi=>KD len sz agg vx vi fun v=>k v Z
 | .slice sz x lo hi mx=>wv (ev env x) fun vx=>wo (G4 env lo) fun l=>wo (G4 env hi) fun h=>wo (G4 env mx) fun m=>AN Z sz vx l h m k
 | .len x=>wv (ev env x) fun vx=>Ar vx fun v=>k v Z
 | .Sx x=>wv (ev env x) fun vx=>Jt Z vx fun v=>k v Z
 | .UT x i=>wv (ev env x) fun vx=>wv (ev env i) fun vi=>O4 vx vi fun v=>k v Z
 | .str x=>wv (ev env x) fun vx=>di Z vx fun v=>k v Z
 | .append sz b x y=>wv (ev env x) fun vx=>wv (ev env y) fun vy=>AJ b Z sz vx vy k
 | .copy sz x y=>wv (ev env x) fun vx=>wv (ev env y) fun vy=>AW Z sz vx vy k
 | .UY x y=>wv (ev env x) fun vx=>wv (ev env y) fun vy=>match vx,vy with
  | .i ka a,.i kb b=>ka=kb/\k (.i ka (if b > a then b else a)) Z
  | _,_=>False
 | .UX x y=>wv (ev env x) fun vx=>wv (ev env y) fun vy=>match vx,vy with
  | .i ka a,.i kb b=>ka=kb/\k (.i ka (if b<a then b else a)) Z
  | _,_=>False
 | .extract i x=>wv (ev env x) fun vx=>match vx with| .t vs=>(match vs[i]? with|some v=>k v Z|none=>False)|_=>False
 | .IB x=>wv (ev env x) fun vx=>match vx with
  | .p n off=>k (.p n off) Z
  | .rp cs=>k (.rp cs) Z
  | .pe n sz i off=>k (.pe n sz i off) Z
  | .f (.func f) first cap=>k (.f (.func f) first cap) Z
  | .f (.yield l) first cap=>k (.f (.yield l) first cap) Z
  | _=>False
 | .dF f first cap=>ws (UN env first) fun vf=>ws (UN env cap) fun vc=>k (.f f vf vc) Z
 | .NR t x=>wv (ev env x) fun vx=>k (.Ee t vx) Z
 | .dD t z ok x=>wv (ev env x) fun vx=>match vx with
  | .Ee t' v=>(t'=t->k (bif ok then .t [v,.b true]else v) Z)/\(t'≠t->ok=true/\k (.t [z,.b false]) Z)
  | .DT=>ok=true/\k (.t [z,.b false]) Z
  | _=>False
 | .panic x=>wv (ev env x) fun vx=>match vx with| .Ee t v=>kp (.Ee t v) Z|_=>False
 | .call f args=>ws (UN env args) fun vs=>Ao P f vs Z (qk k kp)
 | .kQ len neg x y=>wv (ev env x) fun vx=>wv (ev env y) fun vy=>Sz len neg vx vy fun v=>k v Z
 | .dI kind neg x=>wv (ev env x) fun vx=>IY kind neg vx fun v=>k v Z
 | .Fb sz _ z x y=>wv (ev env x) fun vx=>wv (ev env y) fun vy=>AI Z sz z vx vy k
 | .NQ=> ∀n,Z n=none->k (.m n) (Bo Z n (.map []))
 | .lookup ks z ok m key=>wv (ev env m) fun vm=>wv (ev env key) fun vk=>AK Z ks z ok vm vk fun v=>k v Z
 | .D0 ks m key x=>wv (ev env m) fun vm=>wv (ev env key) fun vk=>wv (ev env x) fun vx=>AL Z ks vm vk vx fun Z'=>k (.t []) Z'
 | .K7 f args=>ws (UN env args) fun vs=> ∃v,Ao P f vs (fun _=>none) (fun r Z'=>r= .ret v/\Z'=fun _=>none)/\k v Z
 | .Ii x args=>wv (ev env x) fun vx=>ws (UN env args) fun vs=>Ak P vx vs Z (qk k kp)
 | .inv tab x args=>wv (ev env x) fun vx=>ws (UN env args) fun vs=>Au P tab vx vs Z (qk k kp)
 | _=>False
end Go.Gl
