import Derived.OrdersIn
import Derived.Below
import Derived.Laws.Cells
import Derived.Laws.Rows
import Derived.Laws.World
import Derived.Laws.Slices
import Derived.Laws.Build
import Derived.WideShapes4
import Derived.OpenShut
set_option linter.all false
set_option linter.defProp false
noncomputable section
namespace Go.Gl
def kZ {n m:Nat} (h:Nat.ble n m=true:=by exact rfl):n<=m:=Nat.le_of_ble_eq_true h
abbrev ES:=@List.getElem?_eq_getElem
abbrev Dm:=@List.mem_of_getElem?
abbrev Bu:=@List.length_map
abbrev Ds:=@List.getD_eq_getElem?_getD
abbrev Cm:=@decide_eq_true_eq
abbrev A8:=@Bool.and_eq_true
abbrev P8:=@List.getElem?_map
abbrev II:=@Option.some.injEq
abbrev NU:=@List.mem_append_left
abbrev M0:=@List.mem_append_right
abbrev jO:=@List.getElem?_append_left
abbrev Dr:=@List.mem_append
abbrev Dh:=@List.all_eq_true
abbrev Kc:=@Bool.false_eq_true
abbrev R0:=@List.length_append
abbrev Lz:=@List.length_cons
abbrev Iz:=@List.mem_map
abbrev cS:=@Option.map_some
abbrev oU:=@List.getElem?_cons_zero
abbrev uO:=@List.getElem?_cons_succ
abbrev oT:=@Array.getElem?_eq_some_iff
abbrev uN:=@List.map_map
abbrev NT:=@List.length_take
abbrev uM:=@List.getElem?_drop
abbrev Fq:=@List.mem_cons
abbrev P7:=@List.append_assoc
abbrev Jc:=@List.mem_filter
abbrev Cr:=@beq_iff_eq
abbrev wU:=@bne_iff_ne
abbrev C6:=@Sem.run_bind
abbrev EY:=@Sem.run_pure
abbrev GH:=@Result.andThen_ok
abbrev JX:=@List.getElem?_eq_some_iff
abbrev E4:=@List.map_cons
abbrev EJ:=@Bool.or_eq_true
abbrev Mz:=@List.sublist_cons_self
abbrev Hd:=@Int.toNat_natCast
abbrev Ep:=@List.append_nil
abbrev GM:=@Nat.zero_add
abbrev Hf:=@Bool.eq_iff_iff
abbrev D2:=@Bool.true_and
abbrev Wb:=@List.length_filter_le
abbrev Ti:=@Nat.eq_of_beq_eq_true
abbrev YG:=@Nat.mul_le_mul_right
abbrev He:=@List.any_eq_true
abbrev QV:=@List.nil_sublist
abbrev IN:=@Nat.le_refl
abbrev Zm:=@List.length_eq_zero_iff
abbrev My:=@List.mem_singleton
abbrev Np:=@List.perm_append_comm
abbrev WX:=@List.all_cons
abbrev YF:=@List.map_append
abbrev QB:=@List.any_cons
end Go.Gl
namespace Go.Gl
def Ay:Nat:=17592186044416
inductive V where
 | b (x:Bool)
 | i (k:IntKind) (n:Int)
 | s (x:ByteArray)
 | pn
 | p (n off:Nat)
 | rp (cs:List V)
 | l (es:List (List V)) (full:Bool)
 | sl (n len cap:Nat)
 | sv (n sz off len:Nat)
 | pe (n sz i off:Nat)
 | m (n:Nat)
 | mn
 | f (fn:Fn) (first cap:List V)
 | Kj
 | Eo (t:TypeId) (v:V)
 | DW
 | a (cs:List V)
 | t (vs:List V)
 | any
 deriving Inhabited
mutual
def Ag (H:Nat->Nat->Option Value):V->Value->Prop
 | .b x,c=>c= .bool x
 | .i k n,c=>c= .int k n/\k.min<=n/\n<=k.max
 | .s x,c=>c= .string x
 | .pn,c=>c= .pointer none
 | .p n off,c=>c= .pointer (some ⟨n,off,none⟩)
 | .rp cs,c=> ∃b o,c= .pointer (some ⟨b,o,none⟩)/\BO H (H b) o cs
 | .l es full,c=> ∃a cap,c= .slice a es.length cap/\es.length<=cap/\(full=true->cap=es.length)/\es.length<=Ay/\(a=none->cap=0)/\
  (es≠[]-> ∃b o sz,a=some ⟨b,o,none⟩/\BC H (H b) sz o es)
 | .sl n len cap,c=>c= .slice (some ⟨n,0,none⟩) len cap/\len<=cap
 | .sv n sz off len,c=> ∃a cap,c= .slice a len cap/\len<=cap/\(len≠0->a=some ⟨n,off*sz,none⟩)
 | .pe n sz i off,c=>c= .pointer (some ⟨n,i*sz+off,none⟩)
 | .m n,c=>c= .map (some n)
 | .mn,c=>c= .map none
 | .f fn first cap,c=> ∃f' c',c= .func fn f' c'/\f'.size=first.length/\BO H (fun i=>f'[i]?) 0 first/\c'.size=cap.length/\BO H (fun i=>c'[i]?) 0 cap
 | .Kj,c=>c= .nilFunc
 | .Eo t v,c=> ∃c',c= .iface t c'/\Ag H v c'
 | .DW,c=>c= .nilIface
 | .a cs,c=> ∃c',c= .agg c'/\c'.size=cs.length/\BO H (fun i=>c'[i]?) 0 cs
 | .t vs,c=> ∃c',c= .tuple c'/\c'.size=vs.length/\BO H (fun i=>c'[i]?) 0 vs
 | .any,_=>True
def BO (H:Nat->Nat->Option Value) (g:Nat->Option Value):Nat->List V->Prop
 | _,[]=>True
 | o,v::vs=>(∃c,g o=some c/\Ag H v c)/\BO H g (o+1) vs
def BC (H:Nat->Nat->Option Value) (g:Nat->Option Value) (sz:Nat):Nat->List (List V)->Prop
 | _,[]=>True
 | o,e::es=>e.length=sz/\BO H g o e/\BC H g sz (o+sz) es
end
inductive od where
 | ready
 | ret
 | exit (id:Nat)
inductive O where
 | cs (vs:List V)
 | arr (sz:Nat) (es:List (List V)) (cap:Nat)
 | map (kvs:List (V×V))
 | loop (st:od) (env:List (Nat×V)) (ok:FuncId->Array Tmp->Code->Code->Nat->Prop)
 deriving Inhabited
def ot:od->Loop->Prop
 | .ready,lp=>lp.state= .ready/\lp.pending=none
 | .ret,lp=>lp.state= .done/\lp.pending=some .ret
 | .exit id,lp=>lp.state= .done/\lp.pending=some (.exit id)
def FL (H:Nat->Nat->Option Value):List (V×V)->List MapEntry->Prop
 | [],[]=>True
 | (k,v)::r,e::es=>Ag H k e.key/\Ag H v e.val/\FL H r es
 | _,_=>False
def OJ (H:Nat->Nat->Option Value):O->Obj->Prop
 | .cs vs,o=> ∃c e,o= .cells c e (0,0)/\c.size=vs.length/\BO H (fun i=>c[i]?) 0 vs
 | .arr sz es cap,o=> ∃c e,o= .cells c e (0,0)/\cap*sz<=c.size/\es.length<=cap/\es.length<=Ay/\BC H (fun i=>c[i]?) sz 0 es
 | .map kvs,o=> ∃es clk,o= .map es clk/\FL H kvs es.toList/\es.toList.Pairwise (fun a b=>a.key≠b.key)
 | .loop st env ok,o=> ∃lp,o= .loop lp/\ot st lp/\(∀k v,(k,v)∈env-> ∃c,lp.tmps[k]? =some c/\Ag H v c)/\ok lp.fn lp.params lp.assign lp.body lp.tmps.size
abbrev AH:=Nat->Option O
def Hh (Λ:Nat->Prop) (σ:AH) (w:World) (b o:Nat):Option Value:=
 open Classical in if Λ b\/(σ b).isSome=true then none else w.cell? ⟨b,o,none⟩
structure Rel (Λ:Nat->Prop) (σ:AH) (w:World):Prop where
 own: ∀n o,σ n=some o-> ¬Λ n/\ ∃ob,w.heap[n]? =some ob/\OJ (Hh Λ σ w) o ob
 lock: ∀n,Λ n->n<w.heap.size
structure B2 (Λ:Nat->Prop) (σ:AH) (w:World) (σ':AH) (w':World):Prop where
 frame: ∀n,n<w.heap.size->σ n=none->w'.heap[n]? =w.heap[n]?
 size:w.heap.size<=w'.heap.size
 os:w'.os=w.os
 tape:w'.tape=w.tape
 output:w'.output=w.output
 names: ∀n,σ n=none->n<w.heap.size->σ' n=none
def B2.refl (Λ:Nat->Prop) (σ:AH) (w:World):B2 Λ σ w σ w:=
 ⟨fun _ _ _=>rfl,IN _,rfl,rfl,rfl,fun _ h _=>h⟩
def B2.trans {Λ:Nat->Prop} {σ σ' σ'':AH} {w w' w'':World} (h:B2 Λ σ w σ' w') (k:B2 Λ σ' w' σ'' w''):B2 Λ σ w σ'' w'' where
 frame n hn h0:=(k.frame n (Nat.lt_of_lt_of_le hn h.size) (h.names n h0 hn)).trans (h.frame n hn h0)
 size:=Nat.le_trans h.size k.size
 os:=k.os.trans h.os
 tape:=k.tape.trans h.tape
 output:=k.output.trans h.output
 names n h0 hn:=k.names n (h.names n h0 hn) (Nat.lt_of_lt_of_le hn h.size)
def YJ (H H':Nat->Nat->Option Value):Prop:= ∀b o c,H b o=some c->H' b o=some c
mutual
def Ag.mono {H H':Nat->Nat->Option Value} (hle:YJ H H'): ∀(v:V) (c:Value),Ag H v c->Ag H' v c
 | .b _,_,h| .i _ _,_,h| .s _,_,h| .pn,_,h| .p _ _,_,h| .sl _ _ _,_,h| .sv _ _ _ _,_,h| .pe _ _ _ _,_,h| .m _,_,h| .mn,_,h| .Kj,_,h| .DW,_,h| .any,_,h=>by
   simp only[Ag]at h ⊢
   try exact h
 | .rp cs,_,h=>by
   simp only[Ag]at h ⊢;obtain⟨b,o,rfl,h⟩:=h;exact⟨b,o,rfl,BO.mono hle (fun i c e=>hle b i c e) cs o h⟩
 | .l es full,_,h=>by
   simp only[Ag]at h ⊢;obtain⟨a,cap,h1,h2,h3,h4,h5,h6⟩:=h;refine⟨a,cap,h1,h2,h3,h4,h5,fun hne=>?_⟩;obtain⟨b,o,sz,h7,h8⟩:=h6 hne;exact⟨b,o,sz,h7,BC.mono hle (fun i c e=>hle b i c e) sz es o h8⟩
 | .f fn first cap,_,h=>by
   simp only[Ag]at h ⊢;obtain⟨f',c',h1,h2,h3,h4,h5⟩:=h;exact⟨f',c',h1,h2,BO.mono hle (fun _ _ e=>e) first 0 h3,h4,BO.mono hle (fun _ _ e=>e) cap 0 h5⟩
 | .Eo t v,_,h=>by
   simp only[Ag]at h ⊢;obtain⟨c',h1,h2⟩:=h;exact⟨c',h1,Ag.mono hle v c' h2⟩
 | .a cs,_,h=>by
   simp only[Ag]at h ⊢;obtain⟨c',h1,h2,h3⟩:=h;exact⟨c',h1,h2,BO.mono hle (fun _ _ e=>e) cs 0 h3⟩
 | .t cs,_,h=>by
   simp only[Ag]at h ⊢;obtain⟨c',h1,h2,h3⟩:=h;exact⟨c',h1,h2,BO.mono hle (fun _ _ e=>e) cs 0 h3⟩
def BO.mono {H H':Nat->Nat->Option Value} (hle:YJ H H') {g g':Nat->Option Value} (hg: ∀i c,g i=some c->g' i=some c) :
    ∀(vs:List V) (o:Nat),BO H g o vs->BO H' g' o vs
 | [],_,_=>trivial
 | v::vs,o,h=>by
   simp only[BO]at h ⊢;obtain⟨⟨c,h1,h2⟩,h3⟩:=h;exact⟨⟨c,hg _ _ h1,Ag.mono hle v c h2⟩,BO.mono hle hg vs (o+1) h3⟩
def BC.mono {H H':Nat->Nat->Option Value} (hle:YJ H H') {g g':Nat->Option Value} (hg: ∀i c,g i=some c->g' i=some c) (sz:Nat) :
    ∀(es:List (List V)) (o:Nat),BC H g sz o es->BC H' g' sz o es
 | [],_,_=>trivial
 | e::es,o,h=>by
   simp only[BC]at h ⊢;obtain⟨h1,h2,h3⟩:=h;exact⟨h1,BO.mono hle hg e o h2,BC.mono hle hg sz es (o+sz) h3⟩
end
def FL.mono {H H':Nat->Nat->Option Value} (hle:YJ H H'): ∀(r:List (V×V)) (es:List MapEntry),FL H r es->FL H' r es
 | [],[],_=>trivial
 | (k,v)::r,e::es,h=>by
   simp only[FL]at h ⊢;exact⟨Ag.mono hle _ _ h.1,Ag.mono hle _ _ h.2.1,FL.mono hle r es h.2.2⟩
 | [],_::_,h=>h.elim
 | _::_,[],h=>h.elim
def OJ.mono {H H':Nat->Nat->Option Value} (hle:YJ H H') {o:O} {ob:Obj} (h:OJ H o ob):OJ H' o ob:=by
 cases o with
 | cs vs=>obtain⟨c,e,h1,h2,h3⟩:=h;exact⟨c,e,h1,h2,BO.mono hle (fun _ _ e=>e) _ _ h3⟩
 | arr sz es cap=>obtain⟨c,e,h1,h2,h3,h4,h5⟩:=h;exact⟨c,e,h1,h2,h3,h4,BC.mono hle (fun _ _ e=>e) _ _ _ h5⟩
 | map kvs=>obtain⟨es,clk,h1,h2,h3⟩:=h;exact⟨es,clk,h1,FL.mono hle _ _ h2,h3⟩
 | loop st env ok=>obtain⟨lp,h1,h2,h3,h4⟩:=h;exact⟨lp,h1,h2,fun k v hm=>let⟨c,h5,h6⟩:=h3 k v hm;⟨c,h5,h6.mono hle⟩,h4⟩
def Fk {Λ:Nat->Prop} {σ:AH} {w:World} {b o:Nat} {c:Value} (h:Hh Λ σ w b o=some c) :
    ¬Λ b/\σ b=none/\w.cell? ⟨b,o,none⟩=some c:=by
 unfold Hh at h;split at h
 .cases h
 .rename_i hn
  refine⟨fun hl=>hn (.inl hl),?_,h⟩;cases hs:σ b with
  | none=>rfl
  | some o=>exact absurd (.inr (by simp[hs])) hn
def NB {Λ:Nat->Prop} {σ:AH} {w:World} {b o:Nat} (h1: ¬Λ b) (h2:σ b=none):Hh Λ σ w b o=w.cell? ⟨b,o,none⟩:=by
 unfold Hh;rw[if_neg];simp[h1,h2]
def mj {w:World} {b o:Nat} {c:Value} (h:w.cell? ⟨b,o,none⟩=some c):b<w.heap.size:=by
 unfold World.cell? at h;rcases Nat.lt_or_ge b w.heap.size with h'|h'
 .exact h'
 .simp[Array.getElem?_eq_none h']at h
def B2.hle {Λ:Nat->Prop} {σ σ':AH} {w w':World} (h:B2 Λ σ w σ' w'):YJ (Hh Λ σ w) (Hh Λ σ' w'):=by
 intro b o c hc;obtain⟨h1,h2,h3⟩:=Fk hc;have hb:=mj h3;rw[NB h1 (h.names b h2 hb),World.cell?_of_block (w:=w) (h.frame b hb h2)];exact h3
def Ej {Λ:Nat->Prop} {σ σ':AH} {w:World} (hs: ∀n,σ n=none->σ' n=none):YJ (Hh Λ σ w) (Hh Λ σ' w):=by
 intro b o c hc;obtain⟨h1,h2,h3⟩:=Fk hc;rw[NB h1 (hs b h2)];exact h3
def Sub (σ' σ:AH):Prop:= ∀n o,σ' n=some o->σ n=some o
def Sub.none {σ' σ:AH} (h:Sub σ' σ) {n:Nat} (hn:σ n=none):σ' n=none:=by
 cases h':σ' n with
 | none=>rfl
 | some o=>rw[h n o h']at hn;cases hn
def Sub.refl (σ:AH):Sub σ σ:=fun _ _ h=>h
def Sub.trans {a b c:AH} (h:Sub a b) (k:Sub b c):Sub a c:=fun n o e=>k n o (h n o e)
def Rel.drop {Λ:Nat->Prop} {σ σ':AH} {w:World} (h:Rel Λ σ w) (hs:Sub σ' σ):Rel Λ σ' w where
 own n o ho:=by
  obtain⟨h1,ob,h2,h3⟩:=h.own n o (hs n o ho);exact⟨h1,ob,h2,OJ.mono (Ej fun n hn=>hs.none hn) h3⟩
 lock:=h.lock
def B2.drop {Λ:Nat->Prop} {σ σ':AH} (w:World) (hs:Sub σ' σ):B2 Λ σ w σ' w:=
 ⟨fun _ _ _=>rfl,IN _,rfl,rfl,rfl,fun _ hn _=>hs.none hn⟩
end Go.Gl
namespace Go.Gl
abbrev Env:=List (Nat×V)
def get (k:Nat):Env->Option V
 | []=>none
 | (j,v)::r=>bif Nat.beq j k then some v else get k r
inductive Bg where
 | t (n:Nat)
 | c (v:V)
 deriving Inhabited
def ev (env:Env):Bg->Option V
 | .t n=>get n env
 | .c v=>some v
def Tl (env:Env):List Bg->Option (List V)
 | []=>some []
 | x::r=>match ev env x,Tl env r with
   | some v,some vs=>some (v::vs)
   | _,_=>none
def A6 (σ:AH) (n:Nat) (o:O):AH:=fun k=>if k=n then some o else σ k
def del (σ:AH) (n:Nat):AH:=fun k=>if k=n then none else σ k
mutual
inductive Ff (σ σ':AH):V->V->Prop
 | refl (v:V):Ff σ σ' v v
 | arr {n sz cap len:Nat} {es es':List (List V)}:σ n=some (.arr sz es cap)->σ' n=none->len=es.length->FF σ σ' es es'->Ff σ σ' (.sl n len cap) (.l es' false)
 | cs {n:Nat} {vs vs':List V}:σ n=some (.cs vs)->σ' n=none->C7 σ σ' vs vs'->Ff σ σ' (.p n 0) (.rp vs')
 | a {vs vs':List V}:C7 σ σ' vs vs'->Ff σ σ' (.a vs) (.a vs')
 | t {vs vs':List V}:C7 σ σ' vs vs'->Ff σ σ' (.t vs) (.t vs')
 | Eo {t:TypeId} {v v':V}:Ff σ σ' v v'->Ff σ σ' (.Eo t v) (.Eo t v')
 | l {es es':List (List V)} {f f':Bool}:(f'=true->f=true)->FF σ σ' es es'->Ff σ σ' (.l es f) (.l es' f')
 | rp {vs vs':List V}:C7 σ σ' vs vs'->Ff σ σ' (.rp vs) (.rp vs')
 | f {fn:Fn} {a a' b b':List V}:C7 σ σ' a a'->C7 σ σ' b b'->Ff σ σ' (.f fn a b) (.f fn a' b')
 | any {v:V}:Ff σ σ' v .any
inductive C7 (σ σ':AH):List V->List V->Prop
 | nil:C7 σ σ' [] []
 | cons {v v':V} {vs vs':List V}:Ff σ σ' v v'->C7 σ σ' vs vs'->C7 σ σ' (v::vs) (v'::vs')
inductive FF (σ σ':AH):List (List V)->List (List V)->Prop
 | nil:FF σ σ' [] []
 | cons {v v':List V} {vs vs':List (List V)}:C7 σ σ' v v'->FF σ σ' vs vs'->FF σ σ' (v::vs) (v'::vs')
end
inductive KS where
 | i (k:IntKind)
 | a (l:List IntKind)
 | s
 deriving Inhabited
inductive FY where
 | mv (x:Bg)
 | jW (x:Bg)
 | pick (c a b:Bg)
 | bin (op:BinOp) (x y:Bg)
 | jb (neg:Bool) (x y:Bg)
 | ja (len:Nat) (neg:Bool) (x y:Bg)
 | cZ (kind:Nat) (neg:Bool) (x:Bg)
 | not (x:Bg)
 | neg (xor:Bool) (x:Bg)
 | conv(k:IntKind) (x:Bg)
 | box (x:Bg)
 | Nd (x:Bg)
 | QJ (sz bytes:Nat) (x y:Bg)
 | alloc (zero:List V)
 | build (zero:List V) (parts:List (Nat×Nat×Bg))
 | Gt (sz len:Nat) (zero:List V) (parts:List (Nat×Bg))
 | load (agg:Option Nat) (x:Bg)
 | store (sz:Nat) (a x:Bg)
 | Fc (off:Nat) (x:Bg)
 | field (agg:Option Nat) (off:Nat) (x:Bg)
 | Kq (sz:Nat) (arr:Option Nat) (x i:Bg)
 | index (len sz:Nat) (agg:Option Nat) (x i:Bg)
 | slice (sz:Nat) (x:Bg) (lo hi mx:Option Bg)
 | len (x:Bg)
 | SE (x:Bg)
 | str (x:Bg)
 | Tw (x i:Bg)
 | append (sz bytes:Nat) (x y:Bg)
 | copy (sz:Nat) (x y:Bg)
 | T0 (x y:Bg)
 | Tz (x y:Bg)
 | extract (i:Nat) (x:Bg)
 | H5 (x:Bg)
 | cV (f:Fn) (first cap:List Bg)
 | M5
 | Fj (sz bytes:Nat) (zero:List V) (len cap:Bg)
 | lookup (ks:KS) (zero:V) (ok:Bool) (m k:Bg)
 | D8 (ks:KS) (m k v:Bg)
 | M6 (t:TypeId) (x:Bg)
 | cT (t:TypeId) (zero:V) (ok:Bool) (x:Bg)
 | panic (x:Bg)
 | call (f:FuncId) (args:List Bg)
 | Kt (f:FuncId) (args:List Bg)
 | Ie (x:Bg) (args:List Bg)
 | XL (x:Bg) (args:List Bg)
 | inv (tab:List (TypeId×FuncId)) (x:Bg) (args:List Bg)
 deriving Inhabited
abbrev wv (o:Option V) (k:V->Prop):Prop:=match o with|some v=>k v|none=>False
@[simp] theorem Ef (v:V) (k:V->Prop):wv (some v) k=k v:=rfl
@[simp] theorem wh (k:V->Prop):wv none k=False:=rfl
def bits (op:BinOp) (k:IntKind) (x y:Int):Int:=
 let a:=BitVec.ofInt k.bits x
 let b:=BitVec.ofInt k.bits y
 k.wrap (match op with
  | .and=>a&&&b
  | .or=>a|||b
  | .xor=>a ^^^ b
  | _=>a&&& ~~~b:BitVec k.bits).toNat
def T5 (op:BinOp) (x y:V) (k:V->Prop):Prop:=
 match x,y with
 | .i ka a,.i kb b=>
   match op with
   | .add=>ka=kb/\k (.i ka (ka.wrap (a+b)))
   | .sub=>ka=kb/\k (.i ka (ka.wrap (a - b)))
   | .mul=>ka=kb/\k (.i ka (ka.wrap (a*b)))
   | .quo=>ka=kb/\b≠0/\k (.i ka (ka.wrap (a.tdiv b)))
   | .rem=>ka=kb/\b≠0/\k (.i ka (a.tmod b))
   | .eql=>ka=kb/\k (.b (a==b))
   | .neq=>ka=kb/\k (.b (a != b))
   | .lss=>ka=kb/\k (.b (decide (a<b)))
   | .leq=>ka=kb/\k (.b (decide (a<=b)))
   | .gtr=>ka=kb/\k (.b (decide (a > b)))
   | .geq=>ka=kb/\k (.b (decide (a≥b)))
   | .shl=>0<=b/\k (.i ka (ka.wrap (a*2 ^ (min b.toNat ka.bits))))
   | .shr=>0<=b/\k (.i ka (a.fdiv (2 ^ (min b.toNat ka.bits))))
   | op=>ka=kb/\k (.i ka (bits op ka a b))
 | _,_=>False
def cellsOf:V->Option (List V)
 | .a cs=>some cs
 | .t _=>none
 | .any=>none
 | v=>some [v]
def CA:V->Bool
 | .a _=>false
 | .t _=>false
 | .any=>false
 | _=>true
def putAt:List V->Nat->List V->List V
 | cs,_,[]=>cs
 | cs,o,v::vs=>putAt (cs.set o v) (o+1) vs
def Jn (env:Env):List V->List (Nat×Nat×Bg)->Option (List V)
 | cs,[]=>some cs
 | cs,(off,sz,x)::r=>
   match ev env x with
   | some v=>match cellsOf v with
     | some vc=>bif Nat.beq vc.length sz&&Nat.ble (off+sz) cs.length then Jn env (putAt cs off vc) r else none
     | none=>none
   | none=>none
def Ib (env:Env) (sz:Nat):List (List V)->List (Nat×Bg)->Option (List (List V))
 | es,[]=>some es
 | es,(i,x)::r=>
   match ev env x with
   | some v=>match cellsOf v with
     | some vc=>bif Nat.beq vc.length sz&&Nat.blt i es.length then Ib env sz (es.set i vc) r else none
     | none=>none
   | none=>none
def cut (agg:Option Nat) (cs:List V) (off:Nat) (k:V->Prop):Prop:=
 match agg with
 | none=>match cs[off]? with|some v=>k v|none=>False
 | some n=>off+n<=cs.length/\k (.a ((cs.drop off).take n))
def OQ (σ:AH) (n off:Nat) (agg:Option Nat) (k:V->Prop):Prop:=
 match σ n with
 | some (.cs vs)=>cut agg vs off k
 | _=>False
def OR (σ:AH) (n sz i off:Nat) (agg:Option Nat) (k:V->Prop):Prop:=
 match σ n with
 | some (.arr sz' es _)=>sz=sz'/\match es[i]? with|some e=>cut agg e off k|none=>False
 | _=>False
def AW (σ:AH) (agg:Option Nat) (x:V) (k:V->Prop):Prop:=
 match x with
 | .rp cs=>cut agg cs 0 k
 | .p n off=>OQ σ n off agg k
 | .pe n sz i off=>OR σ n sz i off agg k
 | _=>False
def AR (σ:AH) (sz:Nat) (a x:V) (k:AH->Prop):Prop:=
 match cellsOf x with
 | some vc=>
   vc.length=sz/\vc.all CA=true/\match a with
   | .p n off=>match σ n with
     | some (.cs vs)=>off+sz<=vs.length/\k (A6 σ n (.cs (putAt vs off vc)))
     | _=>False
   | .pe n s i off=>match σ n with
     | some (.arr s' es cap)=>s=s'/\match es[i]? with
       | some e=>off+sz<=s/\k (A6 σ n (.arr s (es.set i (putAt e off vc)) cap))
       | none=>False
     | _=>False
   | _=>False
 | none=>False
def J5 (off:Nat) (x:V) (k:V->Prop):Prop:=
 match x with
 | .rp cs=>k (.rp (cs.drop off))
 | .p n o=>k (.p n (o+off))
 | .pe n sz i o=>k (.pe n sz i (o+off))
 | _=>False
def AQ (sz:Nat) (arr:Option Nat) (x i:V) (k:V->Prop):Prop:=
 match i with
 | .i _ j=>match arr,x with
   | none,.l es _=>0<=j/\ ∃e,es[j.toNat]? =some e/\e.length=sz/\k (.rp e)
   | none,.sl n len _=>0<=j/\j<len/\k (.pe n sz j.toNat 0)
   | none,.sv n s off len=>s=sz/\0<=j/\j<len/\k (.pe n sz (off+j.toNat) 0)
   | some m,.rp cs=>0<=j/\j<m/\k (.rp (cs.drop (j.toNat*sz)))
   | some m,.p n o=>0<=j/\j<m/\k (.p n (o+j.toNat*sz))
   | some m,.pe n s q o=>0<=j/\j<m/\k (.pe n s q (o+j.toNat*sz))
   | _,_=>False
 | _=>False
def J4 (len sz:Nat) (agg:Option Nat) (x i:V) (k:V->Prop):Prop:=
 match x,i with
 | .a cs,.i _ j=>0<=j/\j<len/\cut agg cs (j.toNat*sz) k
 | _,_=>False
def OU (x i:V) (k:V->Prop):Prop:=
 match x,i with
 | .s b,.i _ j=>0<=j/\match b.data.toList[j.toNat]? with|some c=>k (.i .u8 c.toNat)|none=>False
 | _,_=>False
def Au (x:V) (k:V->Prop):Prop:=
 match x with
 | .l es _=>k (.i .i64 es.length)
 | .sl _ len _=>len<=Ay/\k (.i .i64 len)
 | .sv _ _ _ len=>len<=Ay/\k (.i .i64 len)
 | _=>False
def Jk (σ:AH) (x:V) (k:V->Prop):Prop:=
 match x with
 | .m n=>match σ n with
   | some (.map kvs)=>kvs.length<=Ay/\k (.i .i64 kvs.length)
   | _=>False
 | .mn=>k (.i .i64 0)
 | _=>False
def rowsOf (σ:AH) (sz:Nat) (y:V) (k:List (List V)->Prop):Prop:=
 match y with
 | .l ys _=>(∀e∈ys,e.length=sz)/\k ys
 | .sl m len _=>match σ m with
   | some (.arr s ys _)=>s=sz/\len<=ys.length/\k (ys.take len)
   | _=>False
 | .sv m s off len=>match σ m with
   | some (.arr s' ys _)=>s=sz/\s'=sz/\off+len<=ys.length/\k ((ys.drop off).take len)
   | _=>False
 | _=>False
def Eu:List (List V)->Option (List Int)
 | []=>some []
 | [.i .u8 n]::r=>match Eu r with|some l=>some (n::l)|none=>none
 | _=>none
def dI (σ:AH) (x:V) (k:V->Prop):Prop:=rowsOf σ 1 x fun ys=>match Eu ys with|some ns=>k (.s ⟨(ns.map fun n=>UInt8.ofNat n.toNat).toArray⟩)|none=>False
def AM (b : Nat) (σ:AH) (sz:Nat) (x y:V) (k:V->AH->Prop):Prop:=
 rowsOf σ sz y fun ys=>
 (∀e∈ys,∀v∈e,CA v=true)/\match x with
 | .l es full=>(∀e∈es,e.length=sz)/\(es.length+ys.length<=Ay/\(es.length+ys.length)*b<=140737488355328)/\(ys= []->k (.l es full) σ)/\
  (ys≠[]->full=true/\ ∀n cap,σ n=none->es.length+ys.length<=cap->k (.sl n (es.length+ys.length) cap) (A6 σ n (.arr sz (es++ys) cap)))
 | .sl n len cap=>match σ n with
   | some (.arr s es c)=>s=sz/\c=cap/\len=es.length/\(es.length+ys.length<=Ay/\(es.length+ys.length)*b<=140737488355328)/\
    ∀ n' cap',del σ n n'=none->es.length+ys.length<=cap'->
      k (.sl n' (es.length+ys.length) cap') (A6 (del σ n) n' (.arr sz (es++ys) cap'))
   | _=>False
 | _=>False
def OE (σ:AH) (sz:Nat) (ys:List (List V)) (n off len:Nat) (k:V->AH->Prop):Prop:=
 match σ n with
 | some (.arr s es c)=>s=sz/\off+len<=es.length/\k (.i .i64 (min ys.length len:Nat)) (A6 σ n (.arr s (es.take off++(ys.take (min ys.length len)++es.drop (off+min ys.length len))) c))
 | _=>False
def Aa (σ:AH) (sz:Nat) (x y:V) (k:V->AH->Prop):Prop:=
 rowsOf σ sz y fun ys=>(∀e∈ys,∀v∈e,CA v=true)/\match x with
 | .sl n len _=>OE σ sz ys n 0 len k
 | .sv n s off len=>s=sz/\OE σ sz ys n off len k
 | _=>False
def Ab (b:Nat) (σ:AH) (sz:Nat) (x y:V) (k:V->Prop):Prop:=
 rowsOf σ sz y fun ys=>
 (∀e∈ys,∀v∈e,CA v=true)/\match x with
 | .l es full=>(∀e∈es,e.length=sz)/\(es.length+ys.length<=Ay/\(es.length+ys.length)*b<=140737488355328)/\(ys≠[]->full=true)/\k (.l (es++ys) false)
 | _=>False
def Nr (o:Option V) (d:Int) (k:Int->Prop):Prop:=
 match o with
 | none=>k d
 | some (.i _ n)=>k n
 | _=>False
def AP (σ:AH) (sz:Nat) (x:V) (lo hi mx:Option V) (k:V->AH->Prop):Prop:=
 match x with
 | .l es full=>(∀e∈es,e.length=sz)/\Nr hi es.length fun h=>Nr lo 0 fun l=>0<=l/\l<=h/\h<=es.length/\
  match mx with
  | none=>k (.l ((es.take h.toNat).drop l.toNat) (full&&decide (h=es.length))) σ
  | some (.i _ m)=>m=h/\k (.l ((es.take h.toNat).drop l.toNat) true) σ
  | _=>False
 | .sl n len cap=>Nr hi len fun h=>Nr lo 0 fun l=>0<=l/\l<=h/\h<=len/\
  match mx with
  | none=>k (.sv n sz l.toNat (h - l).toNat) σ
  | some (.i _ m)=>m=h/\h=len/\l=0/\match σ n with
    | some (.arr s es c)=>s=sz/\c=cap/\len=es.length/\(k (.l es true) (del σ n)\/k (.sl n len len) (A6 σ n (.arr s es len)))
    | _=>False
  | _=>False
 | .sv n s off len=>Nr hi len fun h=>Nr lo 0 fun l=>0<=l/\l<=h/\h<=len/\s=sz/\mx=none/\k (.sv n sz (off+l.toNat) (h - l).toNat) σ
 | _=>False
def G9 (env:Env):Option Bg->Option (Option V)
 | none=>some none
 | some x=>match ev env x with|some v=>some (some v)|none=>none
abbrev wo (o:Option (Option V)) (k:Option V->Prop):Prop:=match o with|some v=>k v|none=>False
@[simp] theorem Yc (v:Option V) (k:Option V->Prop):wo (some v) k=k v:=rfl
abbrev ws (o:Option (List V)) (k:List V->Prop):Prop:=match o with|some v=>k v|none=>False
@[simp] theorem wi (v:List V) (k:List V->Prop):ws (some v) k=k v:=rfl
abbrev wr (o:Option (List (List V))) (k:List (List V)->Prop):Prop:=match o with|some v=>k v|none=>False
@[simp] theorem wj (v:List (List V)) (k:List (List V)->Prop):wr (some v) k=k v:=rfl
def Bp:List V->List V->Option Bool
 | [],[]=>some true
 | .i k a::r,.i k' b::s=>if k=k' then(Bp r s).map ((a==b)&& ·)else none
 | _,_=>none
def SF (len:Nat) (neg:Bool) (x y:V) (k:V->Prop):Prop:=
 match x,y with
 | .a cs,.a ds=>match Nat.beq cs.length len,Bp cs ds with|true,some t=>k (.b (bif neg then !t else t))|_,_=>False
 | _,_=>False
def IU (kind:Nat) (neg:Bool) (x:V) (k:V->Prop):Prop:=
 match kind,x with
 | 0,.pn=>k (.b (!neg))
 | 0,.rp _|0,.p _ _|0,.pe _ _ _ _=>k (.b neg)
 | 1,.sl _ _ _=>k (.b neg)
 | 1,.l es _=>(es= []-> ∀t,k (.b t))/\(es≠[]->k (.b neg))
 | 2,.DW=>k (.b (!neg))
 | 2,.Eo _ _=>k (.b neg)
 | 3,.mn=>k (.b (!neg))
 | 3,.m _=>k (.b neg)
 | 4,.Kj=>k (.b (!neg))
 | 4,.f _ _ _=>k (.b neg)
 | _,_=>False
def AL (σ:AH) (sz:Nat) (z:List V) (x y:V) (k:V->AH->Prop):Prop:=
 match x,y with
 | .i _ n,.i _ m=>0<=n/\n<=m/\m<=1073741824/\ ∀id,σ id=none->k (.sl id n.toNat m.toNat) (A6 σ id (.arr sz (List.replicate n.toNat z) m.toNat))
 | _,_=>False
def DN:List IntKind->List V->Bool
 | [],[]=>true
 | q::l,.i q' _::cs=>decide (q=q')&&DN l cs
 | _,_=>false
def BI (ks:KS) (v:V):Bool:=
 match ks,v with
 | .i k,.i k' _=>decide (k=k')
 | .a l,.a cs=>DN l cs
 | .s,.s b=>Nat.ble b.size 1048576
 | _,_=>false
def DZ (x y:V):Bool:=
 match x,y with
 | .i _ a,.i _ b=>a==b
 | .s b,.s c=>decide (b=c)
 | .a cs,.a ds=>(Bp cs ds).getD false
 | _,_=>false
def CU (key:V):List (V×V)->Option V
 | []=>none
 | (k,v)::r=>bif DZ key k then some v else CU key r
def DA (key val:V):List (V×V)->List (V×V)
 | []=>[(key,val)]
 | (k,v)::r=>bif DZ key k then(key,val)::r else(k,v)::DA key val r
def found (z:V) (ok:Bool) (o:Option V):V:=match o with|some v=>bif ok then .t [v,.b true]else v|none=>bif ok then .t [z,.b false]else z
def AN (σ:AH) (ks:KS) (z:V) (ok:Bool) (vm vk:V) (k:V->Prop):Prop:=
 BI ks vk=true/\match vm with
 | .m n=>match σ n with
   | some (.map kvs)=>(∀kv∈kvs,BI ks kv.1=true)/\k (found z ok (CU vk kvs))
   | _=>False
 | .mn=>k (found z ok none)
 | _=>False
def AO (σ:AH) (ks:KS) (vm vk vv:V) (k:AH->Prop):Prop:=
 BI ks vk=true/\match vm with
 | .m n=>match σ n with
   | some (.map kvs)=>(∀kv∈kvs,BI ks kv.1=true)/\k (A6 σ n (.map (DA vk vv kvs)))
   | _=>False
 | _=>False
inductive R where
 | ret (v:V)
 | BZ (v:V)
def UJ (H:Nat->Nat->Option Value):R->Ending->Prop
 | .ret v,e=> ∃c,e= .returned c/\Ag H v c
 | .BZ v,e=> ∃c,e= .panicked [{v:=c,recovered:=false}]/\Ag H v c
def okF (P:Program) (f:FuncId):Bool:=
 match P.funcs[f]? with
 | some fn=>fn.body.isSome&&fn.name != "runtime.NumGoroutine"
 | none=>false
def cw (H:Nat->Nat->Option Value) (vs:List V) (cs:Array Value):Prop:=cs.size=vs.length/\BO H (fun i=>cs[i]?) 0 vs
def As (P:Program) (f:FuncId) (args:List V) (σ:AH) (Q:R->AH->Prop):Prop:=
 okF P f=true/\ ∀(Λ:Nat->Prop) (w:World) (cs:Array Value),Rel Λ σ w->cw (Hh Λ σ w) args cs->
  Calls P f cs w fun e w'=> ∃r σ',Q r σ'/\UJ (Hh Λ σ' w') r e/\Rel Λ σ' w'/\B2 Λ σ w σ' w'
def L9 (P:Program) (l:Nat) (args:List V) (σ:AH) (Q:R->AH->Prop):Prop:=
 ∀ (Λ:Nat->Prop) (w:World) (cs:Array Value),Rel Λ σ w->cw (Hh Λ σ w) args cs->
   ∃ f tmps assign body,(Instr.yield l cs).run P w= .ok (.round l f tmps assign body) w/\
     RoundIn Fence.wide 0 P l f tmps assign body w fun e w'=> ∃r σ',Q r σ'/\UJ (Hh Λ σ' w') r e/\Rel Λ σ' w'/\B2 Λ σ w σ' w'
def Ao (P:Program) (x:V) (args:List V) (σ:AH) (Q:R->AH->Prop):Prop:=
 match x with
 | .f (.func f) first cap=>As P f (first++args++cap) σ Q
 | .f (.yield l) [] []=>L9 P l args σ Q
 | _=>False
def look (t:TypeId):List (TypeId×FuncId)->Option FuncId
 | []=>none
 | (u,f)::r=>bif Nat.beq u t then some f else look t r
def Ax (P:Program) (tab:List (TypeId×FuncId)) (x:V) (args:List V) (σ:AH) (Q:R->AH->Prop):Prop:=
 match x with
 | .Eo t v=>match look t tab with
   | some f=>As P f (v::args) σ Q
   | none=>False
 | _=>False
def qk (k kp:V->AH->Prop):R->AH->Prop
 | .ret v,σ=>k v σ
 | .BZ v,σ=>kp v σ
def E5 (P:Program) (o:FY) (env:Env) (σ:AH) (k kp:V->AH->Prop):Prop:=
 match o with
 | .mv x=>wv (ev env x) fun v=>k v σ
 | .jW x=>wv (ev env x) fun v=> ∃vf σ2,Sub σ2 σ/\Ff σ σ2 v vf/\k vf σ2
 | .pick c a b=>wv (ev env c) fun vc=>wv (ev env a) fun va=>wv (ev env b) fun vb=>
  match vc with| .b t=>(match va,vb with| .b x,.b y=>k (.b (bif t then x else y)) σ|_,_=>k (bif t then va else vb) σ)|_=>False
 | .bin op x y=>wv (ev env x) fun vx=>wv (ev env y) fun vy=>T5 op vx vy fun v=>k v σ
 | .jb neg x y=>wv (ev env x) fun vx=>wv (ev env y) fun vy=>
  match vx,vy with| .b p,.b q=>k (.b (bif neg then p != q else p==q)) σ|_,_=>False
 | .not x=>wv (ev env x) fun vx=>match vx with| .b p=>k (.b (!p)) σ|_=>False
 | .neg xor x=>wv (ev env x) fun vx=>match vx with
  | .i ka a=>k (.i ka (bif xor then bits .xor ka (bif ka.signed then -1 else ka.max) a else ka.wrap (0 - a))) σ
  | _=>False
 | .conv ka x=>wv (ev env x) fun vx=>match vx with| .i _ a=>k (.i ka (ka.wrap a)) σ|_=>False
 | .box x=>wv (ev env x) fun vx=>match cellsOf vx with
  | some cs=> ∀n,σ n=none->k (.p n 0) (A6 σ n (.cs cs))
  | none=>False
 | .Nd x=>wv (ev env x) fun vx=>match cellsOf vx with
  | some cs=>k (.rp cs) σ
  | none=>False
 | .QJ sz b x y=>wv (ev env x) fun vx=>wv (ev env y) fun vy=>Ab b σ sz vx vy fun v=>k v σ
 | .alloc z=> ∀n,σ n=none->k (.p n 0) (A6 σ n (.cs z))
 | .build z parts=>ws (Jn env z parts) fun cs=>k (.a cs) σ
 | .Gt _ len z parts=>wr (Ib env z.length (List.replicate len z) parts) fun es=>k (.l es true) σ
 | .load agg x=>wv (ev env x) fun vx=>AW σ agg vx fun v=>k v σ
 | .store sz a x=>wv (ev env a) fun va=>wv (ev env x) fun vx=>AR σ sz va vx fun σ'=>k (.t []) σ'
 | .Fc off x=>wv (ev env x) fun vx=>J5 off vx fun v=>k v σ
 | .field agg off x=>wv (ev env x) fun vx=>match vx with| .a cs=>cut agg cs off fun v=>k v σ|_=>False
 | .Kq sz arr x i=>wv (ev env x) fun vx=>wv (ev env i) fun vi=>AQ sz arr vx vi fun v=>k v σ
 | .index len sz agg x i=>wv (ev env x) fun vx=>wv (ev env i) fun vi=>J4 len sz agg vx vi fun v=>k v σ
 | .slice sz x lo hi mx=>wv (ev env x) fun vx=>wo (G9 env lo) fun l=>wo (G9 env hi) fun h=>wo (G9 env mx) fun m=>AP σ sz vx l h m k
 | .len x=>wv (ev env x) fun vx=>Au vx fun v=>k v σ
 | .SE x=>wv (ev env x) fun vx=>Jk σ vx fun v=>k v σ
 | .Tw x i=>wv (ev env x) fun vx=>wv (ev env i) fun vi=>OU vx vi fun v=>k v σ
 | .str x=>wv (ev env x) fun vx=>dI σ vx fun v=>k v σ
 | .append sz b x y=>wv (ev env x) fun vx=>wv (ev env y) fun vy=>AM b σ sz vx vy k
 | .copy sz x y=>wv (ev env x) fun vx=>wv (ev env y) fun vy=>Aa σ sz vx vy k
 | .T0 x y=>wv (ev env x) fun vx=>wv (ev env y) fun vy=>match vx,vy with
  | .i ka a,.i kb b=>ka=kb/\k (.i ka (if b > a then b else a)) σ
  | _,_=>False
 | .Tz x y=>wv (ev env x) fun vx=>wv (ev env y) fun vy=>match vx,vy with
  | .i ka a,.i kb b=>ka=kb/\k (.i ka (if b<a then b else a)) σ
  | _,_=>False
 | .extract i x=>wv (ev env x) fun vx=>match vx with| .t vs=>(match vs[i]? with|some v=>k v σ|none=>False)|_=>False
 | .H5 x=>wv (ev env x) fun vx=>match vx with
  | .p n off=>k (.p n off) σ
  | .rp cs=>k (.rp cs) σ
  | .pe n sz i off=>k (.pe n sz i off) σ
  | .f (.func f) first cap=>k (.f (.func f) first cap) σ
  | .f (.yield l) first cap=>k (.f (.yield l) first cap) σ
  | _=>False
 | .cV f first cap=>ws (Tl env first) fun vf=>ws (Tl env cap) fun vc=>k (.f f vf vc) σ
 | .M6 t x=>wv (ev env x) fun vx=>k (.Eo t vx) σ
 | .cT t z ok x=>wv (ev env x) fun vx=>match vx with
  | .Eo t' v=>(t'=t->k (bif ok then .t [v,.b true]else v) σ)/\(t'≠t->ok=true/\k (.t [z,.b false]) σ)
  | .DW=>ok=true/\k (.t [z,.b false]) σ
  | _=>False
 | .panic x=>wv (ev env x) fun vx=>match vx with| .Eo t v=>kp (.Eo t v) σ|_=>False
 | .call f args=>ws (Tl env args) fun vs=>As P f vs σ (qk k kp)
 | .ja len neg x y=>wv (ev env x) fun vx=>wv (ev env y) fun vy=>SF len neg vx vy fun v=>k v σ
 | .cZ kind neg x=>wv (ev env x) fun vx=>IU kind neg vx fun v=>k v σ
 | .Fj sz _ z x y=>wv (ev env x) fun vx=>wv (ev env y) fun vy=>AL σ sz z vx vy k
 | .M5=> ∀n,σ n=none->k (.m n) (A6 σ n (.map []))
 | .lookup ks z ok m key=>wv (ev env m) fun vm=>wv (ev env key) fun vk=>AN σ ks z ok vm vk fun v=>k v σ
 | .D8 ks m key x=>wv (ev env m) fun vm=>wv (ev env key) fun vk=>wv (ev env x) fun vx=>AO σ ks vm vk vx fun σ'=>k (.t []) σ'
 | .Kt f args=>ws (Tl env args) fun vs=> ∃v,As P f vs (fun _=>none) (fun r σ'=>r= .ret v/\σ'=fun _=>none)/\k v σ
 | .Ie x args=>wv (ev env x) fun vx=>ws (Tl env args) fun vs=>Ao P vx vs σ (qk k kp)
 | .inv tab x args=>wv (ev env x) fun vx=>ws (Tl env args) fun vs=>Ax P tab vx vs σ (qk k kp)
 | _=>False
end Go.Gl
namespace Go.Gl
def BV {H:Nat->Nat->Option Value} {g:Nat->Option Value}: ∀ {vs:List V} {o:Nat},
    BO H g o vs↔ ∀i v,vs[i]? =some v-> ∃c,g (o+i)=some c/\Ag H v c
 | [],o=>by simp[BO]
 | v ::vs,o=>by
   simp only[BO];rw[BV (vs:=vs) (o:=o+1)];constructor
   .rintro⟨h1,h2⟩ i u hu
    cases i with
    | zero=>simp at hu;subst hu;simpa using h1
    | succ i=>
      obtain⟨c,hc,hr⟩:=h2 i u (by simpa using hu);exact⟨c,by rw[<-hc];congr 1;omega,hr⟩
   .intro h
    refine⟨by simpa using h 0 v rfl,fun i u hu=>?_⟩;obtain⟨c,hc,hr⟩:=h (i+1) u (by simpa using hu);exact⟨c,by rw[<-hc];congr 1;omega,hr⟩
def A9 {H:Nat->Nat->Option Value} {g:Nat->Option Value} {sz:Nat}: ∀ {es:List (List V)} {o:Nat},
    BC H g sz o es↔ ∀i e,es[i]? =some e->e.length=sz/\BO H g (o+i*sz) e
 | [],o=>by simp[BC]
 | v ::vs,o=>by
   simp only[BC];rw[A9 (es:=vs) (o:=o+sz)];constructor
   .rintro⟨h1,h2,h3⟩ i u hu
    cases i with
    | zero=>simp at hu;subst hu;exact⟨h1,by simpa using h2⟩
    | succ i=>
      obtain⟨h4,h5⟩:=h3 i u (by simpa using hu);refine⟨h4,?_⟩;rw[show o+(i+1)*sz=o+sz+i*sz by rw[Nat.add_mul];omega];exact h5
   .intro h
    have h0:=h 0 v rfl;refine⟨h0.1,by simpa using h0.2,fun i u hu=>?_⟩;obtain⟨h4,h5⟩:=h (i+1) u (by simpa using hu);refine⟨h4,?_⟩;rw[show o+sz+i*sz=o+(i+1)*sz by rw[Nat.add_mul];omega];exact h5
def A7 {H:Nat->Nat->Option Value} {g g':Nat->Option Value} {o o':Nat} {vs:List V} (h:BO H g o vs) (hg: ∀i,i<vs.length->g' (o'+i)=g (o+i)):BO H g' o' vs:=by
 rw[BV]at *;intro i v hv;obtain⟨c,hc,hr⟩:=h i v hv;exact⟨c,by rw[hg i (by rw[JX]at hv;exact hv.1)];exact hc,hr⟩
def JF {H:Nat->Nat->Option Value} {g:Nat->Option Value} {o:Nat} {vs:List V} (h:BO H g o vs) (n:Nat):BO H g (o+n) (vs.drop n):=by
 rw[BV]at *;intro i v hv;rw[uM]at hv;obtain⟨c,hc,hr⟩:=h (n+i) v hv;exact⟨c,by rw[<-hc];congr 1;omega,hr⟩
def Qk {H:Nat->Nat->Option Value} {g:Nat->Option Value} {o:Nat} {vs:List V} (h:BO H g o vs) (n:Nat):BO H g o (vs.take n):=by
 rw[BV]at *;intro i v hv;rw[List.getElem?_take]at hv;split at hv
 .exact h i v hv
 .cases hv
def NC {H:Nat->Nat->Option Value} {g:Nat->Option Value} {o:Nat} {vs us:List V} (h:BO H g o vs) (k:BO H g (o+vs.length) us):BO H g o (vs++us):=by
 rw[BV]at *;intro i v hv;rw[List.getElem?_append]at hv;split at hv
 .exact h i v hv
 .obtain⟨c,hc,hr⟩:=k _ v hv
  exact⟨c,by rw[<-hc];congr 1;omega,hr⟩
def Rel.lt {Λ:Nat->Prop} {σ:AH} {w:World} (h:Rel Λ σ w) {n:Nat} {o:O} (ho:σ n=some o):n<w.heap.size:=by
 obtain⟨_,ob,h2,_⟩:=h.own n o ho;rcases Nat.lt_or_ge n w.heap.size with h'|h'
 .exact h'
 .simp[Array.getElem?_eq_none h']at h2
def Rel.new {Λ:Nat->Prop} {σ:AH} {w:World} (h:Rel Λ σ w):σ w.heap.size=none:=by
 cases h':σ w.heap.size with
 | none=>rfl
 | some o=>exact absurd (h.lt h') (Nat.lt_irrefl _)
def Rel.step {Λ:Nat->Prop} {σ σ':AH} {w w':World} (h:Rel Λ σ w) (ha:B2 Λ σ w σ' w')
    (hn: ∀n o,σ' n=some o->(σ n=some o/\w'.heap[n]? =w.heap[n]?)\/(¬Λ n/\ ∃ob,w'.heap[n]? =some ob/\OJ (Hh Λ σ' w') o ob)):Rel Λ σ' w' where
 own n o ho:=by
  rcases hn n o ho with⟨h1,h2⟩|h1
  .obtain⟨h3,ob,h4,h5⟩:=h.own n o h1
   exact⟨h3,ob,h2.trans h4,h5.mono ha.hle⟩
  .exact h1
 lock n hl:=Nat.lt_of_lt_of_le (h.lock n hl) ha.size
def Cz (σ:AH) (n:Nat) (o:O):A6 σ n o n=some o:=by simp[A6]
def Ca (σ:AH) {n m:Nat} (o:O) (h:m≠n):A6 σ n o m=σ m:=by simp[A6,h]
def DF (σ:AH) (n:Nat):del σ n n=none:=by simp[del]
def Gp (σ:AH) {n m:Nat} (h:m≠n):del σ n m=σ m:=by simp[del,h]
def Fi (σ:AH) (n:Nat):Sub (del σ n) σ:=by
 intro m o h;unfold del at h;split at h
 .cases h
 .exact h
def Dl {Λ:Nat->Prop} {σ:AH} {w:World} (o:O) (ob:Obj):B2 Λ σ w (A6 σ w.heap.size o) (w.alloc ob) where
 frame n hn _:=RowKit.Below.heap_alloc _ _ _ hn
 size:=by simp
 os:=rfl
 tape:=rfl
 output:=rfl
 names n h0 hn:=by rw[Ca _ _ (by omega)];exact h0
def HV {Λ:Nat->Prop} {σ:AH} {w:World} (h:Rel Λ σ w) {o:O} {ob:Obj} (ho:OJ (Hh Λ σ w) o ob):Rel Λ (A6 σ w.heap.size o) (w.alloc ob):=
 h.step (Dl o ob) fun n o' hn=>by
  by_cases e:n=w.heap.size
  .subst e
   rw[Cz]at hn;cases hn;exact .inr ⟨fun hl=>absurd (h.lock _ hl) (Nat.lt_irrefl _),ob,heap_alloc_new _ _,ho.mono (Dl o ob).hle⟩
  .rw[Ca _ _ e]at hn
   exact .inl ⟨hn,RowKit.Below.heap_alloc _ _ _ (h.lt hn)⟩
def Hy {Λ:Nat->Prop} {σ:AH} (w:World) (ob:Obj):B2 Λ σ w σ (w.alloc ob) where
 frame n hn _:=RowKit.Below.heap_alloc _ _ _ hn
 size:=by simp
 os:=rfl
 tape:=rfl
 output:=rfl
 names n h0 _:=h0
def KH {Λ:Nat->Prop} {σ:AH} {w:World} (h:Rel Λ σ w) (ob:Obj):Rel Λ σ (w.alloc ob):=
 h.step (Hy w ob) fun _ _ hn=> .inl ⟨hn,RowKit.Below.heap_alloc _ _ _ (h.lt hn)⟩
def CN (w:World) (n:Nat) (ob:Obj):World:={w with heap:=w.heap.setIfInBounds n ob}
def NF {w:World} {n:Nat} {ob:Obj} (h:n<w.heap.size):(CN w n ob).heap[n]? =some ob:=by
 simp[CN,h]
def Qu {w:World} {n m:Nat} {ob:Obj} (h:m≠n):(CN w n ob).heap[m]? =w.heap[m]? :=by
 simp only[CN];rw[Array.getElem?_setIfInBounds_ne (Ne.symm h)]
@[simp] theorem oS (w:World) (n:Nat) (ob:Obj):(CN w n ob).heap.size=w.heap.size:=by simp[CN]
def GZ {Λ:Nat->Prop} {σ:AH} {w:World} {n:Nat} {o:O} (hn:σ n=some o) (o':O) (ob:Obj):B2 Λ σ w (A6 σ n o') (CN w n ob) where
 frame m _ h0:=Qu (fun e=>by rw[e,hn]at h0;cases h0)
 size:=by simp
 os:=rfl
 tape:=rfl
 output:=rfl
 names m h0 _:=by rw[Ca _ _ (fun e=>by rw[e,hn]at h0;cases h0)];exact h0
def I3 {Λ:Nat->Prop} {σ:AH} {w:World} (h:Rel Λ σ w) {n:Nat} {o o':O} {ob:Obj} (hn:σ n=some o) (ho:OJ (Hh Λ σ w) o' ob):Rel Λ (A6 σ n o') (CN w n ob):=
 h.step (GZ hn o' ob) fun m o'' hm=>by
  by_cases e:m=n
  .subst e
   rw[Cz]at hm;cases hm;exact .inr ⟨(h.own _ _ hn).1,ob,NF (h.lt hn),ho.mono (GZ hn o' ob).hle⟩
  .rw[Ca _ _ e]at hm
   exact .inl ⟨hm,Qu e⟩
def XM {w:World} {n:Nat} {ob:Obj} (h:w.heap[n]? =some ob):n<w.heap.size:=by
 rcases Nat.lt_or_ge n w.heap.size with h'|h'
 .exact h'
 .simp[Array.getElem?_eq_none h']at h
def setCell_eq {w:World} {n i:Nat} {c:Array Value} {e:TypeId} (h:w.heap[n]? =some (.cells c e (0,0))) (v:Value) :
    w.setCell ⟨n,i,none⟩ v=CN w n (.cells (c.setIfInBounds i v) e (0,0)):=by
 unfold World.setCell CN;congr 1;apply Array.ext_getElem?;intro j;by_cases hj:n=j
 .subst hj
  rw[Array.getElem?_modify,if_pos rfl,Array.getElem?_setIfInBounds_self_of_lt (XM h),h];rfl
 .rw[Array.getElem?_modify,if_neg hj,Array.getElem?_setIfInBounds_ne hj]
def DG {w:World} {n i:Nat} {c:Array Value} {e:TypeId} {fr:Nat×Nat} (h:w.heap[n]? =some (.cells c e fr)):w.cell? ⟨n,i,none⟩=c[i]? :=
 cell_of_row w n i c e fr h
def Po {w:World} {n i:Nat} {c:Array Value} {e:TypeId} (h:w.heap[n]? =some (.cells c e (0,0))):w.frozen? ⟨n,i,none⟩=false:=
 frozen_of_row w n i c e h
def Cc (n o i:Nat):(⟨n,o,none⟩:Addr).add i=⟨n,o+i,none⟩:=by
 unfold Addr.add;split
 .subst_vars;rfl
 .rfl
def Co:Array Value->Nat->List Value->Array Value
 | c,_,[]=>c
 | c,o,v::vs=>Co (c.setIfInBounds o v) (o+1) vs
def Dg: ∀(vs:List Value) (c:Array Value) (o:Nat),(Co c o vs).size=c.size
 | [],_,_=>rfl
 | v::vs,c,o=>by simp only[Co];rw[Dg vs];simp
def aV {w:World} {n:Nat} {ob:Obj} (h:w.heap[n]? =some ob):CN w n ob=w:=by
 unfold CN
 have:w.heap.setIfInBounds n ob=w.heap:=by
  apply Array.ext_getElem?;intro j;by_cases hj:n=j
  .subst hj
   rw[Array.getElem?_setIfInBounds_self_of_lt (XM h),h]
  .rw[Array.getElem?_setIfInBounds_ne hj]
 rw[this]
def QN (w:World) (n:Nat) (a b:Obj):CN (CN w n a) n b=CN w n b:=by
 simp[CN]
def Cd {P:Program} {n:Nat} {e:TypeId}: ∀(vs:List Value) (w:World) (c:Array Value) (o i:Nat),w.heap[n]? =some (.cells c e (0,0))->
    o+i+vs.length<=c.size->(∀v∈vs,v.oneCell'=true)->
    (storeCells ⟨n,o,none⟩ vs i).run P w= .ok () (CN w n (.cells (Co c (o+i) vs) e (0,0)))
 | [],w,c,o,i,h,_,_=>by
   simp only[storeCells,EY,Co];rw[aV h]
 | v::vs,w,c,o,i,h,hl,hv=>by
   have hlt:o+i<c.size:=by simp at hl;omega
   have h1:w.cell? ⟨n,o+i,none⟩=some c[o+i]:=by rw[DG h];rw[Array.getElem?_eq_getElem hlt]
   have hone:=hv v (by simp);simp only[storeCells,C6,Cc,run_store P w _ v _ hone,h1,Po h,Kc,if_false,Result.andThen];rw[setCell_eq h];rw[Cd vs _ (c.setIfInBounds (o+i) v) o (i+1) (NF (XM h)) (by simp at hl ⊢;omega) (fun u hu=>hv u (by simp[hu]))];rw[QN];rfl
end Go.Gl
namespace Go.Gl
def jg:Value->Option V
 | .bool b=>some (.b b)
 | .int k n=>if k.min<=n/\n<=k.max then some (.i k n)else none
 | .string s=>some (.s s)
 | .pointer none=>some .pn
 | .slice none 0 0=>some (.l [] true)
 | .map none=>some .mn
 | .nilFunc=>some .Kj
 | .nilIface=>some .DW
 | _=>none
def c7:List Value->Option (List V)
 | []=>some []
 | c::cs=>match jg c,c7 cs with
   | some v,some vs=>some (v::vs)
   | _,_=>none
def oV:Value->Option V
 | .agg cs=>(c7 cs.toList).map .a
 | .tuple cs=>if cs.size=0 then some (.t [])else none
 | c=>jg c
def BL:Operand->Option Bg
 | .tmp t=>some (.t t)
 | .const v=>(oV v).map .c
 | .func f=>some (.c (.f (.func f) [] []))
 | .global _=>none
def Jf:List Operand->Option (List Bg)
 | []=>some []
 | x::r=>match BL x,Jf r with
   | some v,some vs=>some (v::vs)
   | _,_=>none
def Zz:Option Operand->Option (Option Bg)
 | none=>some none
 | some x=>(BL x).map some
def Dt (P:Program) (t:TypeId):Option Nat:=(P.info? t).map (·.size)
def ID (P:Program) (t:TypeId):Option (Option Nat):=
 match P.underlying t with
 | some (.struct _)=>(Dt P t).map some
 | some (.array _ _)=>(Dt P t).map some
 | some _=>some none
 | none=>none
def zeroOf (P:Program) (t:TypeId):Option V:=(((P.info? t).bind (·.zero))).bind oV
def isInt (P:Program) (t:TypeId):Bool:=match P.underlying t with|some (.int _)=>true|_=>false
def isBool (P:Program) (t:TypeId):Bool:=match P.underlying t with|some .bool=>true|_=>false
def uu (P:Program) (op:BinOp) (t:TypeId) (x y:Bg):Option FY:=
 if isInt P t then some (.bin op x y)
 else if isBool P t then match op with
  | .eql=>some (.jb false x y)
  | .neq=>some (.jb true x y)
  | _=>none
 else none
def SO (fields:Array Field) (P:Program):List (Nat×Operand)->Option (List (Nat×Nat×Bg))
 | []=>some []
 | (i,x)::r=>match fields[i]?,BL x,SO fields P r with
   | some f,some o,some ps=>(Dt P f.type).map fun s=>(f.offset,s,o)::ps
   | _,_,_=>none
def Nw (sz:Nat):List (Nat×Operand)->Option (List (Nat×Nat×Bg))
 | []=>some []
 | (i,x)::r=>match BL x,Nw sz r with
   | some o,some ps=>some ((i*sz,sz,o)::ps)
   | _,_=>none
def Nv:List (Nat×Operand)->Option (List (Nat×Bg))
 | []=>some []
 | (i,x)::r=>match BL x,Nv r with
   | some o,some ps=>some ((i,o)::ps)
   | _,_=>none
def J7:Option V->Option (List V)
 | some (.a cs)=>some cs
 | some (.t _)=>none
 | some .any=>none
 | some v=>some [v]
 | none=>none
def dW (P:Program) (c:Call):Option FY:=
 match c.callee,c.args.toList,c.argTypes.toList with
 | .builtin .len,[x],[t]=>match P.underlying t with
   | some (.slice _)=>(BL x).map .len
   | some (.map _ _)=>(BL x).map .SE
   | some (.array n _)=>if(n:Int)<=IntKind.i64.max then some (.mv (.c (.i .i64 n)))else none
   | _=>none
 | .builtin .append,[x,y],[t,u]=>match P.underlying t,P.underlying u with
   | some (.slice e),some (.slice _)=>match BL x,BL y,P.info? e with
     | some x',some y',some i=>if t=u/\i.bytes<=4096/\i.zero.map (fun z=>z.cells.size)=some i.size then some (.append i.size i.bytes x' y')else none
     | _,_,_=>none
   | _,_=>none
 | .builtin .max,[x,y],_=>match BL x,BL y with|some x',some y'=>some (.T0 x' y')|_,_=>none
 | .builtin .min,[x,y],_=>match BL x,BL y with|some x',some y'=>some (.Tz x' y')|_,_=>none
 | .value (.func f),_,_=>(Jf c.args.toList).map (.call f)
 | .value x,_,_=>match BL x,Jf c.args.toList with|some x',some as=>some (.Ie x' as)|_,_=>none
 | _,_,_=>none
def wz (P:Program):Op->Option FY
 | .move x=>(BL x).map .mv
 | .assign x=>(BL x).map .mv
 | .pick c a b=>match BL c,BL a,BL b with|some c,some a,some b=>some (.pick c a b)|_,_,_=>none
 | .box _ x=>(BL x).map .box
 | .alloc e=>(J7 (zeroOf P e)).map .alloc
 | .build t parts=>match J7 (zeroOf P t),P.underlying t with
   | some z,some (.struct fields)=>if fields.toList.all (fun f=>(Dt P f.type).isSome)then(SO fields P parts.toList).map (.build z)else none
   | some z,some (.array _ e)=>(Dt P e).bind fun sz=>(Nw sz parts.toList).map (.build z)
   | _,_=>none
 | .buildSlice t len parts=>match P.underlying t with
   | some (.slice e)=>match J7 (zeroOf P e),Dt P e with
     | some z,some sz=>if z.length=sz/\0<sz/\0<len/\len*sz<=2 ^ 24 then(Nv parts.toList).map (.Gt sz len z)else none
     | _,_=>none
   | _=>none
 | .load t x=>match ID P t,BL x with|some a,some x=>some (.load a x)|_,_=>none
 | .store t a x=>match Dt P t,BL a,BL x with|some s,some a,some x=>some (.store s a x)|_,_,_=>none
 | .binOp op t x y _=>match BL x,BL y with|some x,some y=>uu P op t x y|_,_=>none
 | .unOp .not _ x=>(BL x).map .not
 | .unOp .neg t x=>if isInt P t then(BL x).map (.neg false)else none
 | .unOp .xor t x=>if isInt P t then(BL x).map (.neg true)else none
 | .convert s d x=>match P.underlying s,P.underlying d with
   | some (.int _),some (.int k)=>(BL x).map (.conv k)
   | _,_=>none
 | .makeInterface t x=>match P.underlying t with
   | some (.interface _)=>none
   | some _=>(BL x).map (.M6 t)
   | none=>none
 | .makeFunc (.func f) first cap=>match Jf first.toList,Jf cap.toList with|some a,some b=>some (.cV (.func f) a b)|_,_=>none
 | .slice t x lo hi mx=>match P.underlying t with
   | some (.slice e)=>match Dt P e,BL x,Zz lo,Zz hi,Zz mx with
     | some s,some x,some l,some h,some m=>if 0<s/\(m.isSome->h.isSome)then some (.slice s x l h m)else none
     | _,_,_,_,_=>none
   | _=>none
 | .fieldAddr s x f=>match P.underlying s with
   | some (.struct fields)=>match fields[f]? with
     | some fd=>match Dt P fd.type with
       | some sz=>if sz=0 then none else(BL x).map (.Fc fd.offset)
       | none=>none
     | none=>none
   | _=>none
 | .field t x f=>match P.underlying t with
   | some (.struct fields)=>match fields[f]? with
     | some fd=>match ID P fd.type,BL x with|some a,some x=>some (.field a fd.offset x)|_,_=>none
     | none=>none
   | _=>none
 | .indexAddr t x i=>match P.underlying t with
   | some (.slice e)=>match Dt P e,BL x,BL i with|some s,some x,some i=>some (.Kq s none x i)|_,_,_=>none
   | some (.array n e)=>match Dt P e,BL x,BL i with|some s,some x,some i=>some (.Kq s (some n) x i)|_,_,_=>none
   | _=>none
 | .index t x i=>match P.underlying t with
   | some (.array n e)=>match Dt P e,ID P e,BL x,BL i with|some s,some a,some x,some i=>some (.index n s a x i)|_,_,_,_=>none
   | _=>none
 | .extract x i=>(BL x).map (.extract i)
 | .nilCheck x=>(BL x).map .H5
 | .typeAssert x _ t ok=>match P.underlying t with
   | some (.interface _)=>none
   | some _=>match BL x,zeroOf P t with|some x,some z=>some (.cT t z ok x)|_,_=>none
   | none=>none
 | .panic x=>(BL x).map .panic
 | .call c=>dW P c
 | _=>none
def CQ (Λ:Nat->Prop) (σ:AH) (w:World) (k kp:V->AH->Prop):Result Value->Prop
 | .ok c w'=> ∃v σ',k v σ'/\Ag (Hh Λ σ' w') v c/\Rel Λ σ' w'/\B2 Λ σ w σ' w'
 | .halt (.panic c) w'=> ∃v σ',kp v σ'/\Ag (Hh Λ σ' w') v c/\Rel Λ σ' w'/\B2 Λ σ w σ' w'
 | _=>False
def Good (P:Program) (Λ:Nat->Prop) (σ:AH) (w:World) (k kp:V->AH->Prop):Result Next->Prop
 | .ok (.value c) w'=> ∃v σ',k v σ'/\Ag (Hh Λ σ' w') v c/\Rel Λ σ' w'/\B2 Λ σ w σ' w'
 | .ok .skip w'=> ∃σ',k (.t []) σ'/\Rel Λ σ' w'/\B2 Λ σ w σ' w'
 | .ok (.enter f args) w'=>Calls P f args w' fun e w''=> ∃r σ',qk k kp r σ'/\UJ (Hh Λ σ' w'') r e/\Rel Λ σ' w''/\B2 Λ σ w σ' w''
 | .ok (.round l f tmps assign body) w'=>RoundIn Fence.wide 0 P l f tmps assign body w' fun e w''=> ∃r σ',qk k kp r σ'/\UJ (Hh Λ σ' w'') r e/\Rel Λ σ' w''/\B2 Λ σ w σ' w''
 | .halt (.panic c) w'=> ∃v σ',kp v σ'/\Ag (Hh Λ σ' w') v c/\Rel Λ σ' w'/\B2 Λ σ w σ' w'
 | _=>False
def A0 {P:Program} {Λ:Nat->Prop} {σ:AH} {w:World} {k kp:V->AH->Prop} {s:Sem Value} (h:CQ Λ σ w k kp (s.run P w)) :
    Good P Λ σ w k kp ((do pure (.value (<-s)):Sem Next).run P w):=by
 simp only[C6];generalize s.run P w=r at *;cases r with
 | ok c w'=>exact h
 | halt x w'=>cases x<;>first|exact h|exact h.elim
def E2 {Λ:Nat->Prop} {σ:AH} {w:World} {k kp:V->AH->Prop} (G:Rel Λ σ w) {v:V} {c:Value} (hv:Ag (Hh Λ σ w) v c) (hk:k v σ):CQ Λ σ w k kp (.ok c w):=
 ⟨v,σ,hk,hv,G,B2.refl _ _ _⟩
def Aw {Λ:Nat->Prop} {σ:AH} {w:World} {k kp:V->AH->Prop} (G:Rel Λ σ w) {v:V} {c:Value} (hk:k v σ) (hv:Ag (Hh Λ σ w) v c):CQ Λ σ w k kp (.ok c w):=
 E2 G hv hk
def CE (H:Nat->Nat->Option Value) (env:Env) (tmps:Array Value):Prop:= ∀k v,get k env=some v-> ∃c,tmps[k]? =some c/\Ag H v c
def CE.mono {H H':Nat->Nat->Option Value} (hle:YJ H H') {env:Env} {tmps:Array Value} (h:CE H env tmps):CE H' env tmps:=
 fun k v hv=>let⟨c,h1,h2⟩:=h k v hv;⟨c,h1,h2.mono hle⟩
def Ux {H:Nat->Nat->Option Value} {c:Value} {v:V} (h:jg c=some v):Ag H v c:=by
 unfold jg at h
 split at h<;>first
  | (cases h;simp[Ag];done)
  | (split at h<;>first|(rename_i hc;cases h;simpa[Ag]using hc)|cases h)
  | cases h
 .exact⟨none,0,rfl,by simp,by simp,by simp[Ay],by simp,by simp⟩
def Uw {H:Nat->Nat->Option Value}: ∀ {cs:List Value} {vs:List V},c7 cs=some vs->cs.length=vs.length/\BO H (fun i=>cs[i]?) 0 vs
 | [],vs,h=>by cases h;exact⟨rfl,trivial⟩
 | c ::cs,vs,h=>by
   simp only[c7]at h;split at h
   .rename_i v vs' h1 h2
    cases h;obtain⟨h3,h4⟩:=Uw (H:=H) h2;refine⟨by simp[h3],⟨c,by simp,Ux h1⟩,?_⟩;exact A7 h4 (fun i _=>by rw[show 0+1+i=i+1 by omega];simp)
   .cases h
def GS {H:Nat->Nat->Option Value} {c:Value} {v:V} (h:oV c=some v):Ag H v c:=by
 unfold oV at h;split at h
 .rename_i cs
  cases hq:c7 cs.toList with
  | none=>rw[hq]at h;cases h
  | some vs=>
    rw[hq]at h;cases h;obtain⟨h1,h2⟩:=Uw (H:=H) hq;refine⟨cs,rfl,by simpa using h1,A7 h2 (fun i _=>by simp)⟩
 .rename_i cs
  split at h
  .rename_i h0
   cases h;exact⟨cs,rfl,by simpa using h0,trivial⟩
  .cases h
 .exact Ux h
def Ap {H:Nat->Nat->Option Value} {env:Env} {a:Act} (he:CE H env a.tmps) {x:Operand} {o:Bg} (ho:BL x=some o) {v:V} (hv:ev env o=some v):Ag H v (a.eval x):=by
 cases x with
 | tmp t=>
   cases ho;obtain⟨c,h1,h2⟩:=he t v hv;simp only[Act.eval,Array.getD_eq_getD_getElem?,h1,Option.getD_some];exact h2
 | const c=>
   simp only[BL]at ho;cases hq:oV c with
   | none=>rw[hq]at ho;cases ho
   | some u=>
     rw[hq]at ho;cases ho;cases hv;exact GS hq
 | func f=>
   cases ho;cases hv;exact⟨#[],#[],rfl,rfl,trivial,rfl,trivial⟩
 | global g=>cases ho
def ZN {H:Nat->Nat->Option Value} {env:Env} {a:Act} (he:CE H env a.tmps): ∀ {xs:List Operand} {os:List Bg},Jf xs=some os-> ∀ {vs:List V},Tl env os=some vs->
    xs.length=vs.length/\BO H (fun i=>(xs.map a.eval)[i]?) 0 vs
 | [],os,ho,vs,hv=>by cases ho;cases hv;exact⟨rfl,trivial⟩
 | x ::xs,os,ho,vs,hv=>by
   simp only[Jf]at ho;split at ho
   .rename_i o os' h1 h2
    cases ho;simp only[Tl]at hv;split at hv
    .rename_i v vs' h3 h4
     cases hv;obtain⟨h5,h6⟩:=ZN he h2 h4;refine⟨by simp[h5],⟨a.eval x,by simp,Ap he h1 h3⟩,?_⟩;exact A7 h6 (fun i _=>by rw[show 0+1+i=i+1 by omega];simp)
    .cases hv
   .cases ho
def Ak {o:Option V} {k:V->Prop} (h:wv o k): ∃v,o=some v/\k v:=by
 cases o with
 | none=>exact h.elim
 | some v=>exact⟨v,rfl,h⟩
def Hm {o:Option (List V)} {k:List V->Prop} (h:ws o k): ∃v,o=some v/\k v:=by
 cases o with
 | none=>exact h.elim
 | some v=>exact⟨v,rfl,h⟩
def Yb {o:Option (List (List V))} {k:List (List V)->Prop} (h:wr o k): ∃v,o=some v/\k v:=by
 cases o with
 | none=>exact h.elim
 | some v=>exact⟨v,rfl,h⟩
def Ss {o:Option (Option V)} {k:Option V->Prop} (h:wo o k): ∃v,o=some v/\k v:=by
 cases o with
 | none=>exact h.elim
 | some v=>exact⟨v,rfl,h⟩
end Go.Gl
namespace Go.Gl
variable {P:Program} {Λ:Nat->Prop} {σ:AH} {w:World} {k kp:V->AH->Prop}
def Lr {t:TypeId} {n:Nat} (h:Dt P t=some n): ∃i,P.info? t=some i/\i.size=n:=by
 unfold Dt at h;cases hi:P.info? t with
 | none=>rw[hi]at h;cases h
 | some i=>rw[hi]at h;cases h;exact⟨i,rfl,rfl⟩
def Dz {t:TypeId} {n:Nat} (h:Dt P t=some n) (w:World):(sizeOf t).run P w= .ok n w:=by
 obtain⟨i,h1,h2⟩:=Lr h;simp[sizeOf,typeInfo,h1,h2]
def BE {t:TypeId} {d:TypeDesc} (h:P.underlying t=some d) (w:World):(underlying t).run P w= .ok d w:=by
 simp[underlying,h]
def EE {t:TypeId} {z:V} (h:zeroOf P t=some z) (w:World): ∃c,(zeroValue t).run P w= .ok c w/\oV c=some z:=by
 unfold zeroOf at h;cases hi:P.info? t with
 | none=>rw[hi]at h;cases h
 | some i=>
   rw[hi]at h;cases hz:i.zero with
   | none=>simp[hz]at h
   | some c=>
     refine⟨c,by simp[zeroValue,typeInfo,hi,hz],?_⟩;simpa[hz]using h
def Vu {t:TypeId} {z:V} (h:zeroOf P t=some z): ∃i c,P.info? t=some i/\i.zero=some c/\oV c=some z:=by
 unfold zeroOf at h;cases hi:P.info? t with
 | none=>rw[hi]at h;cases h
 | some i=>
   rw[hi]at h;cases hz:i.zero with
   | none=>simp[hz]at h
   | some c=>exact⟨i,c,rfl,hz,by simpa[hz]using h⟩
def Qw {t:TypeId} {a:Option Nat} (h:ID P t=some a) (w:World):(isAgg t).run P w= .ok a.isSome w/\ ∀n,a=some n->(sizeOf t).run P w= .ok n w:=by
 unfold ID at h;cases hu:P.underlying t with
 | none=>rw[hu]at h;cases h
 | some d=>
   rw[hu]at h;unfold isAgg;simp only[C6,BE hu,Result.andThen]
   cases d<;>simp only at h ⊢ <;>first
    | (cases h;exact⟨rfl,fun n e=>by cases e⟩)
    | (cases hs:Dt P t with
       | none=>rw[hs]at h;cases h
       | some n=>rw[hs]at h;cases h;exact⟨rfl,fun n e=>by cases e;exact Dz hs w⟩)
def TY {g:Nat->Option Value} {b o n:Nat} {vs:List V} {H:Nat->Nat->Option Value} (hg: ∀i c,g i=some c->w.cell? ⟨b,i,none⟩=some c) (hv:BO H g o vs) (hn:vs.length=n) :
    ∃cs:Array Value,(loadCells ⟨b,o,none⟩ n).run P w= .ok cs w/\cs.size=n/\BO H (fun i=>cs[i]?) 0 vs:=by
 rw[BV]at hv
 have hch: ∀i,i<n-> ∃c,g (o+i)=some c:=fun i hi=>by
  obtain⟨c,hc,_⟩:=hv i vs[i] (ES (by omega));exact⟨c,hc⟩
 let f:Nat->Value:=fun i=>(g (o+i)).getD undef
 refine⟨((List.range n).map f).toArray,?_,by simp,?_⟩
 .rw[run_loadCells w _ n f (fun j hj=>by
   obtain⟨c,hc⟩:=hch j hj;rw[Cc,hg _ _ hc]
   simp[f,hc])]
 .rw[BV]
  intro i v hi;obtain⟨c,hc,hr⟩:=hv i v hi;have hlt:i<n:=by rw[<-hn];exact(JX.1 hi).1
  refine⟨c,?_,hr⟩;simp[f,hc,hlt]
def Ez {t:TypeId} {agg:Option Nat} (Y:ID P t=some agg) {g:Nat->Option Value} {b o off:Nat} {vs:List V} {H:Nat->Nat->Option Value} (hg: ∀i c,g i=some c->w.cell? ⟨b,i,none⟩=some c) (hv:BO H g o vs)
    {K:V->Prop} (hk:cut agg vs off K): ∃v c,(loadVar t ⟨b,o+off,none⟩).run P w= .ok c w/\Ag H v c/\K v:=by
 obtain⟨h1,h2⟩:=Qw Y w;unfold loadVar;simp only[C6,h1,Result.andThen];cases agg with
 | none=>
   simp only[cut]at hk;split at hk
   .rename_i v hv'
    obtain⟨c,hc,hr⟩:=BV.1 hv off v hv';refine⟨v,c,?_,hr,hk⟩;simp[hg _ _ hc]
   .exact hk.elim
 | some n=>
   simp only[cut]at hk;obtain⟨cs,h3,h4,h5⟩:=TY (P:=P) (n:=n) hg (Qk (JF hv off) n) (by simp;omega);refine⟨.a ((vs.drop off).take n),.agg cs,?_,⟨cs,rfl,by simp[h4];omega,h5⟩,hk.2⟩;simp[h2 n rfl,h3]
def JS (G:Rel Λ σ w) {n:Nat} {vs:List V} (h:σ n=some (.cs vs)): ∃c e,w.heap[n]? =some (.cells c e (0,0))/\c.size=vs.length/\BO (Hh Λ σ w) (fun i=>c[i]?) 0 vs:=by
 obtain⟨_,ob,h2,c,e,rfl,h4,h5⟩:=G.own n _ h;exact⟨c,e,h2,h4,h5⟩
def Eh (G:Rel Λ σ w) {n sz cap:Nat} {es:List (List V)} (h:σ n=some (.arr sz es cap)): ∃c e,w.heap[n]? =some (.cells c e (0,0))/\cap*sz<=c.size/\es.length<=cap/\es.length<=Ay/\BC (Hh Λ σ w) (fun i=>c[i]?) sz 0 es:=by
 obtain⟨_,ob,h2,c,e,rfl,h4,h5⟩:=G.own n _ h;exact⟨c,e,h2,h4,h5⟩
def Xu {t:TypeId} {agg:Option Nat} (Y:ID P t=some agg) (G:Rel Λ σ w) {vx:V} {c:Value} (hx:Ag (Hh Λ σ w) vx c) (h:AW σ agg vx fun v=>k v σ) :
    CQ Λ σ w k kp ((Instr.loadAt t c).run P w):=by
 unfold Instr.loadAt;unfold AW at h;split at h
 .rename_i cs
  obtain⟨b,o,rfl,hv⟩:=hx;obtain⟨v,c,h1,h2,h3⟩:=Ez (P:=P) (w:=w) (b:=b) (off:=0) Y (fun i c hc=>(Fk hc).2.2) hv h;simp only[C6,Instr.sureAddr,EY,Result.andThen,Nat.add_zero]at h1 ⊢;rw[h1];exact E2 G h2 h3
 .rename_i n off
  simp only[Ag]at hx;subst hx;unfold OQ at h;split at h
  .rename_i vs hs
   obtain⟨c,e,h1,h2,h3⟩:=JS G hs;obtain⟨v,c',h4,h5,h6⟩:=Ez (P:=P) (w:=w) (b:=n) (off:=off) Y (fun i c hc=>by rw[DG h1];exact hc) h3 h;simp only[C6,Instr.sureAddr,EY,Result.andThen,GM]at h4 ⊢;rw[h4];exact E2 G h5 h6
  .exact h.elim
 .rename_i n sz i off
  simp only[Ag]at hx;subst hx;unfold OR at h;split at h
  .rename_i sz' es cap hs
   obtain⟨rfl,h⟩:=h;split at h
   .rename_i e he
    obtain⟨c,e',h1,_,_,_,h3⟩:=Eh G hs;obtain⟨h7,h8⟩:=A9.1 h3 i e he;obtain⟨v,c',h4,h5,h6⟩:=Ez (P:=P) (w:=w) (b:=n) (off:=off) Y (fun i c hc=>by rw[DG h1];exact hc) h8 h;simp only[C6,Instr.sureAddr,EY,Result.andThen,GM]at h4 ⊢;rw[h4];exact E2 G h5 h6
   .exact h.elim
  .exact h.elim
 .exact h.elim
def Cl {H:Nat->Nat->Option Value} {v:V} {c:Value} (hv:Ag H v c) {vs:List V} (h:cellsOf v=some vs):c.cells.size=vs.length/\BO H (fun i=>c.cells[i]?) 0 vs:=by
 cases v<;>simp only[cellsOf]at h<;>first
  | (cases h;done)
  | (cases h
     have hc:c.cells= #[c]:=by
      first
       | (simp only[Ag]at hv;subst hv;rfl)
       | (simp only[Ag]at hv;obtain⟨rfl,_⟩:=hv;rfl)
       | (simp only[Ag]at hv;obtain⟨_,rfl,_⟩:=hv;rfl)
       | (simp only[Ag]at hv;obtain⟨_,_,rfl,_⟩:=hv;rfl)
     rw[hc]
     exact⟨rfl,⟨c,rfl,hv⟩,trivial⟩)
  | skip
 rename_i cs;cases h;obtain⟨c',rfl,h2,h3⟩:=hv;exact⟨h2,h3⟩
def Oz {H:Nat->Nat->Option Value} {v:V} {c:Value} (hv:Ag H v c) (h:CA v=true):c.oneCell'=true:=by
 cases v<;>first
  | (simp[CA]at h;done)
  | (simp only[Ag]at hv;subst hv;rfl)
  | (simp only[Ag]at hv;obtain⟨rfl,_⟩:=hv;rfl)
  | (simp only[Ag]at hv;obtain⟨_,rfl,_⟩:=hv;rfl)
  | (simp only[Ag]at hv;obtain⟨_,_,rfl,_⟩:=hv;rfl)
def gp {H:Nat->Nat->Option Value} {vs:List V} {c:Array Value} (hs:c.size=vs.length) (hv:BO H (fun i=>c[i]?) 0 vs) (h:vs.all CA=true): ∀u∈c.toList,u.oneCell'=true:=by
 intro u hu;obtain⟨i,hi⟩:=List.mem_iff_getElem?.1 hu;have hlt:i<vs.length:=by rw[<-hs];have:=(JX.1 hi).1;simpa using this
 obtain⟨d,hd,hr⟩:=BV.1 hv i vs[i] (ES hlt);have:d=u:=by simp only[GM]at hd;rw[Array.getElem?_toList]at hi;rw[hi]at hd;cases hd;rfl
 subst this;exact Oz hr (Dh.1 h _ (List.getElem_mem hlt))
def El: ∀(us cs:List V) (o:Nat),(putAt cs o us).length=cs.length
 | [],_,_=>rfl
 | u::us,cs,o=>by simp only[putAt];rw[El us];simp
def gK {H:Nat->Nat->Option Value} {c:Array Value} {vs:List V} {i:Nat} {v:V} {d:Value} (hs:c.size=vs.length) (h:BO H (fun i=>c[i]?) 0 vs) (hv:Ag H v d) :
    BO H (fun j=>(c.setIfInBounds i d)[j]?) 0 (vs.set i v):=by
 rw[BV]at *;intro j u hu;simp only[GM]at h ⊢;rw[List.getElem?_set]at hu;split at hu
 .rename_i e
  subst e;split at hu
  .rename_i hlt
   cases hu;exact⟨d,by rw[Array.getElem?_setIfInBounds_self_of_lt (by omega)],hv⟩
  .cases hu
 .rename_i e
  obtain⟨c',h1,h2⟩:=h j u hu;exact⟨c',by rw[Array.getElem?_setIfInBounds_ne e];exact h1,h2⟩
def LF {H:Nat->Nat->Option Value}: ∀ {us:List V} {ds:List Value} {c:Array Value} {vs:List V} {o:Nat},c.size=vs.length->BO H (fun i=>c[i]?) 0 vs->ds.length=us.length->BO H (fun i=>ds[i]?) 0 us->
    BO H (fun i=>(Co c o ds)[i]?) 0 (putAt vs o us)
 | [],[],c,vs,o,_,h,_,_=>h
 | u::us,d::ds,c,vs,o,hs,h,hl,hu=>by
   simp only[Co,putAt];obtain⟨⟨d',hd,hr⟩,hu'⟩:=hu;have e:d'=d:=by simp at hd;exact hd.symm
   subst e;exact LF (by simpa using hs) (gK hs h hr) (by simpa using hl) (A7 hu' (fun i _=>by rw[show 0+1+i=i+1 by omega];simp))
 | [],_::_,_,_,_,_,_,hl,_=>by simp at hl
 | _::_,[],_,_,_,_,_,hl,_=>by simp at hl
def C3: ∀(ds:List Value) (c:Array Value) (o i:Nat),(i<o\/o+ds.length<=i)->(Co c o ds)[i]? =c[i]?
 | [],_,_,_,_=>rfl
 | d::ds,c,o,i,h=>by
   simp only[Co];rw[C3 ds _ _ _ (by simp at h;omega),Array.getElem?_setIfInBounds_ne (by simp at h;omega)]
def Fu: ∀(ds:List Value) (c:Array Value) (o i:Nat),i<ds.length->o+ds.length<=c.size->(Co c o ds)[o+i]? =ds[i]?
 | d ::ds,c,o,i,h,hs=>by
   simp only[Co];cases i with
   | zero=>
     simp at hs;rw[C3 ds _ _ _ (by omega),Nat.add_zero,Array.getElem?_setIfInBounds_self_of_lt (by omega)];rfl
   | succ i=>
     rw[show o+(i+1)=o+1+i by omega,Fu ds _ _ i (by simpa using h) (by simp at hs ⊢;omega)];simp
 | [],_,_,_,h,_=>by simp at h
def WH {t : TypeId} {sz:Nat} (hS:Dt P t=some sz) (G:Rel Λ σ w) {va vx:V} {ca cx:Value} (ha:Ag (Hh Λ σ w) va ca) (hx:Ag (Hh Λ σ w) vx cx)
    (h:AR σ sz va vx fun σ'=>k (.t []) σ'): ∃σ' w',(Instr.storeAt t ca cx).run P w= .ok () w'/\k (.t []) σ'/\Rel Λ σ' w'/\B2 Λ σ w σ' w':=by
 unfold AR at h;split at h
 .rename_i vc hc
  obtain⟨hlen,hone,h⟩:=h;obtain⟨hcs,hcv⟩:=Cl hx hc;have h1s:=gp hcs hcv hone;have hcv':BO (Hh Λ σ w) (fun i=>cx.cells.toList[i]?) 0 vc:=A7 hcv (fun i _=>by simp)
  have hrun: ∀n o,ca= .pointer (some ⟨n,o,none⟩)->(Instr.storeAt t ca cx).run P w=(storeCells ⟨n,o,none⟩ cx.cells.toList).run P w:=by
   rintro n o rfl;have:cx.cells.size=sz:=by omega
   simp[Instr.storeAt,Instr.sureAddr,storeVar,Dz hS,this]
  split at h
  .rename_i n off
   split at h
   .rename_i vs hs
    obtain⟨hle,hk⟩:=h;simp only[Ag]at ha;obtain⟨c,e,h1,h2,h3⟩:=JS G hs;refine⟨_,CN w n (.cells (Co c off cx.cells.toList) e (0,0)),?_,hk,?_,GZ hs _ _⟩
    .rw[hrun n off ha,Cd cx.cells.toList w c off 0 h1 (by simp;omega) h1s]
     rfl
    .exact I3 G hs ⟨_,e,rfl,by rw[Dg,El];exact h2,LF h2 h3 (by simp;omega) hcv'⟩
   .exact h.elim
  .rename_i n s i off
   split at h
   .rename_i s' es cap hs
    obtain⟨rfl,h⟩:=h;split at h
    .rename_i e he
     obtain⟨hle,hk⟩:=h;simp only[Ag]at ha;obtain⟨c,et,h1,h2,h3,h4,h5⟩:=Eh G hs;obtain⟨h6,h7⟩:=A9.1 h5 i e he;have hi:i<es.length:=(JX.1 he).1
     have hb:i*s+s<=c.size:=by
      rw[<-Nat.succ_mul];exact Nat.le_trans (YG _ (by omega)) h2
     refine⟨_,CN w n (.cells (Co c (i*s+off) cx.cells.toList) et (0,0)),?_,hk,?_,GZ hs _ _⟩
     .rw[hrun n _ ha,Cd cx.cells.toList w c _ 0 h1 (by simp;omega) h1s]
      rfl
     .refine I3 G hs ⟨_,et,rfl,by rw[Dg];exact h2,by simpa using h3,by simpa using h4,?_⟩
      rw[A9];intro j u hu;rw[List.getElem?_set]at hu;split at hu
      .rename_i ej
       subst ej;cases hu;refine⟨by rw[El];exact h6,?_⟩
       have hrow:BO (Hh Λ σ w) (fun q=>(c.extract (i*s) (i*s+s))[q]?) 0 e:=by
        refine A7 h7 (fun q hq=>?_);simp only[GM];rw[Array.getElem?_extract_of_lt (by omega)];exact(Array.getElem?_eq_getElem (by omega)).symm
       have:=LF (o:=off) (by simp;omega) hrow (by simp;omega) hcv';refine A7 this (fun q hq=>?_);rw[El]at hq;simp only[GM];by_cases hin:off<=q/\q<off+cx.cells.toList.length
       .obtain⟨r,rfl⟩: ∃r,q=off+r:=⟨q - off,by omega⟩
        rw[show i*s+(off+r)=i*s+off+r by omega,Fu _ _ _ _ (by omega) (by simp;omega),Fu _ _ _ _ (by omega) (by simp;omega)]
       .rw[C3 _ _ _ _ (by omega),C3 _ _ _ _ (by omega),Array.getElem?_extract_of_lt (by omega)]
        exact Array.getElem?_eq_getElem (by omega)
      .rename_i ej
       obtain⟨h8,h9⟩:=A9.1 h5 j u hu;refine⟨h8,A7 h9 (fun q hq=>?_)⟩;rw[C3];rcases Nat.lt_or_ge j i with hji|hji
       .left
        have:(j+1)*s<=i*s:=YG _ hji;rw[Nat.succ_mul]at this;omega
       .right
        have:(i+1)*s<=j*s:=YG _ (by omega);rw[Nat.succ_mul]at this;simp;omega
    .exact h.elim
   .exact h.elim
  .exact h.elim
 .exact h.elim
end Go.Gl
namespace Go.Gl
variable {P:Program} {Λ:Nat->Prop} {σ:AH} {w:World} {k kp:V->AH->Prop}
def RJ (G:Rel Λ σ w) {cells:Array Value} {e:TypeId} {cs:List V} (hs:cells.size=cs.length) (hv:BO (Hh Λ σ w) (fun i=>cells[i]?) 0 cs)
    (h: ∀n,σ n=none->k (.p n 0) (A6 σ n (.cs cs))):CQ Λ σ w k kp ((do pure (.pointer (some (<-newRow e cells))):Sem Value).run P w):=by
 simp only[newRow,C6,run_newObj,EY,Result.andThen,World.alloc_eq];exact⟨.p w.heap.size 0,_,h _ G.new,rfl,HV G ⟨cells,e,rfl,hs,hv⟩,Dl _ _⟩
def bV (e:TypeId) (G:Rel Λ σ w) {vx:V} {c:Value} (hx:Ag (Hh Λ σ w) vx c) {cs:List V} (hc:cellsOf vx=some cs) (h: ∀n,σ n=none->k (.p n 0) (A6 σ n (.cs cs))) :
    CQ Λ σ w k kp ((Instr.box e c).run P w):=by
 obtain⟨h1,h2⟩:=Cl hx hc;exact RJ G h1 h2 h
def GA {z:Option V} {cs:List V} (h:J7 z=some cs): ∃v,z=some v/\cellsOf v=some cs:=by
 cases z with
 | none=>cases h
 | some v=>cases v<;>first|(cases h;done)|(cases h;exact⟨_,rfl,rfl⟩)
def WN {e:TypeId} {z:List V} (hz:J7 (zeroOf P e)=some z) (G:Rel Λ σ w) (h: ∀n,σ n=none->k (.p n 0) (A6 σ n (.cs z))) :
    CQ Λ σ w k kp ((Instr.alloc e true (.tuple #[])).run P w):=by
 obtain⟨v,h1,h2⟩:=GA hz;obtain⟨c,h3,h4⟩:=EE h1 w;obtain⟨h5,h6⟩:=Cl (GS (H:=Hh Λ σ w) h4) h2;have:=RJ (P:=P) (kp:=kp) (e:=e) G h5 h6 h;unfold Instr.alloc;simp only[C6,h3,Result.andThen]at this ⊢;simpa[newVar,newRow]using this
def WL {s:TypeId} {fields:Array Field} {f:Nat} {fd:Field} {sz:Nat} (hu:P.underlying s=some (.struct fields)) (hf:fields[f]? =some fd) (hs:Dt P fd.type=some sz) (h0:sz≠0)
    (G:Rel Λ σ w) {vx:V} {c:Value} (hx:Ag (Hh Λ σ w) vx c) (h:J5 fd.offset vx fun v=>k v σ):CQ Λ σ w k kp ((Instr.fieldAt s c f).run P w):=by
 have hrun: ∀b o,c= .pointer (some ⟨b,o,none⟩)->(Instr.fieldAt s c f).run P w= .ok (.pointer (some ⟨b,o+fd.offset,none⟩)) w:=by
  rintro b o rfl;simp[Instr.fieldAt,BE hu,hf,Instr.sureAddr,fieldPlace,Dz hs,h0,Cc]
 unfold J5 at h;split at h
 .obtain⟨b,o,hc,hv⟩:=hx
  rw[hrun b o hc];exact Aw G h ⟨b,_,rfl,JF hv _⟩
 .rw[hrun _ _ hx]
  exact Aw G h rfl
 .simp only[Ag]at hx
  rw[hrun _ _ hx,Nat.add_assoc];exact Aw G h rfl
 .exact h.elim
def Yx {t:TypeId} {agg:Option Nat} (Y:ID P t=some agg) {H:Nat->Nat->Option Value} {c:Array Value} {off:Nat} {vs:List V} (hs:c.size=vs.length) (hv:BO H (fun i=>c[i]?) 0 vs)
    {K:V->Prop} (hk:cut agg vs off K) (w:World): ∃v d,(part t c off).run P w= .ok d w/\Ag H v d/\K v:=by
 obtain⟨h1,h2⟩:=Qw Y w;unfold part;simp only[C6,h1,Result.andThen];cases agg with
 | none=>
   simp only[cut]at hk;split at hk
   .rename_i v hv'
    obtain⟨d,hd,hr⟩:=BV.1 hv off v hv';refine⟨v,d,?_,hr,hk⟩;simp only[GM]at hd;simp[hd]
   .exact hk.elim
 | some n=>
   simp only[cut]at hk;refine⟨.a ((vs.drop off).take n),.agg (c.extract off (off+n)),by simp[h2 n rfl],⟨_,rfl,by simp;omega,?_⟩,hk.2⟩;refine A7 (Qk (JF hv off) n) (fun i hi=>?_);simp at hi;rw[Array.getElem?_extract_of_lt (by omega)];rw[show 0+off+i=off+(0+i) by omega];exact(Array.getElem?_eq_getElem (by omega)).symm
def WK {s:TypeId} {fields:Array Field} {f:Nat} {fd:Field} {agg:Option Nat} (hu:P.underlying s=some (.struct fields)) (hf:fields[f]? =some fd) (Y:ID P fd.type=some agg)
    (G:Rel Λ σ w) {cs:List V} {c:Value} (hx:Ag (Hh Λ σ w) (.a cs) c) (h:cut agg cs fd.offset fun v=>k v σ):CQ Λ σ w k kp ((Instr.field s c f).run P w):=by
 obtain⟨c',rfl,h1,h2⟩:=hx;obtain⟨v,d,h3,h4,h5⟩:=Yx Y h1 h2 h w;simp only[Instr.field,C6,BE hu,Result.andThen,hf,asAgg,EY,h3];exact E2 G h4 h5
def WJ {t e:TypeId} {len sz:Nat} {agg:Option Nat} (hu:P.underlying t=some (.array len e)) (hs:Dt P e=some sz) (Y:ID P e=some agg)
    (G:Rel Λ σ w) {vx vi:V} {cx ci:Value} (hx:Ag (Hh Λ σ w) vx cx) (hi:Ag (Hh Λ σ w) vi ci) (h:J4 len sz agg vx vi fun v=>k v σ):CQ Λ σ w k kp ((Instr.index t cx ci).run P w):=by
 unfold J4 at h;split at h
 .rename_i cs ki j
  obtain⟨h0,h1,h⟩:=h;obtain⟨c',rfl,h2,h3⟩:=hx;obtain⟨rfl,_⟩:=hi;obtain⟨v,d,h4,h5,h6⟩:=Yx Y h2 h3 h w;simp only[Instr.index,C6,asIntOf,EY,Result.andThen,BE hu,h0,h1,and_self,if_true,Dz hs,h4];exact E2 G h5 h6
 .exact h.elim
def run_indexAt_slice {t e:TypeId} {sz:Nat} (hu:P.underlying t=some (.slice e)) (hs:Dt P e=some sz) {b o:Nat} {n cap:Nat} {j:Int} {ki:IntKind} (h0:0<=j) (h1:j<n) :
    (Instr.indexAt t (.slice (some ⟨b,o,none⟩) n cap) (.int ki j)).run P w= .ok (.pointer (some ⟨b,o+j.toNat*sz,none⟩)) w:=by
 simp[Instr.indexAt,asIntOf,BE hu,h0,h1,Dz hs,Cc]
def run_indexAt_array {t e:TypeId} {sz m:Nat} (hu:P.underlying t=some (.array m e)) (hs:Dt P e=some sz) {b o:Nat} {j:Int} {ki:IntKind} (h0:0<=j) (h1:j<m) :
    (Instr.indexAt t (.pointer (some ⟨b,o,none⟩)) (.int ki j)).run P w= .ok (.pointer (some ⟨b,o+j.toNat*sz,none⟩)) w:=by
 simp[Instr.indexAt,asIntOf,BE hu,h0,h1,Dz hs,Cc,Instr.sureAddr]
def Lx {t e:TypeId} {sz:Nat} (hu:P.underlying t=some (.slice e)) (hs:Dt P e=some sz)
    (G:Rel Λ σ w) {vx vi:V} {cx ci:Value} (hx:Ag (Hh Λ σ w) vx cx) (hi:Ag (Hh Λ σ w) vi ci) (h:AQ sz none vx vi fun v=>k v σ):CQ Λ σ w k kp ((Instr.indexAt t cx ci).run P w):=by
 cases vi<;>simp only[AQ]at h
 rename_i ki j;obtain⟨rfl,_⟩:=hi;cases vx<;>simp only at h
 .rename_i es full
  obtain⟨h0,e',he,hl,h⟩:=h;obtain⟨a,cap,rfl,_,_,_,_,h6⟩:=hx;have hlt:=(JX.1 he).1;obtain⟨b,o,s,rfl,h7⟩:=h6 (by rintro rfl;simp at he);obtain⟨h8,h9⟩:=A9.1 h7 _ _ he;have:s=sz:=by omega
  subst this;rw[run_indexAt_slice hu hs h0 (by omega)];exact Aw G h ⟨b,_,rfl,h9⟩
 .rename_i n len cap
  obtain⟨h0,h1,h⟩:=h;obtain⟨rfl,_⟩:=hx;rw[run_indexAt_slice hu hs h0 h1];exact Aw G h (by simp[Ag])
 .rename_i n s off len
  obtain⟨rfl,h0,h1,h⟩:=h;obtain⟨a,cap,rfl,_,h3⟩:=hx;obtain rfl:=h3 (by omega);rw[run_indexAt_slice hu hs h0 h1];exact Aw G h (by simp[Ag,Nat.add_mul])
def Ly {t e:TypeId} {sz m:Nat} (hu:P.underlying t=some (.array m e)) (hs:Dt P e=some sz)
    (G:Rel Λ σ w) {vx vi:V} {cx ci:Value} (hx:Ag (Hh Λ σ w) vx cx) (hi:Ag (Hh Λ σ w) vi ci) (h:AQ sz (some m) vx vi fun v=>k v σ):CQ Λ σ w k kp ((Instr.indexAt t cx ci).run P w):=by
 cases vi<;>simp only[AQ]at h
 rename_i ki j;obtain⟨rfl,_⟩:=hi;cases vx<;>simp only at h
 .rename_i n o
  obtain⟨h0,h1,h⟩:=h;simp only[Ag]at hx;subst hx;rw[run_indexAt_array hu hs h0 h1];exact Aw G h rfl
 .rename_i cs
  obtain⟨h0,h1,h⟩:=h;obtain⟨b,o,rfl,hv⟩:=hx;rw[run_indexAt_array hu hs h0 h1];exact Aw G h ⟨b,_,rfl,JF hv _⟩
 .rename_i n s q o
  obtain⟨h0,h1,h⟩:=h;simp only[Ag]at hx;subst hx;rw[run_indexAt_array hu hs h0 h1,Nat.add_assoc];exact Aw G h rfl
end Go.Gl
