import Derived.OrdersIn
import Derived.Below
import Derived.Laws.Cells
import Derived.Laws.Rows
import Derived.Laws.World
import Derived.Laws.Slices
import Derived.Laws.Build
import Derived.WideShapes4
import Derived.OpenShut
set_option linter.all false
set_option linter.defProp false
noncomputable section
namespace Go.Gl
def kZ {n m:Nat} (h:Nat.ble n m=true:=by exact rfl):n≤m:=Nat.le_of_ble_eq_true h
abbrev Da:=@List.getElem?_eq_getElem
abbrev Cj:=@List.mem_of_getElem?
abbrev BQ:=@List.length_map
abbrev Dc:=@List.getD_eq_getElem?_getD
abbrev CY:=@decide_eq_true_eq
abbrev BY:=@Bool.and_eq_true
abbrev Pw:=@List.getElem?_map
abbrev Hg:=@Option.some.injEq
abbrev OO:=@List.mem_append_left
abbrev OK:=@List.mem_append_right
abbrev ei:=@List.getElem?_append_left
abbrev FQ:=@List.mem_append
abbrev EY:=@List.all_eq_true
abbrev LU:=@Bool.false_eq_true
abbrev RA:=@List.length_append
abbrev MC:=@List.length_cons
abbrev MT:=@List.mem_map
abbrev Xx:=@Option.map_some
abbrev bC:=@List.getElem?_cons_zero
abbrev lN:=@List.getElem?_cons_succ
abbrev eg:=@Array.getElem?_eq_some_iff
abbrev MS:=@List.length_take
abbrev au:=@List.getElem?_drop
abbrev Fh:=@List.mem_cons
abbrev TW:=@List.append_assoc
abbrev Kl:=@List.mem_filter
abbrev Dn:=@beq_iff_eq
abbrev rU:=@bne_iff_ne
abbrev DI:=@Sem.run_bind
abbrev EX:=@Sem.run_pure
abbrev F4:=@Result.andThen_ok
abbrev Hr:=@List.getElem?_eq_some_iff
abbrev Et:=@List.map_cons
abbrev FU:=@Bool.or_eq_true
abbrev Kh:=@List.sublist_cons_self
abbrev Jb:=@Int.toNat_natCast
abbrev Hs:=@List.append_nil
abbrev Gb:=@Nat.zero_add
abbrev Kk:=@Bool.eq_iff_iff
abbrev EW:=@Bool.true_and
abbrev OJ:=@List.length_filter_le
abbrev Uy:=@Nat.eq_of_beq_eq_true
abbrev Q9:=@Nat.mul_le_mul_right
abbrev Ip:=@List.any_eq_true
abbrev Lx:=@List.nil_sublist
abbrev Ja:=@Nat.le_refl
abbrev bB:=@List.length_eq_zero_iff
abbrev Kj:=@List.mem_singleton
abbrev Q8:=@List.perm_append_comm
abbrev TV:=@List.all_cons
abbrev TN:=@List.map_append
abbrev Q7:=@List.any_cons
end Go.Gl
namespace Go.Gl
def Ae:Nat:=17592186044416
inductive V where
 | b (x:Bool)
 | i (k:IntKind) (n:Int)
 | s (x:ByteArray)
 | pn
 | p (n off:Nat)
 | rp (cs:List V)
 | l (es:List (List V)) (full:Bool)
 | sl (n len cap:Nat)
 | sv (n sz off len:Nat)
 | pe (n sz i off:Nat)
 | m (n:Nat)
 | mn
 | f (fn:Fn) (first cap:List V)
 | MZ
 | Jd (t:TypeId) (v:V)
 | Hq
 | a (cs:List V)
 | t (vs:List V)
 | any
 deriving Inhabited
mutual
def Aa (H:Nat→Nat→Option Value):V→Value→Prop
 | .b x,c=>c= .bool x
 | .i k n,c=>c= .int k n∧k.min≤n∧n≤k.max
 | .s x,c=>c= .string x
 | .pn,c=>c= .pointer none
 | .p n off,c=>c= .pointer (some ⟨n,off,none⟩)
 | .rp cs,c=> ∃b o,c= .pointer (some ⟨b,o,none⟩)∧BZ H (H b) o cs
 | .l es full,c=> ∃a cap,c= .slice a es.length cap∧es.length≤cap∧(full=true→cap=es.length)∧es.length≤Ae∧(a=none→cap=0)∧
  (es≠[]→ ∃b o sz,a=some ⟨b,o,none⟩∧BN H (H b) sz o es)
 | .sl n len cap,c=>c= .slice (some ⟨n,0,none⟩) len cap∧len≤cap
 | .sv n sz off len,c=> ∃a cap,c= .slice a len cap∧len≤cap∧(len≠0→a=some ⟨n,off*sz,none⟩)
 | .pe n sz i off,c=>c= .pointer (some ⟨n,i*sz+off,none⟩)
 | .m n,c=>c= .map (some n)
 | .mn,c=>c= .map none
 | .f fn first cap,c=> ∃f' c',c= .func fn f' c'∧f'.size=first.length∧BZ H (fun i=>f'[i]?) 0 first∧c'.size=cap.length∧BZ H (fun i=>c'[i]?) 0 cap
 | .MZ,c=>c= .nilFunc
 | .Jd t v,c=> ∃c',c= .iface t c'∧Aa H v c'
 | .Hq,c=>c= .nilIface
 | .a cs,c=> ∃c',c= .agg c'∧c'.size=cs.length∧BZ H (fun i=>c'[i]?) 0 cs
 | .t vs,c=> ∃c',c= .tuple c'∧c'.size=vs.length∧BZ H (fun i=>c'[i]?) 0 vs
 | .any,_=>True
def BZ (H:Nat→Nat→Option Value) (g:Nat→Option Value):Nat→List V→Prop
 | _,[]=>True
 | o,v::vs=>(∃c,g o=some c∧Aa H v c)∧BZ H g (o+1) vs
def BN (H:Nat→Nat→Option Value) (g:Nat→Option Value) (sz:Nat):Nat→List (List V)→Prop
 | _,[]=>True
 | o,e::es=>e.length=sz∧BZ H g o e∧BN H g sz (o+sz) es
end
inductive la where
 | ready
 | ret
 | exit (id:Nat)
inductive O where
 | cs (vs:List V)
 | arr (sz:Nat) (es:List (List V)) (cap:Nat)
 | map (kvs:List (V×V))
 | loop (st:la) (env:List (Nat×V)) (ok:FuncId→Array Tmp→Code→Code→Nat→Prop)
 deriving Inhabited
def fC:la→Loop→Prop
 | .ready,lp=>lp.state= .ready∧lp.pending=none
 | .ret,lp=>lp.state= .done∧lp.pending=some .ret
 | .exit id,lp=>lp.state= .done∧lp.pending=some (.exit id)
def FH (H:Nat→Nat→Option Value):List (V×V)→List MapEntry→Prop
 | [],[]=>True
 | (k,v)::r,e::es=>Aa H k e.key∧Aa H v e.val∧FH H r es
 | _,_=>False
def OY (H:Nat→Nat→Option Value):O→Obj→Prop
 | .cs vs,o=> ∃c e,o= .cells c e (0,0)∧c.size=vs.length∧BZ H (fun i=>c[i]?) 0 vs
 | .arr sz es cap,o=> ∃c e,o= .cells c e (0,0)∧cap*sz≤c.size∧es.length≤cap∧es.length≤Ae∧BN H (fun i=>c[i]?) sz 0 es
 | .map kvs,o=> ∃es clk,o= .map es clk∧FH H kvs es.toList∧es.toList.Pairwise (fun a b=>a.key≠b.key)
 | .loop st env ok,o=> ∃lp,o= .loop lp∧fC st lp∧(∀k v,(k,v)∈env→ ∃c,lp.tmps[k]? =some c∧Aa H v c)∧ok lp.fn lp.params lp.assign lp.body lp.tmps.size
abbrev AH:=Nat→Option O
def Hh (Λ:Nat→Prop) (σ:AH) (w:World) (b o:Nat):Option Value:=
 open Classical in if Λ b∨(σ b).isSome=true then none else w.cell? ⟨b,o,none⟩
structure Rel (Λ:Nat→Prop) (σ:AH) (w:World):Prop where
 own: ∀n o,σ n=some o→ ¬Λ n∧ ∃ob,w.heap[n]? =some ob∧OY (Hh Λ σ w) o ob
 lock: ∀n,Λ n→n<w.heap.size
structure B7 (Λ:Nat→Prop) (σ:AH) (w:World) (σ':AH) (w':World):Prop where
 frame: ∀n,n<w.heap.size→σ n=none→w'.heap[n]? =w.heap[n]?
 size:w.heap.size≤w'.heap.size
 os:w'.os=w.os
 tape:w'.tape=w.tape
 output:w'.output=w.output
 names: ∀n,σ n=none→n<w.heap.size→σ' n=none
def B7.refl (Λ:Nat→Prop) (σ:AH) (w:World):B7 Λ σ w σ w:=
 ⟨fun _ _ _=>rfl,Ja _,rfl,rfl,rfl,fun _ h _=>h⟩
def B7.trans {Λ:Nat→Prop} {σ σ' σ'':AH} {w w' w'':World} (h:B7 Λ σ w σ' w') (k:B7 Λ σ' w' σ'' w''):B7 Λ σ w σ'' w'' where
 frame n hn h0:=(k.frame n (Nat.lt_of_lt_of_le hn h.size) (h.names n h0 hn)).trans (h.frame n hn h0)
 size:=Nat.le_trans h.size k.size
 os:=k.os.trans h.os
 tape:=k.tape.trans h.tape
 output:=k.output.trans h.output
 names n h0 hn:=k.names n (h.names n h0 hn) (Nat.lt_of_lt_of_le hn h.size)
def U0 (H H':Nat→Nat→Option Value):Prop:= ∀b o c,H b o=some c→H' b o=some c
mutual
def Aa.mono {H H':Nat→Nat→Option Value} (hle:U0 H H'): ∀(v:V) (c:Value),Aa H v c→Aa H' v c
 | .b _,_,h| .i _ _,_,h| .s _,_,h| .pn,_,h| .p _ _,_,h| .sl _ _ _,_,h| .sv _ _ _ _,_,h| .pe _ _ _ _,_,h| .m _,_,h| .mn,_,h| .MZ,_,h| .Hq,_,h| .any,_,h=>by
   simp only[Aa]at h ⊢
   try exact h
 | .rp cs,_,h=>by
   simp only[Aa]at h ⊢;obtain⟨b,o,rfl,h⟩:=h;exact⟨b,o,rfl,BZ.mono hle (fun i c e=>hle b i c e) cs o h⟩
 | .l es full,_,h=>by
   simp only[Aa]at h ⊢;obtain⟨a,cap,h1,h2,h3,h4,h5,h6⟩:=h;refine⟨a,cap,h1,h2,h3,h4,h5,fun hne=>?_⟩;obtain⟨b,o,sz,h7,h8⟩:=h6 hne;exact⟨b,o,sz,h7,BN.mono hle (fun i c e=>hle b i c e) sz es o h8⟩
 | .f fn first cap,_,h=>by
   simp only[Aa]at h ⊢;obtain⟨f',c',h1,h2,h3,h4,h5⟩:=h;exact⟨f',c',h1,h2,BZ.mono hle (fun _ _ e=>e) first 0 h3,h4,BZ.mono hle (fun _ _ e=>e) cap 0 h5⟩
 | .Jd t v,_,h=>by
   simp only[Aa]at h ⊢;obtain⟨c',h1,h2⟩:=h;exact⟨c',h1,Aa.mono hle v c' h2⟩
 | .a cs,_,h=>by
   simp only[Aa]at h ⊢;obtain⟨c',h1,h2,h3⟩:=h;exact⟨c',h1,h2,BZ.mono hle (fun _ _ e=>e) cs 0 h3⟩
 | .t cs,_,h=>by
   simp only[Aa]at h ⊢;obtain⟨c',h1,h2,h3⟩:=h;exact⟨c',h1,h2,BZ.mono hle (fun _ _ e=>e) cs 0 h3⟩
def BZ.mono {H H':Nat→Nat→Option Value} (hle:U0 H H') {g g':Nat→Option Value} (hg: ∀i c,g i=some c→g' i=some c) :
    ∀(vs:List V) (o:Nat),BZ H g o vs→BZ H' g' o vs
 | [],_,_=>trivial
 | v::vs,o,h=>by
   simp only[BZ]at h ⊢;obtain⟨⟨c,h1,h2⟩,h3⟩:=h;exact⟨⟨c,hg _ _ h1,Aa.mono hle v c h2⟩,BZ.mono hle hg vs (o+1) h3⟩
def BN.mono {H H':Nat→Nat→Option Value} (hle:U0 H H') {g g':Nat→Option Value} (hg: ∀i c,g i=some c→g' i=some c) (sz:Nat) :
    ∀(es:List (List V)) (o:Nat),BN H g sz o es→BN H' g' sz o es
 | [],_,_=>trivial
 | e::es,o,h=>by
   simp only[BN]at h ⊢;obtain⟨h1,h2,h3⟩:=h;exact⟨h1,BZ.mono hle hg e o h2,BN.mono hle hg sz es (o+sz) h3⟩
end
def FH.mono {H H':Nat→Nat→Option Value} (hle:U0 H H'): ∀(r:List (V×V)) (es:List MapEntry),FH H r es→FH H' r es
 | [],[],_=>trivial
 | (k,v)::r,e::es,h=>by
   simp only[FH]at h ⊢;exact⟨Aa.mono hle _ _ h.1,Aa.mono hle _ _ h.2.1,FH.mono hle r es h.2.2⟩
 | [],_::_,h=>h.elim
 | _::_,[],h=>h.elim
def OY.mono {H H':Nat→Nat→Option Value} (hle:U0 H H') {o:O} {ob:Obj} (h:OY H o ob):OY H' o ob:=by
 cases o with
 | cs vs=>obtain⟨c,e,h1,h2,h3⟩:=h;exact⟨c,e,h1,h2,BZ.mono hle (fun _ _ e=>e) _ _ h3⟩
 | arr sz es cap=>obtain⟨c,e,h1,h2,h3,h4,h5⟩:=h;exact⟨c,e,h1,h2,h3,h4,BN.mono hle (fun _ _ e=>e) _ _ _ h5⟩
 | map kvs=>obtain⟨es,clk,h1,h2,h3⟩:=h;exact⟨es,clk,h1,FH.mono hle _ _ h2,h3⟩
 | loop st env ok=>obtain⟨lp,h1,h2,h3,h4⟩:=h;exact⟨lp,h1,h2,fun k v hm=>let⟨c,h5,h6⟩:=h3 k v hm;⟨c,h5,h6.mono hle⟩,h4⟩
def FZ {Λ:Nat→Prop} {σ:AH} {w:World} {b o:Nat} {c:Value} (h:Hh Λ σ w b o=some c) :
    ¬Λ b∧σ b=none∧w.cell? ⟨b,o,none⟩=some c:=by
 unfold Hh at h;split at h
 ·cases h
 ·rename_i hn
  refine⟨fun hl=>hn (.inl hl),?_,h⟩;cases hs:σ b with
  | none=>rfl
  | some o=>exact absurd (.inr (by simp[hs])) hn
def Lf {Λ:Nat→Prop} {σ:AH} {w:World} {b o:Nat} (h1: ¬Λ b) (h2:σ b=none):Hh Λ σ w b o=w.cell? ⟨b,o,none⟩:=by
 unfold Hh;rw[if_neg];simp[h1,h2]
def dM {w:World} {b o:Nat} {c:Value} (h:w.cell? ⟨b,o,none⟩=some c):b<w.heap.size:=by
 unfold World.cell? at h;rcases Nat.lt_or_ge b w.heap.size with h'|h'
 ·exact h'
 ·simp[Array.getElem?_eq_none h']at h
def B7.hle {Λ:Nat→Prop} {σ σ':AH} {w w':World} (h:B7 Λ σ w σ' w'):U0 (Hh Λ σ w) (Hh Λ σ' w'):=by
 intro b o c hc;obtain⟨h1,h2,h3⟩:=FZ hc;have hb:=dM h3;rw[Lf h1 (h.names b h2 hb),World.cell?_of_block (w:=w) (h.frame b hb h2)];exact h3
def E9 {Λ:Nat→Prop} {σ σ':AH} {w:World} (hs: ∀n,σ n=none→σ' n=none):U0 (Hh Λ σ w) (Hh Λ σ' w):=by
 intro b o c hc;obtain⟨h1,h2,h3⟩:=FZ hc;rw[Lf h1 (hs b h2)];exact h3
def Sub (σ' σ:AH):Prop:= ∀n o,σ' n=some o→σ n=some o
def Sub.none {σ' σ:AH} (h:Sub σ' σ) {n:Nat} (hn:σ n=none):σ' n=none:=by
 cases h':σ' n with
 | none=>rfl
 | some o=>rw[h n o h']at hn;cases hn
def Sub.refl (σ:AH):Sub σ σ:=fun _ _ h=>h
def Sub.trans {a b c:AH} (h:Sub a b) (k:Sub b c):Sub a c:=fun n o e=>k n o (h n o e)
def Rel.drop {Λ:Nat→Prop} {σ σ':AH} {w:World} (h:Rel Λ σ w) (hs:Sub σ' σ):Rel Λ σ' w where
 own n o ho:=by
  obtain⟨h1,ob,h2,h3⟩:=h.own n o (hs n o ho);exact⟨h1,ob,h2,OY.mono (E9 fun n hn=>hs.none hn) h3⟩
 lock:=h.lock
def B7.drop {Λ:Nat→Prop} {σ σ':AH} (w:World) (hs:Sub σ' σ):B7 Λ σ w σ' w:=
 ⟨fun _ _ _=>rfl,Ja _,rfl,rfl,rfl,fun _ hn _=>hs.none hn⟩
end Go.Gl
namespace Go.Gl
abbrev Env:=List (Nat×V)
def get (k:Nat):Env→Option V
 | []=>none
 | (j,v)::r=>bif Nat.beq j k then some v else get k r
inductive B9 where
 | t (n:Nat)
 | c (v:V)
 deriving Inhabited
def ev (env:Env):B9→Option V
 | .t n=>get n env
 | .c v=>some v
def TR (env:Env):List B9→Option (List V)
 | []=>some []
 | x::r=>match ev env x,TR env r with
   | some v,some vs=>some (v::vs)
   | _,_=>none
def A8 (σ:AH) (n:Nat) (o:O):AH:=fun k=>if k=n then some o else σ k
def del (σ:AH) (n:Nat):AH:=fun k=>if k=n then none else σ k
mutual
inductive Gd (σ σ':AH):V→V→Prop
 | refl (v:V):Gd σ σ' v v
 | arr {n sz cap len:Nat} {es es':List (List V)}:σ n=some (.arr sz es cap)→σ' n=none→len=es.length→Fk σ σ' es es'→Gd σ σ' (.sl n len cap) (.l es' false)
 | cs {n:Nat} {vs vs':List V}:σ n=some (.cs vs)→σ' n=none→Dd σ σ' vs vs'→Gd σ σ' (.p n 0) (.rp vs')
 | a {vs vs':List V}:Dd σ σ' vs vs'→Gd σ σ' (.a vs) (.a vs')
 | t {vs vs':List V}:Dd σ σ' vs vs'→Gd σ σ' (.t vs) (.t vs')
 | Jd {t:TypeId} {v v':V}:Gd σ σ' v v'→Gd σ σ' (.Jd t v) (.Jd t v')
 | l {es es':List (List V)} {f f':Bool}:(f'=true→f=true)→Fk σ σ' es es'→Gd σ σ' (.l es f) (.l es' f')
 | rp {vs vs':List V}:Dd σ σ' vs vs'→Gd σ σ' (.rp vs) (.rp vs')
 | f {fn:Fn} {a a' b b':List V}:Dd σ σ' a a'→Dd σ σ' b b'→Gd σ σ' (.f fn a b) (.f fn a' b')
 | any {v:V}:Gd σ σ' v .any
inductive Dd (σ σ':AH):List V→List V→Prop
 | nil:Dd σ σ' [] []
 | cons {v v':V} {vs vs':List V}:Gd σ σ' v v'→Dd σ σ' vs vs'→Dd σ σ' (v::vs) (v'::vs')
inductive Fk (σ σ':AH):List (List V)→List (List V)→Prop
 | nil:Fk σ σ' [] []
 | cons {v v':List V} {vs vs':List (List V)}:Dd σ σ' v v'→Fk σ σ' vs vs'→Fk σ σ' (v::vs) (v'::vs')
end
inductive KS where
 | i (k:IntKind)
 | a (l:List IntKind)
 | s
 deriving Inhabited
inductive F9 where
 | mv (x:B9)
 | X0 (x:B9)
 | pick (c a b:B9)
 | bin (op:BinOp) (x y:B9)
 | X4 (neg:Bool) (x y:B9)
 | ew (len:Nat) (neg:Bool) (x y:B9)
 | X3 (kind:Nat) (neg:Bool) (x:B9)
 | not (x:B9)
 | neg (xor:Bool) (x:B9)
 | conv(k:IntKind) (x:B9)
 | box (x:B9)
 | RX (x:B9)
 | RZ (sz bytes:Nat) (x y:B9)
 | alloc (zero:List V)
 | build (zero:List V) (parts:List (Nat×Nat×B9))
 | Ah (sz len:Nat) (zero:List V) (parts:List (Nat×B9))
 | load (agg:Option Nat) (x:B9)
 | store (sz:Nat) (a x:B9)
 | Iy (off:Nat) (x:B9)
 | field (agg:Option Nat) (off:Nat) (x:B9)
 | Bf (sz:Nat) (arr:Option Nat) (x i:B9)
 | index (len sz:Nat) (agg:Option Nat) (x i:B9)
 | slice (sz:Nat) (x:B9) (lo hi mx:Option B9)
 | len (x:B9)
 | WN (x:B9)
 | str (x:B9)
 | WG (x i:B9)
 | append (sz bytes:Nat) (x y:B9)
 | copy (sz:Nat) (x y:B9)
 | MY (x y:B9)
 | Tb (x y:B9)
 | extract (i:Nat) (x:B9)
 | FD (x:B9)
 | Hi (f:Fn) (first cap:List B9)
 | H0
 | FW (sz bytes:Nat) (zero:List V) (len cap:B9)
 | lookup (ks:KS) (zero:V) (ok:Bool) (m k:B9)
 | D0 (ks:KS) (m k v:B9)
 | GB (t:TypeId) (x:B9)
 | bD (t:TypeId) (zero:V) (ok:Bool) (x:B9)
 | panic (x:B9)
 | call (f:FuncId) (args:List B9)
 | Jq (f:FuncId) (args:List B9)
 | B4 (x:B9) (args:List B9)
 | Y6 (x:B9) (args:List B9)
 | inv (tab:List (TypeId×FuncId)) (x:B9) (args:List B9)
 deriving Inhabited
abbrev wv (o:Option V) (k:V→Prop):Prop:=match o with|some v=>k v|none=>False
@[simp] theorem GD (v:V) (k:V→Prop):wv (some v) k=k v:=rfl
@[simp] theorem ra (k:V→Prop):wv none k=False:=rfl
def bits (op:BinOp) (k:IntKind) (x y:Int):Int:=
 let a:=BitVec.ofInt k.bits x
 let b:=BitVec.ofInt k.bits y
 k.wrap (match op with
  | .and=>a&&&b
  | .or=>a|||b
  | .xor=>a ^^^ b
  | _=>a&&& ~~~b:BitVec k.bits).toNat
def WO (op:BinOp) (x y:V) (k:V→Prop):Prop:=
 match x,y with
 | .i ka a,.i kb b=>
   match op with
   | .add=>ka=kb∧k (.i ka (ka.wrap (a+b)))
   | .sub=>ka=kb∧k (.i ka (ka.wrap (a - b)))
   | .mul=>ka=kb∧k (.i ka (ka.wrap (a*b)))
   | .quo=>ka=kb∧b≠0∧k (.i ka (ka.wrap (a.tdiv b)))
   | .rem=>ka=kb∧b≠0∧k (.i ka (a.tmod b))
   | .eql=>ka=kb∧k (.b (a==b))
   | .neq=>ka=kb∧k (.b (a != b))
   | .lss=>ka=kb∧k (.b (decide (a<b)))
   | .leq=>ka=kb∧k (.b (decide (a≤b)))
   | .gtr=>ka=kb∧k (.b (decide (a > b)))
   | .geq=>ka=kb∧k (.b (decide (a≥b)))
   | .shl=>0≤b∧k (.i ka (ka.wrap (a*2 ^ (min b.toNat ka.bits))))
   | .shr=>0≤b∧k (.i ka (a.fdiv (2 ^ (min b.toNat ka.bits))))
   | op=>ka=kb∧k (.i ka (bits op ka a b))
 | _,_=>False
def cellsOf:V→Option (List V)
 | .a cs=>some cs
 | .t _=>none
 | .any=>none
 | v=>some [v]
def Db:V→Bool
 | .a _=>false
 | .t _=>false
 | .any=>false
 | _=>true
def putAt:List V→Nat→List V→List V
 | cs,_,[]=>cs
 | cs,o,v::vs=>putAt (cs.set o v) (o+1) vs
def Lc (env:Env):List V→List (Nat×Nat×B9)→Option (List V)
 | cs,[]=>some cs
 | cs,(off,sz,x)::r=>
   match ev env x with
   | some v=>match cellsOf v with
     | some vc=>bif Nat.beq vc.length sz&&Nat.ble (off+sz) cs.length then Lc env (putAt cs off vc) r else none
     | none=>none
   | none=>none
def Jo (env:Env) (sz:Nat):List (List V)→List (Nat×B9)→Option (List (List V))
 | es,[]=>some es
 | es,(i,x)::r=>
   match ev env x with
   | some v=>match cellsOf v with
     | some vc=>bif Nat.beq vc.length sz&&Nat.blt i es.length then Jo env sz (es.set i vc) r else none
     | none=>none
   | none=>none
def cut (agg:Option Nat) (cs:List V) (off:Nat) (k:V→Prop):Prop:=
 match agg with
 | none=>match cs[off]? with|some v=>k v|none=>False
 | some n=>off+n≤cs.length∧k (.a ((cs.drop off).take n))
def On (σ:AH) (n off:Nat) (agg:Option Nat) (k:V→Prop):Prop:=
 match σ n with
 | some (.cs vs)=>cut agg vs off k
 | _=>False
def Oo (σ:AH) (n sz i off:Nat) (agg:Option Nat) (k:V→Prop):Prop:=
 match σ n with
 | some (.arr sz' es _)=>sz=sz'∧match es[i]? with|some e=>cut agg e off k|none=>False
 | _=>False
def Ab (σ:AH) (agg:Option Nat) (x:V) (k:V→Prop):Prop:=
 match x with
 | .rp cs=>cut agg cs 0 k
 | .p n off=>On σ n off agg k
 | .pe n sz i off=>Oo σ n sz i off agg k
 | _=>False
def AW (σ:AH) (sz:Nat) (a x:V) (k:AH→Prop):Prop:=
 match cellsOf x with
 | some vc=>
   vc.length=sz∧vc.all Db=true∧match a with
   | .p n off=>match σ n with
     | some (.cs vs)=>off+sz≤vs.length∧k (A8 σ n (.cs (putAt vs off vc)))
     | _=>False
   | .pe n s i off=>match σ n with
     | some (.arr s' es cap)=>s=s'∧match es[i]? with
       | some e=>off+sz≤s∧k (A8 σ n (.arr s (es.set i (putAt e off vc)) cap))
       | none=>False
     | _=>False
   | _=>False
 | none=>False
def K2 (off:Nat) (x:V) (k:V→Prop):Prop:=
 match x with
 | .rp cs=>k (.rp (cs.drop off))
 | .p n o=>k (.p n (o+off))
 | .pe n sz i o=>k (.pe n sz i (o+off))
 | _=>False
def AU (sz:Nat) (arr:Option Nat) (x i:V) (k:V→Prop):Prop:=
 match i with
 | .i _ j=>match arr,x with
   | none,.l es _=>0≤j∧ ∃e,es[j.toNat]? =some e∧e.length=sz∧k (.rp e)
   | none,.sl n len _=>0≤j∧j<len∧k (.pe n sz j.toNat 0)
   | none,.sv n s off len=>s=sz∧0≤j∧j<len∧k (.pe n sz (off+j.toNat) 0)
   | some m,.rp cs=>0≤j∧j<m∧k (.rp (cs.drop (j.toNat*sz)))
   | some m,.p n o=>0≤j∧j<m∧k (.p n (o+j.toNat*sz))
   | some m,.pe n s q o=>0≤j∧j<m∧k (.pe n s q (o+j.toNat*sz))
   | _,_=>False
 | _=>False
def K1 (len sz:Nat) (agg:Option Nat) (x i:V) (k:V→Prop):Prop:=
 match x,i with
 | .a cs,.i _ j=>0≤j∧j<len∧cut agg cs (j.toNat*sz) k
 | _,_=>False
def Ou (x i:V) (k:V→Prop):Prop:=
 match x,i with
 | .s b,.i _ j=>0≤j∧match b.data.toList[j.toNat]? with|some c=>k (.i .u8 c.toNat)|none=>False
 | _,_=>False
def A6 (x:V) (k:V→Prop):Prop:=
 match x with
 | .l es _=>k (.i .i64 es.length)
 | .sl _ len _=>len≤Ae∧k (.i .i64 len)
 | .sv _ _ _ len=>len≤Ae∧k (.i .i64 len)
 | _=>False
def La (σ:AH) (x:V) (k:V→Prop):Prop:=
 match x with
 | .m n=>match σ n with
   | some (.map kvs)=>kvs.length≤Ae∧k (.i .i64 kvs.length)
   | _=>False
 | .mn=>k (.i .i64 0)
 | _=>False
def rowsOf (σ:AH) (sz:Nat) (y:V) (k:List (List V)→Prop):Prop:=
 match y with
 | .l ys _=>(∀e∈ys,e.length=sz)∧k ys
 | .sl m len _=>match σ m with
   | some (.arr s ys _)=>s=sz∧len≤ys.length∧k (ys.take len)
   | _=>False
 | .sv m s off len=>match σ m with
   | some (.arr s' ys _)=>s=sz∧s'=sz∧off+len≤ys.length∧k ((ys.drop off).take len)
   | _=>False
 | _=>False
def H9:List (List V)→Option (List Int)
 | []=>some []
 | [.i .u8 n]::r=>match H9 r with|some l=>some (n::l)|none=>none
 | _=>none
def bP (σ:AH) (x:V) (k:V→Prop):Prop:=rowsOf σ 1 x fun ys=>match H9 ys with|some ns=>k (.s ⟨(ns.map fun n=>UInt8.ofNat n.toNat).toArray⟩)|none=>False
def AO (b : Nat) (σ:AH) (sz:Nat) (x y:V) (k:V→AH→Prop):Prop:=
 rowsOf σ sz y fun ys=>
 (∀e∈ys,∀v∈e,Db v=true)∧match x with
 | .l es full=>(∀e∈es,e.length=sz)∧(es.length+ys.length≤Ae∧(es.length+ys.length)*b≤140737488355328)∧(ys= []→k (.l es full) σ)∧
  (ys≠[]→full=true∧ ∀n cap,σ n=none→es.length+ys.length≤cap→k (.sl n (es.length+ys.length) cap) (A8 σ n (.arr sz (es++ys) cap)))
 | .sl n len cap=>match σ n with
   | some (.arr s es c)=>s=sz∧c=cap∧len=es.length∧(es.length+ys.length≤Ae∧(es.length+ys.length)*b≤140737488355328)∧
    ∀ n' cap',del σ n n'=none→es.length+ys.length≤cap'→
      k (.sl n' (es.length+ys.length) cap') (A8 (del σ n) n' (.arr sz (es++ys) cap'))
   | _=>False
 | _=>False
def P3 (σ:AH) (sz:Nat) (ys:List (List V)) (n off len:Nat) (k:V→AH→Prop):Prop:=
 match σ n with
 | some (.arr s es c)=>s=sz∧off+len≤es.length∧k (.i .i64 (min ys.length len:Nat)) (A8 σ n (.arr s (es.take off++(ys.take (min ys.length len)++es.drop (off+min ys.length len))) c))
 | _=>False
def Af (σ:AH) (sz:Nat) (x y:V) (k:V→AH→Prop):Prop:=
 rowsOf σ sz y fun ys=>(∀e∈ys,∀v∈e,Db v=true)∧match x with
 | .sl n len _=>P3 σ sz ys n 0 len k
 | .sv n s off len=>s=sz∧P3 σ sz ys n off len k
 | _=>False
def Ag (b:Nat) (σ:AH) (sz:Nat) (x y:V) (k:V→Prop):Prop:=
 rowsOf σ sz y fun ys=>
 (∀e∈ys,∀v∈e,Db v=true)∧match x with
 | .l es full=>(∀e∈es,e.length=sz)∧(es.length+ys.length≤Ae∧(es.length+ys.length)*b≤140737488355328)∧(ys≠[]→full=true)∧k (.l (es++ys) false)
 | _=>False
def OM (o:Option V) (d:Int) (k:Int→Prop):Prop:=
 match o with
 | none=>k d
 | some (.i _ n)=>k n
 | _=>False
def AV (σ:AH) (sz:Nat) (x:V) (lo hi mx:Option V) (k:V→AH→Prop):Prop:=
 match x with
 | .l es full=>(∀e∈es,e.length=sz)∧OM hi es.length fun h=>OM lo 0 fun l=>0≤l∧l≤h∧h≤es.length∧
  match mx with
  | none=>k (.l ((es.take h.toNat).drop l.toNat) (full&&decide (h=es.length))) σ
  | some (.i _ m)=>m=h∧k (.l ((es.take h.toNat).drop l.toNat) true) σ
  | _=>False
 | .sl n len cap=>OM hi len fun h=>OM lo 0 fun l=>0≤l∧l≤h∧h≤len∧
  match mx with
  | none=>k (.sv n sz l.toNat (h - l).toNat) σ
  | some (.i _ m)=>m=h∧h=len∧l=0∧match σ n with
    | some (.arr s es c)=>s=sz∧c=cap∧len=es.length∧(k (.l es true) (del σ n)∨k (.sl n len len) (A8 σ n (.arr s es len)))
    | _=>False
  | _=>False
 | .sv n s off len=>OM hi len fun h=>OM lo 0 fun l=>0≤l∧l≤h∧h≤len∧s=sz∧mx=none∧k (.sv n sz (off+l.toNat) (h - l).toNat) σ
 | _=>False
def Hz (env:Env):Option B9→Option (Option V)
 | none=>some none
 | some x=>match ev env x with|some v=>some (some v)|none=>none
abbrev wo (o:Option (Option V)) (k:Option V→Prop):Prop:=match o with|some v=>k v|none=>False
@[simp] theorem VD (v:Option V) (k:Option V→Prop):wo (some v) k=k v:=rfl
abbrev ws (o:Option (List V)) (k:List V→Prop):Prop:=match o with|some v=>k v|none=>False
@[simp] theorem rb (v:List V) (k:List V→Prop):ws (some v) k=k v:=rfl
abbrev wr (o:Option (List (List V))) (k:List (List V)→Prop):Prop:=match o with|some v=>k v|none=>False
@[simp] theorem rf (v:List (List V)) (k:List (List V)→Prop):wr (some v) k=k v:=rfl
def CC:List V→List V→Option Bool
 | [],[]=>some true
 | .i k a::r,.i k' b::s=>if k=k' then(CC r s).map ((a==b)&& ·)else none
 | _,_=>none
def Te (len:Nat) (neg:Bool) (x y:V) (k:V→Prop):Prop:=
 match x,y with
 | .a cs,.a ds=>match Nat.beq cs.length len,CC cs ds with|true,some t=>k (.b (bif neg then !t else t))|_,_=>False
 | _,_=>False
def RR (kind:Nat) (neg:Bool) (x:V) (k:V→Prop):Prop:=
 match kind,x with
 | 0,.pn=>k (.b (!neg))
 | 0,.rp _|0,.p _ _|0,.pe _ _ _ _=>k (.b neg)
 | 1,.sl _ _ _=>k (.b neg)
 | 1,.l es _=>(es= []→ ∀t,k (.b t))∧(es≠[]→k (.b neg))
 | 2,.Hq=>k (.b (!neg))
 | 2,.Jd _ _=>k (.b neg)
 | 3,.mn=>k (.b (!neg))
 | 3,.m _=>k (.b neg)
 | 4,.MZ=>k (.b (!neg))
 | 4,.f _ _ _=>k (.b neg)
 | _,_=>False
def AM (σ:AH) (sz:Nat) (z:List V) (x y:V) (k:V→AH→Prop):Prop:=
 match x,y with
 | .i _ n,.i _ m=>0≤n∧n≤m∧m≤1073741824∧ ∀id,σ id=none→k (.sl id n.toNat m.toNat) (A8 σ id (.arr sz (List.replicate n.toNat z) m.toNat))
 | _,_=>False
def Ec:List IntKind→List V→Bool
 | [],[]=>true
 | q::l,.i q' _::cs=>decide (q=q')&&Ec l cs
 | _,_=>false
def Bo (ks:KS) (v:V):Bool:=
 match ks,v with
 | .i k,.i k' _=>decide (k=k')
 | .a l,.a cs=>Ec l cs
 | .s,.s b=>Nat.ble b.size 1048576
 | _,_=>false
def D6 (x y:V):Bool:=
 match x,y with
 | .i _ a,.i _ b=>a==b
 | .s b,.s c=>decide (b=c)
 | .a cs,.a ds=>(CC cs ds).getD false
 | _,_=>false
def C6 (key:V):List (V×V)→Option V
 | []=>none
 | (k,v)::r=>bif D6 key k then some v else C6 key r
def D5 (key val:V):List (V×V)→List (V×V)
 | []=>[(key,val)]
 | (k,v)::r=>bif D6 key k then(key,val)::r else(k,v)::D5 key val r
def found (z:V) (ok:Bool) (o:Option V):V:=match o with|some v=>bif ok then .t [v,.b true]else v|none=>bif ok then .t [z,.b false]else z
def AR (σ:AH) (ks:KS) (z:V) (ok:Bool) (vm vk:V) (k:V→Prop):Prop:=
 Bo ks vk=true∧match vm with
 | .m n=>match σ n with
   | some (.map kvs)=>(∀kv∈kvs,Bo ks kv.1=true)∧k (found z ok (C6 vk kvs))
   | _=>False
 | .mn=>k (found z ok none)
 | _=>False
def AT (σ:AH) (ks:KS) (vm vk vv:V) (k:AH→Prop):Prop:=
 Bo ks vk=true∧match vm with
 | .m n=>match σ n with
   | some (.map kvs)=>(∀kv∈kvs,Bo ks kv.1=true)∧k (A8 σ n (.map (D5 vk vv kvs)))
   | _=>False
 | _=>False
inductive R where
 | ret (v:V)
 | Cy (v:V)
def Rb (H:Nat→Nat→Option Value):R→Ending→Prop
 | .ret v,e=> ∃c,e= .returned c∧Aa H v c
 | .Cy v,e=> ∃c,e= .panicked [{v:=c,recovered:=false}]∧Aa H v c
def okF (P:Program) (f:FuncId):Bool:=
 match P.funcs[f]? with
 | some fn=>fn.body.isSome&&fn.name != "runtime.NumGoroutine"
 | none=>false
def X5 (H:Nat→Nat→Option Value) (vs:List V) (cs:Array Value):Prop:=cs.size=vs.length∧BZ H (fun i=>cs[i]?) 0 vs
def BC (P:Program) (f:FuncId) (args:List V) (σ:AH) (Q:R→AH→Prop):Prop:=
 okF P f=true∧ ∀(Λ:Nat→Prop) (w:World) (cs:Array Value),Rel Λ σ w→X5 (Hh Λ σ w) args cs→
  Calls P f cs w fun e w'=> ∃r σ',Q r σ'∧Rb (Hh Λ σ' w') r e∧Rel Λ σ' w'∧B7 Λ σ w σ' w'
def Me (P:Program) (l:Nat) (args:List V) (σ:AH) (Q:R→AH→Prop):Prop:=
 ∀ (Λ:Nat→Prop) (w:World) (cs:Array Value),Rel Λ σ w→X5 (Hh Λ σ w) args cs→
   ∃ f tmps assign body,(Instr.yield l cs).run P w= .ok (.round l f tmps assign body) w∧
     RoundIn Fence.wide 0 P l f tmps assign body w fun e w'=> ∃r σ',Q r σ'∧Rb (Hh Λ σ' w') r e∧Rel Λ σ' w'∧B7 Λ σ w σ' w'
def A0 (P:Program) (x:V) (args:List V) (σ:AH) (Q:R→AH→Prop):Prop:=
 match x with
 | .f (.func f) first cap=>BC P f (first++args++cap) σ Q
 | .f (.yield l) [] []=>Me P l args σ Q
 | _=>False
def look (t:TypeId):List (TypeId×FuncId)→Option FuncId
 | []=>none
 | (u,f)::r=>bif Nat.beq u t then some f else look t r
def A9 (P:Program) (tab:List (TypeId×FuncId)) (x:V) (args:List V) (σ:AH) (Q:R→AH→Prop):Prop:=
 match x with
 | .Jd t v=>match look t tab with
   | some f=>BC P f (v::args) σ Q
   | none=>False
 | _=>False
def qk (k kp:V→AH→Prop):R→AH→Prop
 | .ret v,σ=>k v σ
 | .Cy v,σ=>kp v σ
def FO (P:Program) (o:F9) (env:Env) (σ:AH) (k kp:V→AH→Prop):Prop:=
 match o with
 | .mv x=>wv (ev env x) fun v=>k v σ
 | .X0 x=>wv (ev env x) fun v=> ∃vf σ2,Sub σ2 σ∧Gd σ σ2 v vf∧k vf σ2
 | .pick c a b=>wv (ev env c) fun vc=>wv (ev env a) fun va=>wv (ev env b) fun vb=>
  match vc with| .b t=>(match va,vb with| .b x,.b y=>k (.b (bif t then x else y)) σ|_,_=>k (bif t then va else vb) σ)|_=>False
 | .bin op x y=>wv (ev env x) fun vx=>wv (ev env y) fun vy=>WO op vx vy fun v=>k v σ
 | .X4 neg x y=>wv (ev env x) fun vx=>wv (ev env y) fun vy=>
  match vx,vy with| .b p,.b q=>k (.b (bif neg then p != q else p==q)) σ|_,_=>False
 | .not x=>wv (ev env x) fun vx=>match vx with| .b p=>k (.b (!p)) σ|_=>False
 | .neg xor x=>wv (ev env x) fun vx=>match vx with
  | .i ka a=>k (.i ka (bif xor then bits .xor ka (bif ka.signed then -1 else ka.max) a else ka.wrap (0 - a))) σ
  | _=>False
 | .conv ka x=>wv (ev env x) fun vx=>match vx with| .i _ a=>k (.i ka (ka.wrap a)) σ|_=>False
 | .box x=>wv (ev env x) fun vx=>match cellsOf vx with
  | some cs=> ∀n,σ n=none→k (.p n 0) (A8 σ n (.cs cs))
  | none=>False
 | .RX x=>wv (ev env x) fun vx=>match cellsOf vx with
  | some cs=>k (.rp cs) σ
  | none=>False
 | .RZ sz b x y=>wv (ev env x) fun vx=>wv (ev env y) fun vy=>Ag b σ sz vx vy fun v=>k v σ
 | .alloc z=> ∀n,σ n=none→k (.p n 0) (A8 σ n (.cs z))
 | .build z parts=>ws (Lc env z parts) fun cs=>k (.a cs) σ
 | .Ah _ len z parts=>wr (Jo env z.length (List.replicate len z) parts) fun es=>k (.l es true) σ
 | .load agg x=>wv (ev env x) fun vx=>Ab σ agg vx fun v=>k v σ
 | .store sz a x=>wv (ev env a) fun va=>wv (ev env x) fun vx=>AW σ sz va vx fun σ'=>k (.t []) σ'
 | .Iy off x=>wv (ev env x) fun vx=>K2 off vx fun v=>k v σ
 | .field agg off x=>wv (ev env x) fun vx=>match vx with| .a cs=>cut agg cs off fun v=>k v σ|_=>False
 | .Bf sz arr x i=>wv (ev env x) fun vx=>wv (ev env i) fun vi=>AU sz arr vx vi fun v=>k v σ
 | .index len sz agg x i=>wv (ev env x) fun vx=>wv (ev env i) fun vi=>K1 len sz agg vx vi fun v=>k v σ
 | .slice sz x lo hi mx=>wv (ev env x) fun vx=>wo (Hz env lo) fun l=>wo (Hz env hi) fun h=>wo (Hz env mx) fun m=>AV σ sz vx l h m k
 | .len x=>wv (ev env x) fun vx=>A6 vx fun v=>k v σ
 | .WN x=>wv (ev env x) fun vx=>La σ vx fun v=>k v σ
 | .WG x i=>wv (ev env x) fun vx=>wv (ev env i) fun vi=>Ou vx vi fun v=>k v σ
 | .str x=>wv (ev env x) fun vx=>bP σ vx fun v=>k v σ
 | .append sz b x y=>wv (ev env x) fun vx=>wv (ev env y) fun vy=>AO b σ sz vx vy k
 | .copy sz x y=>wv (ev env x) fun vx=>wv (ev env y) fun vy=>Af σ sz vx vy k
 | .MY x y=>wv (ev env x) fun vx=>wv (ev env y) fun vy=>match vx,vy with
  | .i ka a,.i kb b=>ka=kb∧k (.i ka (if b > a then b else a)) σ
  | _,_=>False
 | .Tb x y=>wv (ev env x) fun vx=>wv (ev env y) fun vy=>match vx,vy with
  | .i ka a,.i kb b=>ka=kb∧k (.i ka (if b<a then b else a)) σ
  | _,_=>False
 | .extract i x=>wv (ev env x) fun vx=>match vx with| .t vs=>(match vs[i]? with|some v=>k v σ|none=>False)|_=>False
 | .FD x=>wv (ev env x) fun vx=>match vx with
  | .p n off=>k (.p n off) σ
  | .rp cs=>k (.rp cs) σ
  | .pe n sz i off=>k (.pe n sz i off) σ
  | .f (.func f) first cap=>k (.f (.func f) first cap) σ
  | .f (.yield l) first cap=>k (.f (.yield l) first cap) σ
  | _=>False
 | .Hi f first cap=>ws (TR env first) fun vf=>ws (TR env cap) fun vc=>k (.f f vf vc) σ
 | .GB t x=>wv (ev env x) fun vx=>k (.Jd t vx) σ
 | .bD t z ok x=>wv (ev env x) fun vx=>match vx with
  | .Jd t' v=>(t'=t→k (bif ok then .t [v,.b true]else v) σ)∧(t'≠t→ok=true∧k (.t [z,.b false]) σ)
  | .Hq=>ok=true∧k (.t [z,.b false]) σ
  | _=>False
 | .panic x=>wv (ev env x) fun vx=>match vx with| .Jd t v=>kp (.Jd t v) σ|_=>False
 | .call f args=>ws (TR env args) fun vs=>BC P f vs σ (qk k kp)
 | .ew len neg x y=>wv (ev env x) fun vx=>wv (ev env y) fun vy=>Te len neg vx vy fun v=>k v σ
 | .X3 kind neg x=>wv (ev env x) fun vx=>RR kind neg vx fun v=>k v σ
 | .FW sz _ z x y=>wv (ev env x) fun vx=>wv (ev env y) fun vy=>AM σ sz z vx vy k
 | .H0=> ∀n,σ n=none→k (.m n) (A8 σ n (.map []))
 | .lookup ks z ok m key=>wv (ev env m) fun vm=>wv (ev env key) fun vk=>AR σ ks z ok vm vk fun v=>k v σ
 | .D0 ks m key x=>wv (ev env m) fun vm=>wv (ev env key) fun vk=>wv (ev env x) fun vx=>AT σ ks vm vk vx fun σ'=>k (.t []) σ'
 | .Jq f args=>ws (TR env args) fun vs=> ∃v,BC P f vs (fun _=>none) (fun r σ'=>r= .ret v∧σ'=fun _=>none)∧k v σ
 | .B4 x args=>wv (ev env x) fun vx=>ws (TR env args) fun vs=>A0 P vx vs σ (qk k kp)
 | .inv tab x args=>wv (ev env x) fun vx=>ws (TR env args) fun vs=>A9 P tab vx vs σ (qk k kp)
 | _=>False
end Go.Gl
namespace Go.Gl
def Bg {H:Nat→Nat→Option Value} {g:Nat→Option Value}: ∀ {vs:List V} {o:Nat},
    BZ H g o vs↔ ∀i v,vs[i]? =some v→ ∃c,g (o+i)=some c∧Aa H v c
 | [],o=>by simp[BZ]
 | v ::vs,o=>by
   simp only[BZ];rw[Bg (vs:=vs) (o:=o+1)];constructor
   ·rintro⟨h1,h2⟩ i u hu
    cases i with
    | zero=>simp at hu;subst hu;simpa using h1
    | succ i=>
      obtain⟨c,hc,hr⟩:=h2 i u (by simpa using hu);exact⟨c,by rw[←hc];congr 1;omega,hr⟩
   ·intro h
    refine⟨by simpa using h 0 v rfl,fun i u hu=>?_⟩;obtain⟨c,hc,hr⟩:=h (i+1) u (by simpa using hu);exact⟨c,by rw[←hc];congr 1;omega,hr⟩
def BG {H:Nat→Nat→Option Value} {g:Nat→Option Value} {sz:Nat}: ∀ {es:List (List V)} {o:Nat},
    BN H g sz o es↔ ∀i e,es[i]? =some e→e.length=sz∧BZ H g (o+i*sz) e
 | [],o=>by simp[BN]
 | v ::vs,o=>by
   simp only[BN];rw[BG (es:=vs) (o:=o+sz)];constructor
   ·rintro⟨h1,h2,h3⟩ i u hu
    cases i with
    | zero=>simp at hu;subst hu;exact⟨h1,by simpa using h2⟩
    | succ i=>
      obtain⟨h4,h5⟩:=h3 i u (by simpa using hu);refine⟨h4,?_⟩;rw[show o+(i+1)*sz=o+sz+i*sz by rw[Nat.add_mul];omega];exact h5
   ·intro h
    have h0:=h 0 v rfl;refine⟨h0.1,by simpa using h0.2,fun i u hu=>?_⟩;obtain⟨h4,h5⟩:=h (i+1) u (by simpa using hu);refine⟨h4,?_⟩;rw[show o+sz+i*sz=o+(i+1)*sz by rw[Nat.add_mul];omega];exact h5
def BA {H:Nat→Nat→Option Value} {g g':Nat→Option Value} {o o':Nat} {vs:List V} (h:BZ H g o vs) (hg: ∀i,i<vs.length→g' (o'+i)=g (o+i)):BZ H g' o' vs:=by
 rw[Bg]at *;intro i v hv;obtain⟨c,hc,hr⟩:=h i v hv;exact⟨c,by rw[hg i (by rw[Hr]at hv;exact hv.1)];exact hc,hr⟩
def IY {H:Nat→Nat→Option Value} {g:Nat→Option Value} {o:Nat} {vs:List V} (h:BZ H g o vs) (n:Nat):BZ H g (o+n) (vs.drop n):=by
 rw[Bg]at *;intro i v hv;rw[au]at hv;obtain⟨c,hc,hr⟩:=h (n+i) v hv;exact⟨c,by rw[←hc];congr 1;omega,hr⟩
def Oz {H:Nat→Nat→Option Value} {g:Nat→Option Value} {o:Nat} {vs:List V} (h:BZ H g o vs) (n:Nat):BZ H g o (vs.take n):=by
 rw[Bg]at *;intro i v hv;rw[List.getElem?_take]at hv;split at hv
 ·exact h i v hv
 ·cases hv
def Lg {H:Nat→Nat→Option Value} {g:Nat→Option Value} {o:Nat} {vs us:List V} (h:BZ H g o vs) (k:BZ H g (o+vs.length) us):BZ H g o (vs++us):=by
 rw[Bg]at *;intro i v hv;rw[List.getElem?_append]at hv;split at hv
 ·exact h i v hv
 ·obtain⟨c,hc,hr⟩:=k _ v hv
  exact⟨c,by rw[←hc];congr 1;omega,hr⟩
def Rel.lt {Λ:Nat→Prop} {σ:AH} {w:World} (h:Rel Λ σ w) {n:Nat} {o:O} (ho:σ n=some o):n<w.heap.size:=by
 obtain⟨_,ob,h2,_⟩:=h.own n o ho;rcases Nat.lt_or_ge n w.heap.size with h'|h'
 ·exact h'
 ·simp[Array.getElem?_eq_none h']at h2
def Rel.new {Λ:Nat→Prop} {σ:AH} {w:World} (h:Rel Λ σ w):σ w.heap.size=none:=by
 cases h':σ w.heap.size with
 | none=>rfl
 | some o=>exact absurd (h.lt h') (Nat.lt_irrefl _)
def Rel.step {Λ:Nat→Prop} {σ σ':AH} {w w':World} (h:Rel Λ σ w) (ha:B7 Λ σ w σ' w')
    (hn: ∀n o,σ' n=some o→(σ n=some o∧w'.heap[n]? =w.heap[n]?)∨(¬Λ n∧ ∃ob,w'.heap[n]? =some ob∧OY (Hh Λ σ' w') o ob)):Rel Λ σ' w' where
 own n o ho:=by
  rcases hn n o ho with⟨h1,h2⟩|h1
  ·obtain⟨h3,ob,h4,h5⟩:=h.own n o h1
   exact⟨h3,ob,h2.trans h4,h5.mono ha.hle⟩
  ·exact h1
 lock n hl:=Nat.lt_of_lt_of_le (h.lock n hl) ha.size
def D7 (σ:AH) (n:Nat) (o:O):A8 σ n o n=some o:=by simp[A8]
def Ct (σ:AH) {n m:Nat} (o:O) (h:m≠n):A8 σ n o m=σ m:=by simp[A8,h]
def D9 (σ:AH) (n:Nat):del σ n n=none:=by simp[del]
def GX (σ:AH) {n m:Nat} (h:m≠n):del σ n m=σ m:=by simp[del,h]
def GH (σ:AH) (n:Nat):Sub (del σ n) σ:=by
 intro m o h;unfold del at h;split at h
 ·cases h
 ·exact h
def Dt {Λ:Nat→Prop} {σ:AH} {w:World} (o:O) (ob:Obj):B7 Λ σ w (A8 σ w.heap.size o) (w.alloc ob) where
 frame n hn _:=RowKit.Below.heap_alloc _ _ _ hn
 size:=by simp
 os:=rfl
 tape:=rfl
 output:=rfl
 names n h0 hn:=by rw[Ct _ _ (by omega)];exact h0
def G3 {Λ:Nat→Prop} {σ:AH} {w:World} (h:Rel Λ σ w) {o:O} {ob:Obj} (ho:OY (Hh Λ σ w) o ob):Rel Λ (A8 σ w.heap.size o) (w.alloc ob):=
 h.step (Dt o ob) fun n o' hn=>by
  by_cases e:n=w.heap.size
  ·subst e
   rw[D7]at hn;cases hn;exact .inr ⟨fun hl=>absurd (h.lock _ hl) (Nat.lt_irrefl _),ob,heap_alloc_new _ _,ho.mono (Dt o ob).hle⟩
  ·rw[Ct _ _ e]at hn
   exact .inl ⟨hn,RowKit.Below.heap_alloc _ _ _ (h.lt hn)⟩
def HU {Λ:Nat→Prop} {σ:AH} (w:World) (ob:Obj):B7 Λ σ w σ (w.alloc ob) where
 frame n hn _:=RowKit.Below.heap_alloc _ _ _ hn
 size:=by simp
 os:=rfl
 tape:=rfl
 output:=rfl
 names n h0 _:=h0
def JN {Λ:Nat→Prop} {σ:AH} {w:World} (h:Rel Λ σ w) (ob:Obj):Rel Λ σ (w.alloc ob):=
 h.step (HU w ob) fun _ _ hn=> .inl ⟨hn,RowKit.Below.heap_alloc _ _ _ (h.lt hn)⟩
def CH (w:World) (n:Nat) (ob:Obj):World:={w with heap:=w.heap.setIfInBounds n ob}
def Li {w:World} {n:Nat} {ob:Obj} (h:n<w.heap.size):(CH w n ob).heap[n]? =some ob:=by
 simp[CH,h]
def O8 {w:World} {n m:Nat} {ob:Obj} (h:m≠n):(CH w n ob).heap[m]? =w.heap[m]? :=by
 simp only[CH];rw[Array.getElem?_setIfInBounds_ne (Ne.symm h)]
@[simp] theorem ee (w:World) (n:Nat) (ob:Obj):(CH w n ob).heap.size=w.heap.size:=by simp[CH]
def GL {Λ:Nat→Prop} {σ:AH} {w:World} {n:Nat} {o:O} (hn:σ n=some o) (o':O) (ob:Obj):B7 Λ σ w (A8 σ n o') (CH w n ob) where
 frame m _ h0:=O8 (fun e=>by rw[e,hn]at h0;cases h0)
 size:=by simp
 os:=rfl
 tape:=rfl
 output:=rfl
 names m h0 _:=by rw[Ct _ _ (fun e=>by rw[e,hn]at h0;cases h0)];exact h0
def IN {Λ:Nat→Prop} {σ:AH} {w:World} (h:Rel Λ σ w) {n:Nat} {o o':O} {ob:Obj} (hn:σ n=some o) (ho:OY (Hh Λ σ w) o' ob):Rel Λ (A8 σ n o') (CH w n ob):=
 h.step (GL hn o' ob) fun m o'' hm=>by
  by_cases e:m=n
  ·subst e
   rw[D7]at hm;cases hm;exact .inr ⟨(h.own _ _ hn).1,ob,Li (h.lt hn),ho.mono (GL hn o' ob).hle⟩
  ·rw[Ct _ _ e]at hm
   exact .inl ⟨hm,O8 e⟩
def Tv {w:World} {n:Nat} {ob:Obj} (h:w.heap[n]? =some ob):n<w.heap.size:=by
 rcases Nat.lt_or_ge n w.heap.size with h'|h'
 ·exact h'
 ·simp[Array.getElem?_eq_none h']at h
def setCell_eq {w:World} {n i:Nat} {c:Array Value} {e:TypeId} (h:w.heap[n]? =some (.cells c e (0,0))) (v:Value) :
    w.setCell ⟨n,i,none⟩ v=CH w n (.cells (c.setIfInBounds i v) e (0,0)):=by
 unfold World.setCell CH;congr 1;apply Array.ext_getElem?;intro j;by_cases hj:n=j
 ·subst hj
  rw[Array.getElem?_modify,if_pos rfl,Array.getElem?_setIfInBounds_self_of_lt (Tv h),h];rfl
 ·rw[Array.getElem?_modify,if_neg hj,Array.getElem?_setIfInBounds_ne hj]
def DN {w:World} {n i:Nat} {c:Array Value} {e:TypeId} {fr:Nat×Nat} (h:w.heap[n]? =some (.cells c e fr)):w.cell? ⟨n,i,none⟩=c[i]? :=
 cell_of_row w n i c e fr h
def N3 {w:World} {n i:Nat} {c:Array Value} {e:TypeId} (h:w.heap[n]? =some (.cells c e (0,0))):w.frozen? ⟨n,i,none⟩=false:=
 frozen_of_row w n i c e h
def Cd (n o i:Nat):(⟨n,o,none⟩:Addr).add i=⟨n,o+i,none⟩:=by
 unfold Addr.add;split
 ·subst_vars;rfl
 ·rfl
def Cu:Array Value→Nat→List Value→Array Value
 | c,_,[]=>c
 | c,o,v::vs=>Cu (c.setIfInBounds o v) (o+1) vs
def Dm: ∀(vs:List Value) (c:Array Value) (o:Nat),(Cu c o vs).size=c.size
 | [],_,_=>rfl
 | v::vs,c,o=>by simp only[Cu];rw[Dm vs];simp
def Wl {w:World} {n:Nat} {ob:Obj} (h:w.heap[n]? =some ob):CH w n ob=w:=by
 unfold CH
 have:w.heap.setIfInBounds n ob=w.heap:=by
  apply Array.ext_getElem?;intro j;by_cases hj:n=j
  ·subst hj
   rw[Array.getElem?_setIfInBounds_self_of_lt (Tv h),h]
  ·rw[Array.getElem?_setIfInBounds_ne hj]
 rw[this]
def Oc (w:World) (n:Nat) (a b:Obj):CH (CH w n a) n b=CH w n b:=by
 simp[CH]
def Ce {P:Program} {n:Nat} {e:TypeId}: ∀(vs:List Value) (w:World) (c:Array Value) (o i:Nat),w.heap[n]? =some (.cells c e (0,0))→
    o+i+vs.length≤c.size→(∀v∈vs,v.oneCell'=true)→
    (storeCells ⟨n,o,none⟩ vs i).run P w= .ok () (CH w n (.cells (Cu c (o+i) vs) e (0,0)))
 | [],w,c,o,i,h,_,_=>by
   simp only[storeCells,EX,Cu];rw[Wl h]
 | v::vs,w,c,o,i,h,hl,hv=>by
   have hlt:o+i<c.size:=by simp at hl;omega
   have h1:w.cell? ⟨n,o+i,none⟩=some c[o+i]:=by rw[DN h];rw[Array.getElem?_eq_getElem hlt]
   have hone:=hv v (by simp);simp only[storeCells,DI,Cd,run_store P w _ v _ hone,h1,N3 h,LU,if_false,Result.andThen];rw[setCell_eq h];rw[Ce vs _ (c.setIfInBounds (o+i) v) o (i+1) (Li (Tv h)) (by simp at hl ⊢;omega) (fun u hu=>hv u (by simp[hu]))];rw[Oc];rfl
end Go.Gl
namespace Go.Gl
def bH:Value→Option V
 | .bool b=>some (.b b)
 | .int k n=>if k.min≤n∧n≤k.max then some (.i k n)else none
 | .string s=>some (.s s)
 | .pointer none=>some .pn
 | .slice none 0 0=>some (.l [] true)
 | .map none=>some .mn
 | .nilFunc=>some .MZ
 | .nilIface=>some .Hq
 | _=>none
def X7:List Value→Option (List V)
 | []=>some []
 | c::cs=>match bH c,X7 cs with
   | some v,some vs=>some (v::vs)
   | _,_=>none
def eo:Value→Option V
 | .agg cs=>(X7 cs.toList).map .a
 | .tuple cs=>if cs.size=0 then some (.t [])else none
 | c=>bH c
def BW:Operand→Option B9
 | .tmp t=>some (.t t)
 | .const v=>(eo v).map .c
 | .func f=>some (.c (.f (.func f) [] []))
 | .global _=>none
def Ir:List Operand→Option (List B9)
 | []=>some []
 | x::r=>match BW x,Ir r with
   | some v,some vs=>some (v::vs)
   | _,_=>none
def WH:Option Operand→Option (Option B9)
 | none=>some none
 | some x=>(BW x).map some
def D4 (P:Program) (t:TypeId):Option Nat:=(P.info? t).map (·.size)
def Hc (P:Program) (t:TypeId):Option (Option Nat):=
 match P.underlying t with
 | some (.struct _)=>(D4 P t).map some
 | some (.array _ _)=>(D4 P t).map some
 | some _=>some none
 | none=>none
def zeroOf (P:Program) (t:TypeId):Option V:=(((P.info? t).bind (·.zero))).bind eo
def isInt (P:Program) (t:TypeId):Bool:=match P.underlying t with|some (.int _)=>true|_=>false
def isBool (P:Program) (t:TypeId):Bool:=match P.underlying t with|some .bool=>true|_=>false
def lj (P:Program) (op:BinOp) (t:TypeId) (x y:B9):Option F9:=
 if isInt P t then some (.bin op x y)
 else if isBool P t then match op with
  | .eql=>some (.X4 false x y)
  | .neq=>some (.X4 true x y)
  | _=>none
 else none
def P8 (fields:Array Field) (P:Program):List (Nat×Operand)→Option (List (Nat×Nat×B9))
 | []=>some []
 | (i,x)::r=>match fields[i]?,BW x,P8 fields P r with
   | some f,some o,some ps=>(D4 P f.type).map fun s=>(f.offset,s,o)::ps
   | _,_,_=>none
def MI (sz:Nat):List (Nat×Operand)→Option (List (Nat×Nat×B9))
 | []=>some []
 | (i,x)::r=>match BW x,MI sz r with
   | some o,some ps=>some ((i*sz,sz,o)::ps)
   | _,_=>none
def MH:List (Nat×Operand)→Option (List (Nat×B9))
 | []=>some []
 | (i,x)::r=>match BW x,MH r with
   | some o,some ps=>some ((i,o)::ps)
   | _,_=>none
def JG:Option V→Option (List V)
 | some (.a cs)=>some cs
 | some (.t _)=>none
 | some .any=>none
 | some v=>some [v]
 | none=>none
def YM (P:Program) (c:Call):Option F9:=
 match c.callee,c.args.toList,c.argTypes.toList with
 | .builtin .len,[x],[t]=>match P.underlying t with
   | some (.slice _)=>(BW x).map .len
   | some (.map _ _)=>(BW x).map .WN
   | some (.array n _)=>if(n:Int)≤IntKind.i64.max then some (.mv (.c (.i .i64 n)))else none
   | _=>none
 | .builtin .append,[x,y],[t,u]=>match P.underlying t,P.underlying u with
   | some (.slice e),some (.slice _)=>match BW x,BW y,P.info? e with
     | some x',some y',some i=>if t=u∧i.bytes≤4096∧i.zero.map (fun z=>z.cells.size)=some i.size then some (.append i.size i.bytes x' y')else none
     | _,_,_=>none
   | _,_=>none
 | .builtin .max,[x,y],_=>match BW x,BW y with|some x',some y'=>some (.MY x' y')|_,_=>none
 | .builtin .min,[x,y],_=>match BW x,BW y with|some x',some y'=>some (.Tb x' y')|_,_=>none
 | .value (.func f),_,_=>(Ir c.args.toList).map (.call f)
 | .value x,_,_=>match BW x,Ir c.args.toList with|some x',some as=>some (.B4 x' as)|_,_=>none
 | _,_,_=>none
def rq (P:Program):Op→Option F9
 | .move x=>(BW x).map .mv
 | .assign x=>(BW x).map .mv
 | .pick c a b=>match BW c,BW a,BW b with|some c,some a,some b=>some (.pick c a b)|_,_,_=>none
 | .box _ x=>(BW x).map .box
 | .alloc e=>(JG (zeroOf P e)).map .alloc
 | .build t parts=>match JG (zeroOf P t),P.underlying t with
   | some z,some (.struct fields)=>if fields.toList.all (fun f=>(D4 P f.type).isSome)then(P8 fields P parts.toList).map (.build z)else none
   | some z,some (.array _ e)=>(D4 P e).bind fun sz=>(MI sz parts.toList).map (.build z)
   | _,_=>none
 | .buildSlice t len parts=>match P.underlying t with
   | some (.slice e)=>match JG (zeroOf P e),D4 P e with
     | some z,some sz=>if z.length=sz∧0<sz∧0<len∧len*sz≤2 ^ 24 then(MH parts.toList).map (.Ah sz len z)else none
     | _,_=>none
   | _=>none
 | .load t x=>match Hc P t,BW x with|some a,some x=>some (.load a x)|_,_=>none
 | .store t a x=>match D4 P t,BW a,BW x with|some s,some a,some x=>some (.store s a x)|_,_,_=>none
 | .binOp op t x y _=>match BW x,BW y with|some x,some y=>lj P op t x y|_,_=>none
 | .unOp .not _ x=>(BW x).map .not
 | .unOp .neg t x=>if isInt P t then(BW x).map (.neg false)else none
 | .unOp .xor t x=>if isInt P t then(BW x).map (.neg true)else none
 | .convert s d x=>match P.underlying s,P.underlying d with
   | some (.int _),some (.int k)=>(BW x).map (.conv k)
   | _,_=>none
 | .makeInterface t x=>match P.underlying t with
   | some (.interface _)=>none
   | some _=>(BW x).map (.GB t)
   | none=>none
 | .makeFunc (.func f) first cap=>match Ir first.toList,Ir cap.toList with|some a,some b=>some (.Hi (.func f) a b)|_,_=>none
 | .slice t x lo hi mx=>match P.underlying t with
   | some (.slice e)=>match D4 P e,BW x,WH lo,WH hi,WH mx with
     | some s,some x,some l,some h,some m=>if 0<s∧(m.isSome→h.isSome)then some (.slice s x l h m)else none
     | _,_,_,_,_=>none
   | _=>none
 | .fieldAddr s x f=>match P.underlying s with
   | some (.struct fields)=>match fields[f]? with
     | some fd=>match D4 P fd.type with
       | some sz=>if sz=0 then none else(BW x).map (.Iy fd.offset)
       | none=>none
     | none=>none
   | _=>none
 | .field t x f=>match P.underlying t with
   | some (.struct fields)=>match fields[f]? with
     | some fd=>match Hc P fd.type,BW x with|some a,some x=>some (.field a fd.offset x)|_,_=>none
     | none=>none
   | _=>none
 | .indexAddr t x i=>match P.underlying t with
   | some (.slice e)=>match D4 P e,BW x,BW i with|some s,some x,some i=>some (.Bf s none x i)|_,_,_=>none
   | some (.array n e)=>match D4 P e,BW x,BW i with|some s,some x,some i=>some (.Bf s (some n) x i)|_,_,_=>none
   | _=>none
 | .index t x i=>match P.underlying t with
   | some (.array n e)=>match D4 P e,Hc P e,BW x,BW i with|some s,some a,some x,some i=>some (.index n s a x i)|_,_,_,_=>none
   | _=>none
 | .extract x i=>(BW x).map (.extract i)
 | .nilCheck x=>(BW x).map .FD
 | .typeAssert x _ t ok=>match P.underlying t with
   | some (.interface _)=>none
   | some _=>match BW x,zeroOf P t with|some x,some z=>some (.bD t z ok x)|_,_=>none
   | none=>none
 | .panic x=>(BW x).map .panic
 | .call c=>YM P c
 | _=>none
def CO (Λ:Nat→Prop) (σ:AH) (w:World) (k kp:V→AH→Prop):Result Value→Prop
 | .ok c w'=> ∃v σ',k v σ'∧Aa (Hh Λ σ' w') v c∧Rel Λ σ' w'∧B7 Λ σ w σ' w'
 | .halt (.panic c) w'=> ∃v σ',kp v σ'∧Aa (Hh Λ σ' w') v c∧Rel Λ σ' w'∧B7 Λ σ w σ' w'
 | _=>False
def Good (P:Program) (Λ:Nat→Prop) (σ:AH) (w:World) (k kp:V→AH→Prop):Result Next→Prop
 | .ok (.value c) w'=> ∃v σ',k v σ'∧Aa (Hh Λ σ' w') v c∧Rel Λ σ' w'∧B7 Λ σ w σ' w'
 | .ok .skip w'=> ∃σ',k (.t []) σ'∧Rel Λ σ' w'∧B7 Λ σ w σ' w'
 | .ok (.enter f args) w'=>Calls P f args w' fun e w''=> ∃r σ',qk k kp r σ'∧Rb (Hh Λ σ' w'') r e∧Rel Λ σ' w''∧B7 Λ σ w σ' w''
 | .ok (.round l f tmps assign body) w'=>RoundIn Fence.wide 0 P l f tmps assign body w' fun e w''=> ∃r σ',qk k kp r σ'∧Rb (Hh Λ σ' w'') r e∧Rel Λ σ' w''∧B7 Λ σ w σ' w''
 | .halt (.panic c) w'=> ∃v σ',kp v σ'∧Aa (Hh Λ σ' w') v c∧Rel Λ σ' w'∧B7 Λ σ w σ' w'
 | _=>False
def Az {P:Program} {Λ:Nat→Prop} {σ:AH} {w:World} {k kp:V→AH→Prop} {s:Sem Value} (h:CO Λ σ w k kp (s.run P w)) :
    Good P Λ σ w k kp ((do pure (.value (←s)):Sem Next).run P w):=by
 simp only[DI];generalize s.run P w=r at *;cases r with
 | ok c w'=>exact h
 | halt x w'=>cases x<;>first|exact h|exact h.elim
def E4 {Λ:Nat→Prop} {σ:AH} {w:World} {k kp:V→AH→Prop} (G:Rel Λ σ w) {v:V} {c:Value} (hv:Aa (Hh Λ σ w) v c) (hk:k v σ):CO Λ σ w k kp (.ok c w):=
 ⟨v,σ,hk,hv,G,B7.refl _ _ _⟩
def Au {Λ:Nat→Prop} {σ:AH} {w:World} {k kp:V→AH→Prop} (G:Rel Λ σ w) {v:V} {c:Value} (hk:k v σ) (hv:Aa (Hh Λ σ w) v c):CO Λ σ w k kp (.ok c w):=
 E4 G hv hk
def CR (H:Nat→Nat→Option Value) (env:Env) (tmps:Array Value):Prop:= ∀k v,get k env=some v→ ∃c,tmps[k]? =some c∧Aa H v c
def CR.mono {H H':Nat→Nat→Option Value} (hle:U0 H H') {env:Env} {tmps:Array Value} (h:CR H env tmps):CR H' env tmps:=
 fun k v hv=>let⟨c,h1,h2⟩:=h k v hv;⟨c,h1,h2.mono hle⟩
def R5 {H:Nat→Nat→Option Value} {c:Value} {v:V} (h:bH c=some v):Aa H v c:=by
 unfold bH at h
 split at h<;>first
  | (cases h;simp[Aa];done)
  | (split at h<;>first|(rename_i hc;cases h;simpa[Aa]using hc)|cases h)
  | cases h
 ·exact⟨none,0,rfl,by simp,by simp,by simp[Ae],by simp,by simp⟩
def R4 {H:Nat→Nat→Option Value}: ∀ {cs:List Value} {vs:List V},X7 cs=some vs→cs.length=vs.length∧BZ H (fun i=>cs[i]?) 0 vs
 | [],vs,h=>by cases h;exact⟨rfl,trivial⟩
 | c ::cs,vs,h=>by
   simp only[X7]at h;split at h
   ·rename_i v vs' h1 h2
    cases h;obtain⟨h3,h4⟩:=R4 (H:=H) h2;refine⟨by simp[h3],⟨c,by simp,R5 h1⟩,?_⟩;exact BA h4 (fun i _=>by rw[show 0+1+i=i+1 by omega];simp)
   ·cases h
def GF {H:Nat→Nat→Option Value} {c:Value} {v:V} (h:eo c=some v):Aa H v c:=by
 unfold eo at h;split at h
 ·rename_i cs
  cases hq:X7 cs.toList with
  | none=>rw[hq]at h;cases h
  | some vs=>
    rw[hq]at h;cases h;obtain⟨h1,h2⟩:=R4 (H:=H) hq;refine⟨cs,rfl,by simpa using h1,BA h2 (fun i _=>by simp)⟩
 ·rename_i cs
  split at h
  ·rename_i h0
   cases h;exact⟨cs,rfl,by simpa using h0,trivial⟩
  ·cases h
 ·exact R5 h
def Ao {H:Nat→Nat→Option Value} {env:Env} {a:Act} (he:CR H env a.tmps) {x:Operand} {o:B9} (ho:BW x=some o) {v:V} (hv:ev env o=some v):Aa H v (a.eval x):=by
 cases x with
 | tmp t=>
   cases ho;obtain⟨c,h1,h2⟩:=he t v hv;simp only[Act.eval,Array.getD_eq_getD_getElem?,h1,Option.getD_some];exact h2
 | const c=>
   simp only[BW]at ho;cases hq:eo c with
   | none=>rw[hq]at ho;cases ho
   | some u=>
     rw[hq]at ho;cases ho;cases hv;exact GF hq
 | func f=>
   cases ho;cases hv;exact⟨#[],#[],rfl,rfl,trivial,rfl,trivial⟩
 | global g=>cases ho
def Vt {H:Nat→Nat→Option Value} {env:Env} {a:Act} (he:CR H env a.tmps): ∀ {xs:List Operand} {os:List B9},Ir xs=some os→ ∀ {vs:List V},TR env os=some vs→
    xs.length=vs.length∧BZ H (fun i=>(xs.map a.eval)[i]?) 0 vs
 | [],os,ho,vs,hv=>by cases ho;cases hv;exact⟨rfl,trivial⟩
 | x ::xs,os,ho,vs,hv=>by
   simp only[Ir]at ho;split at ho
   ·rename_i o os' h1 h2
    cases ho;simp only[TR]at hv;split at hv
    ·rename_i v vs' h3 h4
     cases hv;obtain⟨h5,h6⟩:=Vt he h2 h4;refine⟨by simp[h5],⟨a.eval x,by simp,Ao he h1 h3⟩,?_⟩;exact BA h6 (fun i _=>by rw[show 0+1+i=i+1 by omega];simp)
    ·cases hv
   ·cases ho
def Aj {o:Option V} {k:V→Prop} (h:wv o k): ∃v,o=some v∧k v:=by
 cases o with
 | none=>exact h.elim
 | some v=>exact⟨v,rfl,h⟩
def HH {o:Option (List V)} {k:List V→Prop} (h:ws o k): ∃v,o=some v∧k v:=by
 cases o with
 | none=>exact h.elim
 | some v=>exact⟨v,rfl,h⟩
def VC {o:Option (List (List V))} {k:List (List V)→Prop} (h:wr o k): ∃v,o=some v∧k v:=by
 cases o with
 | none=>exact h.elim
 | some v=>exact⟨v,rfl,h⟩
def QM {o:Option (Option V)} {k:Option V→Prop} (h:wo o k): ∃v,o=some v∧k v:=by
 cases o with
 | none=>exact h.elim
 | some v=>exact⟨v,rfl,h⟩
end Go.Gl
namespace Go.Gl
variable {P:Program} {Λ:Nat→Prop} {σ:AH} {w:World} {k kp:V→AH→Prop}
def Ka {t:TypeId} {n:Nat} (h:D4 P t=some n): ∃i,P.info? t=some i∧i.size=n:=by
 unfold D4 at h;cases hi:P.info? t with
 | none=>rw[hi]at h;cases h
 | some i=>rw[hi]at h;cases h;exact⟨i,rfl,rfl⟩
def D8 {t:TypeId} {n:Nat} (h:D4 P t=some n) (w:World):(sizeOf t).run P w= .ok n w:=by
 obtain⟨i,h1,h2⟩:=Ka h;simp[sizeOf,typeInfo,h1,h2]
def BJ {t:TypeId} {d:TypeDesc} (h:P.underlying t=some d) (w:World):(underlying t).run P w= .ok d w:=by
 simp[underlying,h]
def EG {t:TypeId} {z:V} (h:zeroOf P t=some z) (w:World): ∃c,(zeroValue t).run P w= .ok c w∧eo c=some z:=by
 unfold zeroOf at h;cases hi:P.info? t with
 | none=>rw[hi]at h;cases h
 | some i=>
   rw[hi]at h;cases hz:i.zero with
   | none=>simp[hz]at h
   | some c=>
     refine⟨c,by simp[zeroValue,typeInfo,hi,hz],?_⟩;simpa[hz]using h
def Sp {t:TypeId} {z:V} (h:zeroOf P t=some z): ∃i c,P.info? t=some i∧i.zero=some c∧eo c=some z:=by
 unfold zeroOf at h;cases hi:P.info? t with
 | none=>rw[hi]at h;cases h
 | some i=>
   rw[hi]at h;cases hz:i.zero with
   | none=>simp[hz]at h
   | some c=>exact⟨i,c,rfl,hz,by simpa[hz]using h⟩
def O9 {t:TypeId} {a:Option Nat} (h:Hc P t=some a) (w:World):(isAgg t).run P w= .ok a.isSome w∧ ∀n,a=some n→(sizeOf t).run P w= .ok n w:=by
 unfold Hc at h;cases hu:P.underlying t with
 | none=>rw[hu]at h;cases h
 | some d=>
   rw[hu]at h;unfold isAgg;simp only[DI,BJ hu,Result.andThen]
   cases d<;>simp only at h ⊢ <;>first
    | (cases h;exact⟨rfl,fun n e=>by cases e⟩)
    | (cases hs:D4 P t with
       | none=>rw[hs]at h;cases h
       | some n=>rw[hs]at h;cases h;exact⟨rfl,fun n e=>by cases e;exact D8 hs w⟩)
def Qs {g:Nat→Option Value} {b o n:Nat} {vs:List V} {H:Nat→Nat→Option Value} (hg: ∀i c,g i=some c→w.cell? ⟨b,i,none⟩=some c) (hv:BZ H g o vs) (hn:vs.length=n) :
    ∃cs:Array Value,(loadCells ⟨b,o,none⟩ n).run P w= .ok cs w∧cs.size=n∧BZ H (fun i=>cs[i]?) 0 vs:=by
 rw[Bg]at hv
 have hch: ∀i,i<n→ ∃c,g (o+i)=some c:=fun i hi=>by
  obtain⟨c,hc,_⟩:=hv i vs[i] (Da (by omega));exact⟨c,hc⟩
 let f:Nat→Value:=fun i=>(g (o+i)).getD undef
 refine⟨((List.range n).map f).toArray,?_,by simp,?_⟩
 ·rw[run_loadCells w _ n f (fun j hj=>by
   obtain⟨c,hc⟩:=hch j hj;rw[Cd,hg _ _ hc]
   simp[f,hc])]
 ·rw[Bg]
  intro i v hi;obtain⟨c,hc,hr⟩:=hv i v hi;have hlt:i<n:=by rw[←hn];exact(Hr.1 hi).1
  refine⟨c,?_,hr⟩;simp[f,hc,hlt]
def E3 {t:TypeId} {agg:Option Nat} (Y:Hc P t=some agg) {g:Nat→Option Value} {b o off:Nat} {vs:List V} {H:Nat→Nat→Option Value} (hg: ∀i c,g i=some c→w.cell? ⟨b,i,none⟩=some c) (hv:BZ H g o vs)
    {K:V→Prop} (hk:cut agg vs off K): ∃v c,(loadVar t ⟨b,o+off,none⟩).run P w= .ok c w∧Aa H v c∧K v:=by
 obtain⟨h1,h2⟩:=O9 Y w;unfold loadVar;simp only[DI,h1,Result.andThen];cases agg with
 | none=>
   simp only[cut]at hk;split at hk
   ·rename_i v hv'
    obtain⟨c,hc,hr⟩:=Bg.1 hv off v hv';refine⟨v,c,?_,hr,hk⟩;simp[hg _ _ hc]
   ·exact hk.elim
 | some n=>
   simp only[cut]at hk;obtain⟨cs,h3,h4,h5⟩:=Qs (P:=P) (n:=n) hg (Oz (IY hv off) n) (by simp;omega);refine⟨.a ((vs.drop off).take n),.agg cs,?_,⟨cs,rfl,by simp[h4];omega,h5⟩,hk.2⟩;simp[h2 n rfl,h3]
def Ig (G:Rel Λ σ w) {n:Nat} {vs:List V} (h:σ n=some (.cs vs)): ∃c e,w.heap[n]? =some (.cells c e (0,0))∧c.size=vs.length∧BZ (Hh Λ σ w) (fun i=>c[i]?) 0 vs:=by
 obtain⟨_,ob,h2,c,e,rfl,h4,h5⟩:=G.own n _ h;exact⟨c,e,h2,h4,h5⟩
def Ef (G:Rel Λ σ w) {n sz cap:Nat} {es:List (List V)} (h:σ n=some (.arr sz es cap)): ∃c e,w.heap[n]? =some (.cells c e (0,0))∧cap*sz≤c.size∧es.length≤cap∧es.length≤Ae∧BN (Hh Λ σ w) (fun i=>c[i]?) sz 0 es:=by
 obtain⟨_,ob,h2,c,e,rfl,h4,h5⟩:=G.own n _ h;exact⟨c,e,h2,h4,h5⟩
def UT {t:TypeId} {agg:Option Nat} (Y:Hc P t=some agg) (G:Rel Λ σ w) {vx:V} {c:Value} (hx:Aa (Hh Λ σ w) vx c) (h:Ab σ agg vx fun v=>k v σ) :
    CO Λ σ w k kp ((Instr.loadAt t c).run P w):=by
 unfold Instr.loadAt;unfold Ab at h;split at h
 ·rename_i cs
  obtain⟨b,o,rfl,hv⟩:=hx;obtain⟨v,c,h1,h2,h3⟩:=E3 (P:=P) (w:=w) (b:=b) (off:=0) Y (fun i c hc=>(FZ hc).2.2) hv h;simp only[DI,Instr.sureAddr,EX,Result.andThen,Nat.add_zero]at h1 ⊢;rw[h1];exact E4 G h2 h3
 ·rename_i n off
  simp only[Aa]at hx;subst hx;unfold On at h;split at h
  ·rename_i vs hs
   obtain⟨c,e,h1,h2,h3⟩:=Ig G hs;obtain⟨v,c',h4,h5,h6⟩:=E3 (P:=P) (w:=w) (b:=n) (off:=off) Y (fun i c hc=>by rw[DN h1];exact hc) h3 h;simp only[DI,Instr.sureAddr,EX,Result.andThen,Gb]at h4 ⊢;rw[h4];exact E4 G h5 h6
  ·exact h.elim
 ·rename_i n sz i off
  simp only[Aa]at hx;subst hx;unfold Oo at h;split at h
  ·rename_i sz' es cap hs
   obtain⟨rfl,h⟩:=h;split at h
   ·rename_i e he
    obtain⟨c,e',h1,_,_,_,h3⟩:=Ef G hs;obtain⟨h7,h8⟩:=BG.1 h3 i e he;obtain⟨v,c',h4,h5,h6⟩:=E3 (P:=P) (w:=w) (b:=n) (off:=off) Y (fun i c hc=>by rw[DN h1];exact hc) h8 h;simp only[DI,Instr.sureAddr,EX,Result.andThen,Gb]at h4 ⊢;rw[h4];exact E4 G h5 h6
   ·exact h.elim
  ·exact h.elim
 ·exact h.elim
def Cr {H:Nat→Nat→Option Value} {v:V} {c:Value} (hv:Aa H v c) {vs:List V} (h:cellsOf v=some vs):c.cells.size=vs.length∧BZ H (fun i=>c.cells[i]?) 0 vs:=by
 cases v<;>simp only[cellsOf]at h<;>first
  | (cases h;done)
  | (cases h
     have hc:c.cells= #[c]:=by
      first
       | (simp only[Aa]at hv;subst hv;rfl)
       | (simp only[Aa]at hv;obtain⟨rfl,_⟩:=hv;rfl)
       | (simp only[Aa]at hv;obtain⟨_,rfl,_⟩:=hv;rfl)
       | (simp only[Aa]at hv;obtain⟨_,_,rfl,_⟩:=hv;rfl)
     rw[hc]
     exact⟨rfl,⟨c,rfl,hv⟩,trivial⟩)
  | skip
 rename_i cs;cases h;obtain⟨c',rfl,h2,h3⟩:=hv;exact⟨h2,h3⟩
def NB {H:Nat→Nat→Option Value} {v:V} {c:Value} (hv:Aa H v c) (h:Db v=true):c.oneCell'=true:=by
 cases v<;>first
  | (simp[Db]at h;done)
  | (simp only[Aa]at hv;subst hv;rfl)
  | (simp only[Aa]at hv;obtain⟨rfl,_⟩:=hv;rfl)
  | (simp only[Aa]at hv;obtain⟨_,rfl,_⟩:=hv;rfl)
  | (simp only[Aa]at hv;obtain⟨_,_,rfl,_⟩:=hv;rfl)
def Zj {H:Nat→Nat→Option Value} {vs:List V} {c:Array Value} (hs:c.size=vs.length) (hv:BZ H (fun i=>c[i]?) 0 vs) (h:vs.all Db=true): ∀u∈c.toList,u.oneCell'=true:=by
 intro u hu;obtain⟨i,hi⟩:=List.mem_iff_getElem?.1 hu;have hlt:i<vs.length:=by rw[←hs];have:=(Hr.1 hi).1;simpa using this
 obtain⟨d,hd,hr⟩:=Bg.1 hv i vs[i] (Da hlt);have:d=u:=by simp only[Gb]at hd;rw[Array.getElem?_toList]at hi;rw[hi]at hd;cases hd;rfl
 subst this;exact NB hr (EY.1 h _ (List.getElem_mem hlt))
def Ei: ∀(us cs:List V) (o:Nat),(putAt cs o us).length=cs.length
 | [],_,_=>rfl
 | u::us,cs,o=>by simp only[putAt];rw[Ei us];simp
def ZT {H:Nat→Nat→Option Value} {c:Array Value} {vs:List V} {i:Nat} {v:V} {d:Value} (hs:c.size=vs.length) (h:BZ H (fun i=>c[i]?) 0 vs) (hv:Aa H v d) :
    BZ H (fun j=>(c.setIfInBounds i d)[j]?) 0 (vs.set i v):=by
 rw[Bg]at *;intro j u hu;simp only[Gb]at h ⊢;rw[List.getElem?_set]at hu;split at hu
 ·rename_i e
  subst e;split at hu
  ·rename_i hlt
   cases hu;exact⟨d,by rw[Array.getElem?_setIfInBounds_self_of_lt (by omega)],hv⟩
  ·cases hu
 ·rename_i e
  obtain⟨c',h1,h2⟩:=h j u hu;exact⟨c',by rw[Array.getElem?_setIfInBounds_ne e];exact h1,h2⟩
def J3 {H:Nat→Nat→Option Value}: ∀ {us:List V} {ds:List Value} {c:Array Value} {vs:List V} {o:Nat},c.size=vs.length→BZ H (fun i=>c[i]?) 0 vs→ds.length=us.length→BZ H (fun i=>ds[i]?) 0 us→
    BZ H (fun i=>(Cu c o ds)[i]?) 0 (putAt vs o us)
 | [],[],c,vs,o,_,h,_,_=>h
 | u::us,d::ds,c,vs,o,hs,h,hl,hu=>by
   simp only[Cu,putAt];obtain⟨⟨d',hd,hr⟩,hu'⟩:=hu;have e:d'=d:=by simp at hd;exact hd.symm
   subst e;exact J3 (by simpa using hs) (ZT hs h hr) (by simpa using hl) (BA hu' (fun i _=>by rw[show 0+1+i=i+1 by omega];simp))
 | [],_::_,_,_,_,_,_,hl,_=>by simp at hl
 | _::_,[],_,_,_,_,_,hl,_=>by simp at hl
def DF: ∀(ds:List Value) (c:Array Value) (o i:Nat),(i<o∨o+ds.length≤i)→(Cu c o ds)[i]? =c[i]?
 | [],_,_,_,_=>rfl
 | d::ds,c,o,i,h=>by
   simp only[Cu];rw[DF ds _ _ _ (by simp at h;omega),Array.getElem?_setIfInBounds_ne (by simp at h;omega)]
def Ff: ∀(ds:List Value) (c:Array Value) (o i:Nat),i<ds.length→o+ds.length≤c.size→(Cu c o ds)[o+i]? =ds[i]?
 | d ::ds,c,o,i,h,hs=>by
   simp only[Cu];cases i with
   | zero=>
     simp at hs;rw[DF ds _ _ _ (by omega),Nat.add_zero,Array.getElem?_setIfInBounds_self_of_lt (by omega)];rfl
   | succ i=>
     rw[show o+(i+1)=o+1+i by omega,Ff ds _ _ i (by simpa using h) (by simp at hs ⊢;omega)];simp
 | [],_,_,_,h,_=>by simp at h
def S7 {t : TypeId} {sz:Nat} (hS:D4 P t=some sz) (G:Rel Λ σ w) {va vx:V} {ca cx:Value} (ha:Aa (Hh Λ σ w) va ca) (hx:Aa (Hh Λ σ w) vx cx)
    (h:AW σ sz va vx fun σ'=>k (.t []) σ'): ∃σ' w',(Instr.storeAt t ca cx).run P w= .ok () w'∧k (.t []) σ'∧Rel Λ σ' w'∧B7 Λ σ w σ' w':=by
 unfold AW at h;split at h
 ·rename_i vc hc
  obtain⟨hlen,hone,h⟩:=h;obtain⟨hcs,hcv⟩:=Cr hx hc;have h1s:=Zj hcs hcv hone;have hcv':BZ (Hh Λ σ w) (fun i=>cx.cells.toList[i]?) 0 vc:=BA hcv (fun i _=>by simp)
  have hrun: ∀n o,ca= .pointer (some ⟨n,o,none⟩)→(Instr.storeAt t ca cx).run P w=(storeCells ⟨n,o,none⟩ cx.cells.toList).run P w:=by
   rintro n o rfl;have:cx.cells.size=sz:=by omega
   simp[Instr.storeAt,Instr.sureAddr,storeVar,D8 hS,this]
  split at h
  ·rename_i n off
   split at h
   ·rename_i vs hs
    obtain⟨hle,hk⟩:=h;simp only[Aa]at ha;obtain⟨c,e,h1,h2,h3⟩:=Ig G hs;refine⟨_,CH w n (.cells (Cu c off cx.cells.toList) e (0,0)),?_,hk,?_,GL hs _ _⟩
    ·rw[hrun n off ha,Ce cx.cells.toList w c off 0 h1 (by simp;omega) h1s]
     rfl
    ·exact IN G hs ⟨_,e,rfl,by rw[Dm,Ei];exact h2,J3 h2 h3 (by simp;omega) hcv'⟩
   ·exact h.elim
  ·rename_i n s i off
   split at h
   ·rename_i s' es cap hs
    obtain⟨rfl,h⟩:=h;split at h
    ·rename_i e he
     obtain⟨hle,hk⟩:=h;simp only[Aa]at ha;obtain⟨c,et,h1,h2,h3,h4,h5⟩:=Ef G hs;obtain⟨h6,h7⟩:=BG.1 h5 i e he;have hi:i<es.length:=(Hr.1 he).1
     have hb:i*s+s≤c.size:=by
      rw[←Nat.succ_mul];exact Nat.le_trans (Q9 _ (by omega)) h2
     refine⟨_,CH w n (.cells (Cu c (i*s+off) cx.cells.toList) et (0,0)),?_,hk,?_,GL hs _ _⟩
     ·rw[hrun n _ ha,Ce cx.cells.toList w c _ 0 h1 (by simp;omega) h1s]
      rfl
     ·refine IN G hs ⟨_,et,rfl,by rw[Dm];exact h2,by simpa using h3,by simpa using h4,?_⟩
      rw[BG];intro j u hu;rw[List.getElem?_set]at hu;split at hu
      ·rename_i ej
       subst ej;cases hu;refine⟨by rw[Ei];exact h6,?_⟩
       have hrow:BZ (Hh Λ σ w) (fun q=>(c.extract (i*s) (i*s+s))[q]?) 0 e:=by
        refine BA h7 (fun q hq=>?_);simp only[Gb];rw[Array.getElem?_extract_of_lt (by omega)];exact(Array.getElem?_eq_getElem (by omega)).symm
       have:=J3 (o:=off) (by simp;omega) hrow (by simp;omega) hcv';refine BA this (fun q hq=>?_);rw[Ei]at hq;simp only[Gb];by_cases hin:off≤q∧q<off+cx.cells.toList.length
       ·obtain⟨r,rfl⟩: ∃r,q=off+r:=⟨q - off,by omega⟩
        rw[show i*s+(off+r)=i*s+off+r by omega,Ff _ _ _ _ (by omega) (by simp;omega),Ff _ _ _ _ (by omega) (by simp;omega)]
       ·rw[DF _ _ _ _ (by omega),DF _ _ _ _ (by omega),Array.getElem?_extract_of_lt (by omega)]
        exact Array.getElem?_eq_getElem (by omega)
      ·rename_i ej
       obtain⟨h8,h9⟩:=BG.1 h5 j u hu;refine⟨h8,BA h9 (fun q hq=>?_)⟩;rw[DF];rcases Nat.lt_or_ge j i with hji|hji
       ·left
        have:(j+1)*s≤i*s:=Q9 _ hji;rw[Nat.succ_mul]at this;omega
       ·right
        have:(i+1)*s≤j*s:=Q9 _ (by omega);rw[Nat.succ_mul]at this;simp;omega
    ·exact h.elim
   ·exact h.elim
  ·exact h.elim
 ·exact h.elim
end Go.Gl
namespace Go.Gl
variable {P:Program} {Λ:Nat→Prop} {σ:AH} {w:World} {k kp:V→AH→Prop}
def PT (G:Rel Λ σ w) {cells:Array Value} {e:TypeId} {cs:List V} (hs:cells.size=cs.length) (hv:BZ (Hh Λ σ w) (fun i=>cells[i]?) 0 cs)
    (h: ∀n,σ n=none→k (.p n 0) (A8 σ n (.cs cs))):CO Λ σ w k kp ((do pure (.pointer (some (←newRow e cells))):Sem Value).run P w):=by
 simp only[newRow,DI,run_newObj,EX,Result.andThen,World.alloc_eq];exact⟨.p w.heap.size 0,_,h _ G.new,rfl,G3 G ⟨cells,e,rfl,hs,hv⟩,Dt _ _⟩
def XN (e:TypeId) (G:Rel Λ σ w) {vx:V} {c:Value} (hx:Aa (Hh Λ σ w) vx c) {cs:List V} (hc:cellsOf vx=some cs) (h: ∀n,σ n=none→k (.p n 0) (A8 σ n (.cs cs))) :
    CO Λ σ w k kp ((Instr.box e c).run P w):=by
 obtain⟨h1,h2⟩:=Cr hx hc;exact PT G h1 h2 h
def F0 {z:Option V} {cs:List V} (h:JG z=some cs): ∃v,z=some v∧cellsOf v=some cs:=by
 cases z with
 | none=>cases h
 | some v=>cases v<;>first|(cases h;done)|(cases h;exact⟨_,rfl,rfl⟩)
def TC {e:TypeId} {z:List V} (hz:JG (zeroOf P e)=some z) (G:Rel Λ σ w) (h: ∀n,σ n=none→k (.p n 0) (A8 σ n (.cs z))) :
    CO Λ σ w k kp ((Instr.alloc e true (.tuple #[])).run P w):=by
 obtain⟨v,h1,h2⟩:=F0 hz;obtain⟨c,h3,h4⟩:=EG h1 w;obtain⟨h5,h6⟩:=Cr (GF (H:=Hh Λ σ w) h4) h2;have:=PT (P:=P) (kp:=kp) (e:=e) G h5 h6 h;unfold Instr.alloc;simp only[DI,h3,Result.andThen]at this ⊢;simpa[newVar,newRow]using this
def TB {s:TypeId} {fields:Array Field} {f:Nat} {fd:Field} {sz:Nat} (hu:P.underlying s=some (.struct fields)) (hf:fields[f]? =some fd) (hs:D4 P fd.type=some sz) (h0:sz≠0)
    (G:Rel Λ σ w) {vx:V} {c:Value} (hx:Aa (Hh Λ σ w) vx c) (h:K2 fd.offset vx fun v=>k v σ):CO Λ σ w k kp ((Instr.fieldAt s c f).run P w):=by
 have hrun: ∀b o,c= .pointer (some ⟨b,o,none⟩)→(Instr.fieldAt s c f).run P w= .ok (.pointer (some ⟨b,o+fd.offset,none⟩)) w:=by
  rintro b o rfl;simp[Instr.fieldAt,BJ hu,hf,Instr.sureAddr,fieldPlace,D8 hs,h0,Cd]
 unfold K2 at h;split at h
 ·obtain⟨b,o,hc,hv⟩:=hx
  rw[hrun b o hc];exact Au G h ⟨b,_,rfl,IY hv _⟩
 ·rw[hrun _ _ hx]
  exact Au G h rfl
 ·simp only[Aa]at hx
  rw[hrun _ _ hx,Nat.add_assoc];exact Au G h rfl
 ·exact h.elim
def VT {t:TypeId} {agg:Option Nat} (Y:Hc P t=some agg) {H:Nat→Nat→Option Value} {c:Array Value} {off:Nat} {vs:List V} (hs:c.size=vs.length) (hv:BZ H (fun i=>c[i]?) 0 vs)
    {K:V→Prop} (hk:cut agg vs off K) (w:World): ∃v d,(part t c off).run P w= .ok d w∧Aa H v d∧K v:=by
 obtain⟨h1,h2⟩:=O9 Y w;unfold part;simp only[DI,h1,Result.andThen];cases agg with
 | none=>
   simp only[cut]at hk;split at hk
   ·rename_i v hv'
    obtain⟨d,hd,hr⟩:=Bg.1 hv off v hv';refine⟨v,d,?_,hr,hk⟩;simp only[Gb]at hd;simp[hd]
   ·exact hk.elim
 | some n=>
   simp only[cut]at hk;refine⟨.a ((vs.drop off).take n),.agg (c.extract off (off+n)),by simp[h2 n rfl],⟨_,rfl,by simp;omega,?_⟩,hk.2⟩;refine BA (Oz (IY hv off) n) (fun i hi=>?_);simp at hi;rw[Array.getElem?_extract_of_lt (by omega)];rw[show 0+off+i=off+(0+i) by omega];exact(Array.getElem?_eq_getElem (by omega)).symm
def TA {s:TypeId} {fields:Array Field} {f:Nat} {fd:Field} {agg:Option Nat} (hu:P.underlying s=some (.struct fields)) (hf:fields[f]? =some fd) (Y:Hc P fd.type=some agg)
    (G:Rel Λ σ w) {cs:List V} {c:Value} (hx:Aa (Hh Λ σ w) (.a cs) c) (h:cut agg cs fd.offset fun v=>k v σ):CO Λ σ w k kp ((Instr.field s c f).run P w):=by
 obtain⟨c',rfl,h1,h2⟩:=hx;obtain⟨v,d,h3,h4,h5⟩:=VT Y h1 h2 h w;simp only[Instr.field,DI,BJ hu,Result.andThen,hf,asAgg,EX,h3];exact E4 G h4 h5
def S9 {t e:TypeId} {len sz:Nat} {agg:Option Nat} (hu:P.underlying t=some (.array len e)) (hs:D4 P e=some sz) (Y:Hc P e=some agg)
    (G:Rel Λ σ w) {vx vi:V} {cx ci:Value} (hx:Aa (Hh Λ σ w) vx cx) (hi:Aa (Hh Λ σ w) vi ci) (h:K1 len sz agg vx vi fun v=>k v σ):CO Λ σ w k kp ((Instr.index t cx ci).run P w):=by
 unfold K1 at h;split at h
 ·rename_i cs ki j
  obtain⟨h0,h1,h⟩:=h;obtain⟨c',rfl,h2,h3⟩:=hx;obtain⟨rfl,_⟩:=hi;obtain⟨v,d,h4,h5,h6⟩:=VT Y h2 h3 h w;simp only[Instr.index,DI,asIntOf,EX,Result.andThen,BJ hu,h0,h1,and_self,if_true,D8 hs,h4];exact E4 G h5 h6
 ·exact h.elim
def run_indexAt_slice {t e:TypeId} {sz:Nat} (hu:P.underlying t=some (.slice e)) (hs:D4 P e=some sz) {b o:Nat} {n cap:Nat} {j:Int} {ki:IntKind} (h0:0≤j) (h1:j<n) :
    (Instr.indexAt t (.slice (some ⟨b,o,none⟩) n cap) (.int ki j)).run P w= .ok (.pointer (some ⟨b,o+j.toNat*sz,none⟩)) w:=by
 simp[Instr.indexAt,asIntOf,BJ hu,h0,h1,D8 hs,Cd]
def run_indexAt_array {t e:TypeId} {sz m:Nat} (hu:P.underlying t=some (.array m e)) (hs:D4 P e=some sz) {b o:Nat} {j:Int} {ki:IntKind} (h0:0≤j) (h1:j<m) :
    (Instr.indexAt t (.pointer (some ⟨b,o,none⟩)) (.int ki j)).run P w= .ok (.pointer (some ⟨b,o+j.toNat*sz,none⟩)) w:=by
 simp[Instr.indexAt,asIntOf,BJ hu,h0,h1,D8 hs,Cd,Instr.sureAddr]
def Kf {t e:TypeId} {sz:Nat} (hu:P.underlying t=some (.slice e)) (hs:D4 P e=some sz)
    (G:Rel Λ σ w) {vx vi:V} {cx ci:Value} (hx:Aa (Hh Λ σ w) vx cx) (hi:Aa (Hh Λ σ w) vi ci) (h:AU sz none vx vi fun v=>k v σ):CO Λ σ w k kp ((Instr.indexAt t cx ci).run P w):=by
 cases vi<;>simp only[AU]at h
 rename_i ki j;obtain⟨rfl,_⟩:=hi;cases vx<;>simp only at h
 ·rename_i es full
  obtain⟨h0,e',he,hl,h⟩:=h;obtain⟨a,cap,rfl,_,_,_,_,h6⟩:=hx;have hlt:=(Hr.1 he).1;obtain⟨b,o,s,rfl,h7⟩:=h6 (by rintro rfl;simp at he);obtain⟨h8,h9⟩:=BG.1 h7 _ _ he;have:s=sz:=by omega
  subst this;rw[run_indexAt_slice hu hs h0 (by omega)];exact Au G h ⟨b,_,rfl,h9⟩
 ·rename_i n len cap
  obtain⟨h0,h1,h⟩:=h;obtain⟨rfl,_⟩:=hx;rw[run_indexAt_slice hu hs h0 h1];exact Au G h (by simp[Aa])
 ·rename_i n s off len
  obtain⟨rfl,h0,h1,h⟩:=h;obtain⟨a,cap,rfl,_,h3⟩:=hx;obtain rfl:=h3 (by omega);rw[run_indexAt_slice hu hs h0 h1];exact Au G h (by simp[Aa,Nat.add_mul])
def Kg {t e:TypeId} {sz m:Nat} (hu:P.underlying t=some (.array m e)) (hs:D4 P e=some sz)
    (G:Rel Λ σ w) {vx vi:V} {cx ci:Value} (hx:Aa (Hh Λ σ w) vx cx) (hi:Aa (Hh Λ σ w) vi ci) (h:AU sz (some m) vx vi fun v=>k v σ):CO Λ σ w k kp ((Instr.indexAt t cx ci).run P w):=by
 cases vi<;>simp only[AU]at h
 rename_i ki j;obtain⟨rfl,_⟩:=hi;cases vx<;>simp only at h
 ·rename_i n o
  obtain⟨h0,h1,h⟩:=h;simp only[Aa]at hx;subst hx;rw[run_indexAt_array hu hs h0 h1];exact Au G h rfl
 ·rename_i cs
  obtain⟨h0,h1,h⟩:=h;obtain⟨b,o,rfl,hv⟩:=hx;rw[run_indexAt_array hu hs h0 h1];exact Au G h ⟨b,_,rfl,IY hv _⟩
 ·rename_i n s q o
  obtain⟨h0,h1,h⟩:=h;simp only[Aa]at hx;subst hx;rw[run_indexAt_array hu hs h0 h1,Nat.add_assoc];exact Au G h rfl
end Go.Gl
