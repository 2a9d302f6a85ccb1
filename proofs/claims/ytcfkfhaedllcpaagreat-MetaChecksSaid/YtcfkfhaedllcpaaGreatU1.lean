import Derived.OrdersIn
import Derived.Below
set_option linter.all false
set_option linter.defProp false
set_option maxHeartbeats 8000000
noncomputable section
namespace Go.Gl
def kZ {n m:Nat} (h:Nat.ble n m=true:=by exact rfl):n<=m:=Nat.le_of_ble_eq_true h
abbrev D2:=@List.getElem?_eq_getElem
abbrev Dx:=@List.mem_of_getElem?
abbrev BW:=@List.length_map
abbrev FD:=@List.getD_eq_getElem?_getD
abbrev DG:=@decide_eq_true_eq
abbrev Ba:=@Bool.and_eq_true
abbrev NX:=@List.getElem?_map
abbrev HQ:=@Option.some.injEq
abbrev On:=@List.mem_append_left
abbrev TO:=@List.mem_append_right
abbrev fV:=@List.getElem?_append_left
abbrev FC:=@List.mem_append
abbrev JD:=@List.all_eq_true
abbrev Of:=@Bool.false_eq_true
abbrev Uw:=@List.length_append
abbrev Om:=@List.length_cons
abbrev Ol:=@List.mem_map
abbrev XZ:=@Option.map_some
abbrev aT:=@List.getElem?_cons_zero
abbrev fk:=@List.getElem?_cons_succ
abbrev Ze:=@Array.getElem?_eq_some_iff
abbrev Uv:=@List.length_take
abbrev ib:=@List.getElem?_drop
abbrev HV:=@List.mem_cons
abbrev aS:=@List.append_assoc
abbrev Zd:=@List.mem_filter
abbrev Mb:=@beq_iff_eq
abbrev CT:=@Sem.run_bind
abbrev DV:=@Sem.run_pure
abbrev Ev:=@Result.andThen_ok
abbrev KT:=@List.getElem?_eq_some_iff
abbrev Fw:=@List.map_cons
abbrev Ma:=@Bool.or_eq_true
abbrev Uu:=@List.sublist_cons_self
abbrev MF:=@Int.toNat_natCast
abbrev Qi:=@List.append_nil
abbrev Ex:=@Nat.zero_add
abbrev R9:=@Bool.eq_iff_iff
abbrev Fv:=@Bool.true_and
abbrev Xh:=@List.length_filter_le
abbrev Oe:=@Nat.eq_of_beq_eq_true
abbrev Oj:=@Nat.mul_le_mul_right
abbrev Ut:=@List.any_eq_true
abbrev NW:=@List.nil_sublist
abbrev JE:=@Nat.le_refl
abbrev XY:=@List.length_eq_zero_iff
abbrev ME:=@List.mem_singleton
abbrev fj:=@List.perm_append_comm
abbrev NV:=@List.all_cons
abbrev R8:=@List.map_append
abbrev aR:=@List.any_cons
end Go.Gl
namespace Go.Gl
def AX:Nat:=17592186044416
inductive V where
 | b (x:Bool)
 | i (k:IntKind) (n:Int)
 | s (x:ByteArray)
 | pn
 | p (n off:Nat)
 | rp (cs:List V)
 | l (es:List (List V)) (full:Bool)
 | sl (n len cap:Nat)
 | sv (n sz off len:Nat)
 | pe (n sz i off:Nat)
 | m (n:Nat)
 | mn
 | f (fn:Fn) (first cap:List V)
 | IM
 | De (t:TypeId) (v:V)
 | C0
 | a (cs:List V)
 | t (vs:List V)
 | any
 deriving Inhabited
def ic:V->Bool
 | .i .u8 _=>true
 | .any=>true
 | _=>false
def Xa:List V->Bool
 | [v]=>ic v
 | _=>false
def Ge (es:List (List V)):Nat:=if es.all Xa then 140737488355328 else AX
def Yg (es:List (List V)):AX<=Ge es:=by
 unfold Ge AX;split<;>omega
def Yf (es:List (List V)):Ge es<=140737488355328:=by
 unfold Ge AX;split<;>omega
def IZ {es:List (List V)} {n:Nat} (h:n<=AX):n<=Ge es:=Nat.le_trans h (Yg es)
def Wu {α:Type} {enc:α->List V} {xs:List α} (h: ∀x,Xa (enc x)=false) (hl:(xs.map enc).length<=Ge (xs.map enc)):xs.length<=AX:=by
 cases xs with
 | nil=>simp
 | cons x r=>
   have e:((x::r).map enc).all Xa=false:=by rw[Fw,NV,h x];rfl
   rw[Ge,e,BW]at hl;exact hl
def Pl {es es':List (List V)} (h: ∀e∈es',e∈es) {n m:Nat} (hn:n<=Ge es) (hm:m<=n):m<=Ge es':=by
 unfold Ge at *;split at hn
 .rename_i he
  have:es'.all Xa=true:=by
   rw[JD]at he ⊢;exact fun e h2=>he e (h e h2)
  rw[if_pos this];omega
 .split
  .unfold AX at hn;omega
  .omega
mutual
def AQ (H:Nat->Nat->Option Value):V->Value->Prop
 | .b x,c=>c= .bool x
 | .i k n,c=>c= .int k n/\k.min<=n/\n<=k.max
 | .s x,c=>c= .string x
 | .pn,c=>c= .pointer none
 | .p n off,c=>c= .pointer (some ⟨n,off,none⟩)
 | .rp cs,c=> ∃b o,c= .pointer (some ⟨b,o,none⟩)/\A8 H (H b) o cs
 | .l es full,c=> ∃a cap,c= .slice a es.length cap/\es.length<=cap/\(full=true->cap=es.length)/\es.length<=Ge es/\(a=none->cap=0)/\
  (es≠[]-> ∃b o sz,a=some ⟨b,o,none⟩/\Az H (H b) sz o es)
 | .sl n len cap,c=>c= .slice (some ⟨n,0,none⟩) len cap/\len<=cap
 | .sv n sz off len,c=> ∃a cap,c= .slice a len cap/\len<=cap/\(len≠0->a=some ⟨n,off*sz,none⟩)
 | .pe n sz i off,c=>c= .pointer (some ⟨n,i*sz+off,none⟩)
 | .m n,c=>c= .map (some n)
 | .mn,c=>c= .map none
 | .f fn first cap,c=> ∃f' c',c= .func fn f' c'/\f'.size=first.length/\A8 H (fun i=>f'[i]?) 0 first/\c'.size=cap.length/\A8 H (fun i=>c'[i]?) 0 cap
 | .IM,c=>c= .nilFunc
 | .De t v,c=> ∃c',c= .iface t c'/\AQ H v c'
 | .C0,c=>c= .nilIface
 | .a cs,c=> ∃c',c= .agg c'/\c'.size=cs.length/\A8 H (fun i=>c'[i]?) 0 cs
 | .t vs,c=> ∃c',c= .tuple c'/\c'.size=vs.length/\A8 H (fun i=>c'[i]?) 0 vs
 | .any,_=>True
def A8 (H:Nat->Nat->Option Value) (g:Nat->Option Value):Nat->List V->Prop
 | _,[]=>True
 | o,v::vs=>(∃c,g o=some c/\AQ H v c)/\A8 H g (o+1) vs
def Az (H:Nat->Nat->Option Value) (g:Nat->Option Value) (sz:Nat):Nat->List (List V)->Prop
 | _,[]=>True
 | o,e::es=>e.length=sz/\A8 H g o e/\Az H g sz (o+sz) es
end
inductive ft where
 | ready
 | ret
 | exit (id:Nat)
inductive O where
 | cs (vs:List V)
 | arr (sz:Nat) (es:List (List V)) (cap:Nat)
 | map (kvs:List (V×V))
 | loop (st:ft) (env:List (Nat×V)) (ok:FuncId->Array Tmp->Code->Code->Nat->Prop)
 deriving Inhabited
def ar:ft->Loop->Prop
 | .ready,lp=>lp.state= .ready/\lp.pending=none
 | .ret,lp=>lp.state= .done/\lp.pending=some .ret
 | .exit id,lp=>lp.state= .done/\lp.pending=some (.exit id)
def EC (H:Nat->Nat->Option Value):List (V×V)->List MapEntry->Prop
 | [],[]=>True
 | (k,v)::r,e::es=>AQ H k e.key/\AQ H v e.val/\EC H r es
 | _,_=>False
def K3 (H:Nat->Nat->Option Value):O->Obj->Prop
 | .cs vs,o=> ∃c e,o= .cells c e (0,0)/\c.size=vs.length/\A8 H (fun i=>c[i]?) 0 vs
 | .arr sz es cap,o=> ∃c e,o= .cells c e (0,0)/\cap*sz<=c.size/\es.length<=cap/\es.length<=AX/\Az H (fun i=>c[i]?) sz 0 es
 | .map kvs,o=> ∃es clk,o= .map es clk/\EC H kvs es.toList/\es.toList.Pairwise (fun a b=>a.key≠b.key)
 | .loop st env ok,o=> ∃lp,o= .loop lp/\ar st lp/\(∀k v,(k,v)∈env-> ∃c,lp.tmps[k]? =some c/\AQ H v c)/\ok lp.fn lp.params lp.assign lp.body lp.tmps.size
abbrev AE:=Nat->Option O
def Hh (F:Nat->Prop) (Z:AE) (w:World) (b o:Nat):Option Value:=
 open Classical in if F b\/(Z b).isSome=true then none else w.cell? ⟨b,o,none⟩
structure Rel (F:Nat->Prop) (Z:AE) (w:World):Prop where
 own: ∀n o,Z n=some o-> ¬F n/\ ∃ob,w.heap[n]? =some ob/\K3 (Hh F Z w) o ob
 lock: ∀n,F n->n<w.heap.size
structure Bb (F:Nat->Prop) (Z:AE) (w:World) (Z':AE) (w':World):Prop where
 frame: ∀n,n<w.heap.size->Z n=none->w'.heap[n]? =w.heap[n]?
 size:w.heap.size<=w'.heap.size
 os:w'.os=w.os
 tape:w'.tape=w.tape
 output:w'.output=w.output
 names: ∀n,Z n=none->n<w.heap.size->Z' n=none
def Bb.refl (F:Nat->Prop) (Z:AE) (w:World):Bb F Z w Z w:=
 ⟨fun _ _ _=>rfl,JE _,rfl,rfl,rfl,fun _ h _=>h⟩
def Bb.trans {F:Nat->Prop} {Z Z' Z'':AE} {w w' w'':World} (h:Bb F Z w Z' w') (k:Bb F Z' w' Z'' w''):Bb F Z w Z'' w'' where
 frame n hn h0:=(k.frame n (Nat.lt_of_lt_of_le hn h.size) (h.names n h0 hn)).trans (h.frame n hn h0)
 size:=Nat.le_trans h.size k.size
 os:=k.os.trans h.os
 tape:=k.tape.trans h.tape
 output:=k.output.trans h.output
 names n h0 hn:=k.names n (h.names n h0 hn) (Nat.lt_of_lt_of_le hn h.size)
def SB (H H':Nat->Nat->Option Value):Prop:= ∀b o c,H b o=some c->H' b o=some c
mutual
def AQ.mono {H H':Nat->Nat->Option Value} (hle:SB H H'): ∀(v:V) (c:Value),AQ H v c->AQ H' v c
 | .b _,_,h| .i _ _,_,h| .s _,_,h| .pn,_,h| .p _ _,_,h| .sl _ _ _,_,h| .sv _ _ _ _,_,h| .pe _ _ _ _,_,h| .m _,_,h| .mn,_,h| .IM,_,h| .C0,_,h| .any,_,h=>by
   simp only[AQ]at h ⊢
   try exact h
 | .rp cs,_,h=>by
   simp only[AQ]at h ⊢;obtain⟨b,o,rfl,h⟩:=h;exact⟨b,o,rfl,A8.mono hle (fun i c e=>hle b i c e) cs o h⟩
 | .l es full,_,h=>by
   simp only[AQ]at h ⊢;obtain⟨a,cap,h1,h2,h3,h4,h5,h6⟩:=h;refine⟨a,cap,h1,h2,h3,h4,h5,fun hne=>?_⟩;obtain⟨b,o,sz,h7,h8⟩:=h6 hne;exact⟨b,o,sz,h7,Az.mono hle (fun i c e=>hle b i c e) sz es o h8⟩
 | .f fn first cap,_,h=>by
   simp only[AQ]at h ⊢;obtain⟨f',c',h1,h2,h3,h4,h5⟩:=h;exact⟨f',c',h1,h2,A8.mono hle (fun _ _ e=>e) first 0 h3,h4,A8.mono hle (fun _ _ e=>e) cap 0 h5⟩
 | .De t v,_,h=>by
   simp only[AQ]at h ⊢;obtain⟨c',h1,h2⟩:=h;exact⟨c',h1,AQ.mono hle v c' h2⟩
 | .a cs,_,h=>by
   simp only[AQ]at h ⊢;obtain⟨c',h1,h2,h3⟩:=h;exact⟨c',h1,h2,A8.mono hle (fun _ _ e=>e) cs 0 h3⟩
 | .t cs,_,h=>by
   simp only[AQ]at h ⊢;obtain⟨c',h1,h2,h3⟩:=h;exact⟨c',h1,h2,A8.mono hle (fun _ _ e=>e) cs 0 h3⟩
def A8.mono {H H':Nat->Nat->Option Value} (hle:SB H H') {g g':Nat->Option Value} (hg: ∀i c,g i=some c->g' i=some c) :
    ∀(vs:List V) (o:Nat),A8 H g o vs->A8 H' g' o vs
 | [],_,_=>trivial
 | v::vs,o,h=>by
   simp only[A8]at h ⊢;obtain⟨⟨c,h1,h2⟩,h3⟩:=h;exact⟨⟨c,hg _ _ h1,AQ.mono hle v c h2⟩,A8.mono hle hg vs (o+1) h3⟩
def Az.mono {H H':Nat->Nat->Option Value} (hle:SB H H') {g g':Nat->Option Value} (hg: ∀i c,g i=some c->g' i=some c) (sz:Nat) :
    ∀(es:List (List V)) (o:Nat),Az H g sz o es->Az H' g' sz o es
 | [],_,_=>trivial
 | e::es,o,h=>by
   simp only[Az]at h ⊢;obtain⟨h1,h2,h3⟩:=h;exact⟨h1,A8.mono hle hg e o h2,Az.mono hle hg sz es (o+sz) h3⟩
end
def EC.mono {H H':Nat->Nat->Option Value} (hle:SB H H'): ∀(r:List (V×V)) (es:List MapEntry),EC H r es->EC H' r es
 | [],[],_=>trivial
 | (k,v)::r,e::es,h=>by
   simp only[EC]at h ⊢;exact⟨AQ.mono hle _ _ h.1,AQ.mono hle _ _ h.2.1,EC.mono hle r es h.2.2⟩
 | [],_::_,h=>h.elim
 | _::_,[],h=>h.elim
def K3.mono {H H':Nat->Nat->Option Value} (hle:SB H H') {o:O} {ob:Obj} (h:K3 H o ob):K3 H' o ob:=by
 cases o with
 | cs vs=>obtain⟨c,e,h1,h2,h3⟩:=h;exact⟨c,e,h1,h2,A8.mono hle (fun _ _ e=>e) _ _ h3⟩
 | arr sz es cap=>obtain⟨c,e,h1,h2,h3,h4,h5⟩:=h;exact⟨c,e,h1,h2,h3,h4,Az.mono hle (fun _ _ e=>e) _ _ _ h5⟩
 | map kvs=>obtain⟨es,clk,h1,h2,h3⟩:=h;exact⟨es,clk,h1,EC.mono hle _ _ h2,h3⟩
 | loop st env ok=>obtain⟨lp,h1,h2,h3,h4⟩:=h;exact⟨lp,h1,h2,fun k v hm=>let⟨c,h5,h6⟩:=h3 k v hm;⟨c,h5,h6.mono hle⟩,h4⟩
def EY {F:Nat->Prop} {Z:AE} {w:World} {b o:Nat} {c:Value} (h:Hh F Z w b o=some c) :
    ¬F b/\Z b=none/\w.cell? ⟨b,o,none⟩=some c:=by
 unfold Hh at h;split at h
 .cases h
 .rename_i hn
  refine⟨fun hl=>hn (.inl hl),?_,h⟩;cases hs:Z b with
  | none=>rfl
  | some o=>exact absurd (.inr (by simp[hs])) hn
def J7 {F:Nat->Prop} {Z:AE} {w:World} {b o:Nat} (h1: ¬F b) (h2:Z b=none):Hh F Z w b o=w.cell? ⟨b,o,none⟩:=by
 unfold Hh;rw[if_neg];simp[h1,h2]
def ZT {w:World} {b o:Nat} {c:Value} (h:w.cell? ⟨b,o,none⟩=some c):b<w.heap.size:=by
 unfold World.cell? at h;rcases Nat.lt_or_ge b w.heap.size with h'|h'
 .exact h'
 .simp[Array.getElem?_eq_none h']at h
def Bb.hle {F:Nat->Prop} {Z Z':AE} {w w':World} (h:Bb F Z w Z' w'):SB (Hh F Z w) (Hh F Z' w'):=by
 intro b o c hc;obtain⟨h1,h2,h3⟩:=EY hc;have hb:=ZT h3;rw[J7 h1 (h.names b h2 hb),World.cell?_of_block (w:=w) (h.frame b hb h2)];exact h3
def Da {F:Nat->Prop} {Z Z':AE} {w:World} (hs: ∀n,Z n=none->Z' n=none):SB (Hh F Z w) (Hh F Z' w):=by
 intro b o c hc;obtain⟨h1,h2,h3⟩:=EY hc;rw[J7 h1 (hs b h2)];exact h3
def Sub (Z' Z:AE):Prop:= ∀n o,Z' n=some o->Z n=some o
def Sub.none {Z' Z:AE} (h:Sub Z' Z) {n:Nat} (hn:Z n=none):Z' n=none:=by
 cases h':Z' n with
 | none=>rfl
 | some o=>rw[h n o h']at hn;cases hn
def Sub.refl (Z:AE):Sub Z Z:=fun _ _ h=>h
def Sub.trans {a b c:AE} (h:Sub a b) (k:Sub b c):Sub a c:=fun n o e=>k n o (h n o e)
def Rel.drop {F:Nat->Prop} {Z Z':AE} {w:World} (h:Rel F Z w) (hs:Sub Z' Z):Rel F Z' w where
 own n o ho:=by
  obtain⟨h1,ob,h2,h3⟩:=h.own n o (hs n o ho);exact⟨h1,ob,h2,K3.mono (Da fun n hn=>hs.none hn) h3⟩
 lock:=h.lock
def Bb.drop {F:Nat->Prop} {Z Z':AE} (w:World) (hs:Sub Z' Z):Bb F Z w Z' w:=
 ⟨fun _ _ _=>rfl,JE _,rfl,rfl,rfl,fun _ hn _=>hs.none hn⟩
end Go.Gl
namespace Go.Gl
abbrev Env:=List (Nat×V)
def get (k:Nat):Env->Option V
 | []=>none
 | (j,v)::r=>bif Nat.beq j k then some v else get k r
inductive BQ where
 | t (n:Nat)
 | c (v:V)
 deriving Inhabited
def ev (env:Env):BQ->Option V
 | .t n=>get n env
 | .c v=>some v
def Oh (env:Env):List BQ->Option (List V)
 | []=>some []
 | x::r=>match ev env x,Oh env r with
   | some v,some vs=>some (v::vs)
   | _,_=>none
def BO (Z:AE) (n:Nat) (o:O):AE:=fun k=>if k=n then some o else Z k
def del (Z:AE) (n:Nat):AE:=fun k=>if k=n then none else Z k
mutual
inductive EL (Z Z':AE):V->V->Prop
 | refl (v:V):EL Z Z' v v
 | arr {n sz cap len:Nat} {es es':List (List V)}:Z n=some (.arr sz es cap)->Z' n=none->len=es.length->DU Z Z' es es'->EL Z Z' (.sl n len cap) (.l es' false)
 | cs {n:Nat} {vs vs':List V}:Z n=some (.cs vs)->Z' n=none->CU Z Z' vs vs'->EL Z Z' (.p n 0) (.rp vs')
 | a {vs vs':List V}:CU Z Z' vs vs'->EL Z Z' (.a vs) (.a vs')
 | t {vs vs':List V}:CU Z Z' vs vs'->EL Z Z' (.t vs) (.t vs')
 | De {t:TypeId} {v v':V}:EL Z Z' v v'->EL Z Z' (.De t v) (.De t v')
 | l {es es':List (List V)} {f f':Bool}:(f'=true->f=true)->DU Z Z' es es'->EL Z Z' (.l es f) (.l es' f')
 | rp {vs vs':List V}:CU Z Z' vs vs'->EL Z Z' (.rp vs) (.rp vs')
 | f {fn:Fn} {a a' b b':List V}:CU Z Z' a a'->CU Z Z' b b'->EL Z Z' (.f fn a b) (.f fn a' b')
 | any {v:V}:EL Z Z' v .any
inductive CU (Z Z':AE):List V->List V->Prop
 | nil:CU Z Z' [] []
 | cons {v v':V} {vs vs':List V}:EL Z Z' v v'->CU Z Z' vs vs'->CU Z Z' (v::vs) (v'::vs')
inductive DU (Z Z':AE):List (List V)->List (List V)->Prop
 | nil:DU Z Z' [] []
 | cons {v v':List V} {vs vs':List (List V)}:CU Z Z' v v'->DU Z Z' vs vs'->DU Z Z' (v::vs) (v'::vs')
end
inductive KS where
 | i (k:IntKind)
 | a (l:List IntKind)
 | s
 deriving Inhabited
inductive EM where
 | mv (x:BQ)
 | Xi (x:BQ)
 | pick (c a b:BQ)
 | bin (op:BinOp) (x y:BQ)
 | Xm (neg:Bool) (x y:BQ)
 | Oo (len:Nat) (neg:Bool) (x y:BQ)
 | TU (kind:Nat) (neg:Bool) (x:BQ)
 | not (x:BQ)
 | neg (xor:Bool) (x:BQ)
 | conv(k:IntKind) (x:BQ)
 | box (x:BQ)
 | K2 (x:BQ)
 | MR (sz bytes:Nat) (x y:BQ)
 | alloc (zero:List V)
 | build (zero:List V) (parts:List (Nat×Nat×BQ))
 | Cr (sz len:Nat) (zero:List V) (parts:List (Nat×BQ))
 | load (agg:Option Nat) (x:BQ)
 | store (sz:Nat) (a x:BQ)
 | BE (off:Nat) (x:BQ)
 | field (agg:Option Nat) (off:Nat) (x:BQ)
 | Eg (sz:Nat) (arr:Option Nat) (x i:BQ)
 | index (len sz:Nat) (agg:Option Nat) (x i:BQ)
 | slice (sz:Nat) (x:BQ) (lo hi mx:Option BQ)
 | len (x:BQ)
 | Nf (x:BQ)
 | str (x:BQ)
 | Oq (x i:BQ)
 | append (sz bytes:Nat) (x y:BQ)
 | copy (sz:Nat) (x y:BQ)
 | Ou (x y:BQ)
 | Ot (x y:BQ)
 | extract (i:Nat) (x:BQ)
 | Di (x:BQ)
 | TR (f:Fn) (first cap:List BQ)
 | J2
 | EU (sz bytes:Nat) (zero:List V) (len cap:BQ)
 | lookup (ks:KS) (zero:V) (ok:Bool) (m k:BQ)
 | EI (ks:KS) (m k v:BQ)
 | J3 (t:TypeId) (x:BQ)
 | Un (t:TypeId) (zero:V) (ok:Bool) (x:BQ)
 | panic (x:BQ)
 | call (f:FuncId) (args:List BQ)
 | Fa (f:FuncId) (args:List BQ)
 | GS (x:BQ) (args:List BQ)
 | RB (x:BQ) (args:List BQ)
 | inv (tab:List (TypeId×FuncId)) (x:BQ) (args:List BQ)
 deriving Inhabited
abbrev wv (o:Option V) (k:V->Prop):Prop:=match o with|some v=>k v|none=>False
@[simp] theorem DW (v:V) (k:V->Prop):wv (some v) k=k v:=rfl
@[simp] theorem jA (k:V->Prop):wv none k=False:=rfl
def bits (op:BinOp) (k:IntKind) (x y:Int):Int:=
 let a:=BitVec.ofInt k.bits x
 let b:=BitVec.ofInt k.bits y
 k.wrap (match op with
  | .and=>a&&&b
  | .or=>a|||b
  | .xor=>a ^^^ b
  | _=>a&&& ~~~b:BitVec k.bits).toNat
def Ox (op:BinOp) (x y:V) (k:V->Prop):Prop:=
 match x,y with
 | .i ka a,.i kb b=>
   match op with
   | .add=>ka=kb/\k (.i ka (ka.wrap (a+b)))
   | .sub=>ka=kb/\k (.i ka (ka.wrap (a - b)))
   | .mul=>ka=kb/\k (.i ka (ka.wrap (a*b)))
   | .quo=>ka=kb/\b≠0/\k (.i ka (ka.wrap (a.tdiv b)))
   | .rem=>ka=kb/\b≠0/\k (.i ka (a.tmod b))
   | .eql=>ka=kb/\k (.b (a==b))
   | .neq=>ka=kb/\k (.b (a != b))
   | .lss=>ka=kb/\k (.b (decide (a<b)))
   | .leq=>ka=kb/\k (.b (decide (a<=b)))
   | .gtr=>ka=kb/\k (.b (decide (a > b)))
   | .geq=>ka=kb/\k (.b (decide (a≥b)))
   | .shl=>0<=b/\k (.i ka (ka.wrap (a*2 ^ (min b.toNat ka.bits))))
   | .shr=>0<=b/\k (.i ka (a.fdiv (2 ^ (min b.toNat ka.bits))))
   | op=>ka=kb/\k (.i ka (bits op ka a b))
 | _,_=>False
def cellsOf:V->Option (List V)
 | .a cs=>some cs
 | .t _=>none
 | .any=>none
 | v=>some [v]
def Bm:V->Bool
 | .a _=>false
 | .t _=>false
 | .any=>false
 | _=>true
def putAt:List V->Nat->List V->List V
 | cs,_,[]=>cs
 | cs,o,v::vs=>putAt (cs.set o v) (o+1) vs
def He (env:Env):List V->List (Nat×Nat×BQ)->Option (List V)
 | cs,[]=>some cs
 | cs,(off,sz,x)::r=>
   match ev env x with
   | some v=>match cellsOf v with
     | some vc=>bif Nat.beq vc.length sz&&Nat.ble (off+sz) cs.length then He env (putAt cs off vc) r else none
     | none=>none
   | none=>none
def Gn (env:Env) (sz:Nat):List (List V)->List (Nat×BQ)->Option (List (List V))
 | es,[]=>some es
 | es,(i,x)::r=>
   match ev env x with
   | some v=>match cellsOf v with
     | some vc=>bif Nat.beq vc.length sz&&Nat.blt i es.length then Gn env sz (es.set i vc) r else none
     | none=>none
   | none=>none
def cut (agg:Option Nat) (cs:List V) (off:Nat) (k:V->Prop):Prop:=
 match agg with
 | none=>match cs[off]? with|some v=>k v|none=>False
 | some n=>off+n<=cs.length/\k (.a ((cs.drop off).take n))
def K4 (Z:AE) (n off:Nat) (agg:Option Nat) (k:V->Prop):Prop:=
 match Z n with
 | some (.cs vs)=>cut agg vs off k
 | _=>False
def K5 (Z:AE) (n sz i off:Nat) (agg:Option Nat) (k:V->Prop):Prop:=
 match Z n with
 | some (.arr sz' es _)=>sz=sz'/\match es[i]? with|some e=>cut agg e off k|none=>False
 | _=>False
def Af (Z:AE) (agg:Option Nat) (x:V) (k:V->Prop):Prop:=
 match x with
 | .rp cs=>cut agg cs 0 k
 | .p n off=>K4 Z n off agg k
 | .pe n sz i off=>K5 Z n sz i off agg k
 | _=>False
def AV (Z:AE) (sz:Nat) (a x:V) (k:AE->Prop):Prop:=
 match cellsOf x with
 | some vc=>
   vc.length=sz/\vc.all Bm=true/\match a with
   | .p n off=>match Z n with
     | some (.cs vs)=>off+sz<=vs.length/\k (BO Z n (.cs (putAt vs off vc)))
     | _=>False
   | .pe n s i off=>match Z n with
     | some (.arr s' es cap)=>s=s'/\match es[i]? with
       | some e=>off+sz<=s/\k (BO Z n (.arr s (es.set i (putAt e off vc)) cap))
       | none=>False
     | _=>False
   | _=>False
 | none=>False
def Hs (off:Nat) (x:V) (k:V->Prop):Prop:=
 match x with
 | .rp cs=>k (.rp (cs.drop off))
 | .p n o=>k (.p n (o+off))
 | .pe n sz i o=>k (.pe n sz i (o+off))
 | _=>False
def AS (sz:Nat) (arr:Option Nat) (x i:V) (k:V->Prop):Prop:=
 match i with
 | .i _ j=>match arr,x with
   | none,.l es _=>0<=j/\ ∃e,es[j.toNat]? =some e/\e.length=sz/\k (.rp e)
   | none,.sl n len _=>0<=j/\j<len/\k (.pe n sz j.toNat 0)
   | none,.sv n s off len=>s=sz/\0<=j/\j<len/\k (.pe n sz (off+j.toNat) 0)
   | some m,.rp cs=>0<=j/\j<m/\k (.rp (cs.drop (j.toNat*sz)))
   | some m,.p n o=>0<=j/\j<m/\k (.p n (o+j.toNat*sz))
   | some m,.pe n s q o=>0<=j/\j<m/\k (.pe n s q (o+j.toNat*sz))
   | _,_=>False
 | _=>False
def Hr (len sz:Nat) (agg:Option Nat) (x i:V) (k:V->Prop):Prop:=
 match x,i with
 | .a cs,.i _ j=>0<=j/\j<len/\cut agg cs (j.toNat*sz) k
 | _,_=>False
def K6 (x i:V) (k:V->Prop):Prop:=
 match x,i with
 | .s b,.i _ j=>0<=j/\match b.data.toList[j.toNat]? with|some c=>k (.i .u8 c.toNat)|none=>False
 | _,_=>False
def BK (x:V) (k:V->Prop):Prop:=
 match x with
 | .l es _=>k (.i .i64 es.length)
 | .sl _ len _=>len<=AX/\k (.i .i64 len)
 | .sv _ _ _ len=>len<=AX/\k (.i .i64 len)
 | _=>False
def Hc (Z:AE) (x:V) (k:V->Prop):Prop:=
 match x with
 | .m n=>match Z n with
   | some (.map kvs)=>kvs.length<=AX/\k (.i .i64 kvs.length)
   | _=>False
 | .mn=>k (.i .i64 0)
 | _=>False
def rowsOf (Z:AE) (sz:Nat) (y:V) (k:List (List V)->Prop):Prop:=
 match y with
 | .l ys _=>(∀e∈ys,e.length=sz)/\k ys
 | .sl m len _=>match Z m with
   | some (.arr s ys _)=>s=sz/\len<=ys.length/\k (ys.take len)
   | _=>False
 | .sv m s off len=>match Z m with
   | some (.arr s' ys _)=>s=sz/\s'=sz/\off+len<=ys.length/\k ((ys.drop off).take len)
   | _=>False
 | _=>False
def Dp:List (List V)->Option (List Int)
 | []=>some []
 | [.i .u8 n]::r=>match Dp r with|some l=>some (n::l)|none=>none
 | _=>none
def VA (Z:AE) (x:V) (k:V->Prop):Prop:=rowsOf Z 1 x fun ys=>match Dp ys with|some ns=>k (.s ⟨(ns.map fun n=>UInt8.ofNat n.toNat).toArray⟩)|none=>False
def AL (b : Nat) (Z:AE) (sz:Nat) (x y:V) (k:V->AE->Prop):Prop:=
 rowsOf Z sz y fun ys=>
 (∀e∈ys,∀v∈e,Bm v=true)/\match x with
 | .l es full=>(∀e∈es,e.length=sz)/\(es.length+ys.length<=AX/\(es.length+ys.length)*b<=140737488355328)/\(ys= []->k (.l es full) Z)/\
  (ys≠[]->full=true/\ ∀n cap,Z n=none->es.length+ys.length<=cap->k (.sl n (es.length+ys.length) cap) (BO Z n (.arr sz (es++ys) cap)))
 | .sl n len cap=>match Z n with
   | some (.arr s es c)=>s=sz/\c=cap/\len=es.length/\(es.length+ys.length<=AX/\(es.length+ys.length)*b<=140737488355328)/\
    ∀ n' cap',del Z n n'=none->es.length+ys.length<=cap'->
      k (.sl n' (es.length+ys.length) cap') (BO (del Z n) n' (.arr sz (es++ys) cap'))
   | _=>False
 | _=>False
def Kx (Z:AE) (sz:Nat) (ys:List (List V)) (n off len:Nat) (k:V->AE->Prop):Prop:=
 match Z n with
 | some (.arr s es c)=>s=sz/\off+len<=es.length/\k (.i .i64 (min ys.length len:Nat)) (BO Z n (.arr s (es.take off++(ys.take (min ys.length len)++es.drop (off+min ys.length len))) c))
 | _=>False
def An (Z:AE) (sz:Nat) (x y:V) (k:V->AE->Prop):Prop:=
 rowsOf Z sz y fun ys=>(∀e∈ys,∀v∈e,Bm v=true)/\match x with
 | .sl n len _=>Kx Z sz ys n 0 len k
 | .sv n s off len=>s=sz/\Kx Z sz ys n off len k
 | _=>False
def Ao (b:Nat) (Z:AE) (sz:Nat) (x y:V) (k:V->Prop):Prop:=
 rowsOf Z sz y fun ys=>
 (∀e∈ys,∀v∈e,Bm v=true)/\match x with
 | .l es full=>(∀e∈es,e.length=sz)/\(es.length+ys.length<=AX/\(es.length+ys.length)*b<=140737488355328)/\(ys≠[]->full=true)/\k (.l (es++ys) false)
 | _=>False
def MC (o:Option V) (d:Int) (k:Int->Prop):Prop:=
 match o with
 | none=>k d
 | some (.i _ n)=>k n
 | _=>False
def AU (Z:AE) (sz:Nat) (x:V) (lo hi mx:Option V) (k:V->AE->Prop):Prop:=
 match x with
 | .l es full=>(∀e∈es,e.length=sz)/\MC hi es.length fun h=>MC lo 0 fun l=>0<=l/\l<=h/\h<=es.length/\
  match mx with
  | none=>k (.l ((es.take h.toNat).drop l.toNat) (full&&decide (h=es.length))) Z
  | some (.i _ m)=>m=h/\k (.l ((es.take h.toNat).drop l.toNat) true) Z
  | _=>False
 | .sl n len cap=>MC hi len fun h=>MC lo 0 fun l=>0<=l/\l<=h/\h<=len/\
  match mx with
  | none=>k (.sv n sz l.toNat (h - l).toNat) Z
  | some (.i _ m)=>m=h/\h=len/\l=0/\match Z n with
    | some (.arr s es c)=>s=sz/\c=cap/\len=es.length/\(k (.l es true) (del Z n)\/k (.sl n len len) (BO Z n (.arr s es len)))
    | _=>False
  | _=>False
 | .sv n s off len=>MC hi len fun h=>MC lo 0 fun l=>0<=l/\l<=h/\h<=len/\s=sz/\mx=none/\k (.sv n sz (off+l.toNat) (h - l).toNat) Z
 | _=>False
def FX (env:Env):Option BQ->Option (Option V)
 | none=>some none
 | some x=>match ev env x with|some v=>some (some v)|none=>none
abbrev wo (o:Option (Option V)) (k:Option V->Prop):Prop:=match o with|some v=>k v|none=>False
@[simp] theorem SV (v:Option V) (k:Option V->Prop):wo (some v) k=k v:=rfl
abbrev ws (o:Option (List V)) (k:List V->Prop):Prop:=match o with|some v=>k v|none=>False
@[simp] theorem jB (v:List V) (k:List V->Prop):ws (some v) k=k v:=rfl
abbrev wr (o:Option (List (List V))) (k:List (List V)->Prop):Prop:=match o with|some v=>k v|none=>False
@[simp] theorem jC (v:List (List V)) (k:List (List V)->Prop):wr (some v) k=k v:=rfl
def BZ:List V->List V->Option Bool
 | [],[]=>some true
 | .i k a::r,.i k' b::s=>if k=k' then(BZ r s).map ((a==b)&& ·)else none
 | _,_=>none
def Ng (len:Nat) (neg:Bool) (x y:V) (k:V->Prop):Prop:=
 match x,y with
 | .a cs,.a ds=>match Nat.beq cs.length len,BZ cs ds with|true,some t=>k (.b (bif neg then !t else t))|_,_=>False
 | _,_=>False
def Gf (kind:Nat) (neg:Bool) (x:V) (k:V->Prop):Prop:=
 match kind,x with
 | 0,.pn=>k (.b (!neg))
 | 0,.rp _|0,.p _ _|0,.pe _ _ _ _=>k (.b neg)
 | 1,.sl _ _ _=>k (.b neg)
 | 1,.l es _=>(es= []-> ∀t,k (.b t))/\(es≠[]->k (.b neg))
 | 2,.C0=>k (.b (!neg))
 | 2,.De _ _=>k (.b neg)
 | 3,.mn=>k (.b (!neg))
 | 3,.m _=>k (.b neg)
 | 4,.IM=>k (.b (!neg))
 | 4,.f _ _ _=>k (.b neg)
 | _,_=>False
def AM (Z:AE) (sz:Nat) (z:List V) (x y:V) (k:V->AE->Prop):Prop:=
 match x,y with
 | .i _ n,.i _ m=>0<=n/\n<=m/\m<=1073741824/\ ∀id,Z id=none->k (.sl id n.toNat m.toNat) (BO Z id (.arr sz (List.replicate n.toNat z) m.toNat))
 | _,_=>False
def Ci:List IntKind->List V->Bool
 | [],[]=>true
 | q::l,.i q' _::cs=>decide (q=q')&&Ci l cs
 | _,_=>false
def BB (ks:KS) (v:V):Bool:=
 match ks,v with
 | .i k,.i k' _=>decide (k=k')
 | .a l,.a cs=>Ci l cs
 | .s,.s b=>Nat.ble b.size 1048576
 | _,_=>false
def D9 (x y:V):Bool:=
 match x,y with
 | .i _ a,.i _ b=>a==b
 | .s b,.s c=>decide (b=c)
 | .a cs,.a ds=>(BZ cs ds).getD false
 | _,_=>false
def C7 (key:V):List (V×V)->Option V
 | []=>none
 | (k,v)::r=>bif D9 key k then some v else C7 key r
def D6 (key val:V):List (V×V)->List (V×V)
 | []=>[(key,val)]
 | (k,v)::r=>bif D9 key k then(key,val)::r else(k,v)::D6 key val r
def found (z:V) (ok:Bool) (o:Option V):V:=match o with|some v=>bif ok then .t [v,.b true]else v|none=>bif ok then .t [z,.b false]else z
def AP (Z:AE) (ks:KS) (z:V) (ok:Bool) (vm vk:V) (k:V->Prop):Prop:=
 BB ks vk=true/\match vm with
 | .m n=>match Z n with
   | some (.map kvs)=>(∀kv∈kvs,BB ks kv.1=true)/\k (found z ok (C7 vk kvs))
   | _=>False
 | .mn=>k (found z ok none)
 | _=>False
def AT (Z:AE) (ks:KS) (vm vk vv:V) (k:AE->Prop):Prop:=
 BB ks vk=true/\match vm with
 | .m n=>match Z n with
   | some (.map kvs)=>(∀kv∈kvs,BB ks kv.1=true)/\k (BO Z n (.map (D6 vk vv kvs)))
   | _=>False
 | _=>False
inductive R where
 | ret (v:V)
 | BL (v:V)
def O7 (H:Nat->Nat->Option Value):R->Ending->Prop
 | .ret v,e=> ∃c,e= .returned c/\AQ H v c
 | .BL v,e=> ∃c,e= .panicked [{v:=c,recovered:=false}]/\AQ H v c
def okF (P:Program) (f:FuncId):Bool:=
 match P.funcs[f]? with
 | some fn=>fn.body.isSome&&fn.name != "runtime.NumGoroutine"
 | none=>false
def U1 (H:Nat->Nat->Option Value) (vs:List V) (cs:Array Value):Prop:=cs.size=vs.length/\A8 H (fun i=>cs[i]?) 0 vs
def BD (P:Program) (f:FuncId) (args:List V) (Z:AE) (Q:R->AE->Prop):Prop:=
 okF P f=true/\ ∀(F:Nat->Prop) (w:World) (cs:Array Value),Rel F Z w->U1 (Hh F Z w) args cs->
  Calls P f cs w fun e w'=> ∃r Z',Q r Z'/\O7 (Hh F Z' w') r e/\Rel F Z' w'/\Bb F Z w Z' w'
def Nq (P:Program) (l:Nat) (args:List V) (Z:AE) (Q:R->AE->Prop):Prop:=
 ∀ (F:Nat->Prop) (w:World) (cs:Array Value),Rel F Z w->U1 (Hh F Z w) args cs->
   ∃ f tmps assign body,(Instr.yield l cs).run P w= .ok (.round l f tmps assign body) w/\
     RoundIn Fence.wide 0 P l f tmps assign body w fun e w'=> ∃r Z',Q r Z'/\O7 (Hh F Z' w') r e/\Rel F Z' w'/\Bb F Z w Z' w'
def BF (P:Program) (x:V) (args:List V) (Z:AE) (Q:R->AE->Prop):Prop:=
 match x with
 | .f (.func f) first cap=>BD P f (first++args++cap) Z Q
 | .f (.yield l) [] []=>Nq P l args Z Q
 | _=>False
def look (t:TypeId):List (TypeId×FuncId)->Option FuncId
 | []=>none
 | (u,f)::r=>bif Nat.beq u t then some f else look t r
def BM (P:Program) (tab:List (TypeId×FuncId)) (x:V) (args:List V) (Z:AE) (Q:R->AE->Prop):Prop:=
 match x with
 | .De t v=>match look t tab with
   | some f=>BD P f (v::args) Z Q
   | none=>False
 | _=>False
def qk (k kp:V->AE->Prop):R->AE->Prop
 | .ret v,Z=>k v Z
 | .BL v,Z=>kp v Z
def Dy (P:Program) (o:EM) (env:Env) (Z:AE) (k kp:V->AE->Prop):Prop:=
 match o with
 | .mv x=>wv (ev env x) fun v=>k v Z
 | .Xi x=>wv (ev env x) fun v=> ∃vf Z2,Sub Z2 Z/\EL Z Z2 v vf/\k vf Z2
 | .pick c a b=>wv (ev env c) fun vc=>wv (ev env a) fun va=>wv (ev env b) fun vb=>
  match vc with| .b t=>(match va,vb with| .b x,.b y=>k (.b (bif t then x else y)) Z|_,_=>k (bif t then va else vb) Z)|_=>False
 | .bin op x y=>wv (ev env x) fun vx=>wv (ev env y) fun vy=>Ox op vx vy fun v=>k v Z
 | .Xm neg x y=>wv (ev env x) fun vx=>wv (ev env y) fun vy=>
  match vx,vy with| .b p,.b q=>k (.b (bif neg then p != q else p==q)) Z|_,_=>False
 | .not x=>wv (ev env x) fun vx=>match vx with| .b p=>k (.b (!p)) Z|_=>False
 | .neg xor x=>wv (ev env x) fun vx=>match vx with
  | .i ka a=>k (.i ka (bif xor then bits .xor ka (bif ka.signed then -1 else ka.max) a else ka.wrap (0 - a))) Z
  | _=>False
 | .conv ka x=>wv (ev env x) fun vx=>match vx with| .i _ a=>k (.i ka (ka.wrap a)) Z|_=>False
 | .box x=>wv (ev env x) fun vx=>match cellsOf vx with
  | some cs=> ∀n,Z n=none->k (.p n 0) (BO Z n (.cs cs))
  | none=>False
 | .K2 x=>wv (ev env x) fun vx=>match cellsOf vx with
  | some cs=>k (.rp cs) Z
  | none=>False
 | .MR sz b x y=>wv (ev env x) fun vx=>wv (ev env y) fun vy=>Ao b Z sz vx vy fun v=>k v Z
 | .alloc z=> ∀n,Z n=none->k (.p n 0) (BO Z n (.cs z))
 | .build z parts=>ws (He env z parts) fun cs=>k (.a cs) Z
 | .Cr _ len z parts=>wr (Gn env z.length (List.replicate len z) parts) fun es=>k (.l es true) Z
 | .load agg x=>wv (ev env x) fun vx=>Af Z agg vx fun v=>k v Z
 | .store sz a x=>wv (ev env a) fun va=>wv (ev env x) fun vx=>AV Z sz va vx fun Z'=>k (.t []) Z'
 | .BE off x=>wv (ev env x) fun vx=>Hs off vx fun v=>k v Z
 | .field agg off x=>wv (ev env x) fun vx=>match vx with| .a cs=>cut agg cs off fun v=>k v Z|_=>False
 | .Eg sz arr x i=>wv (ev env x) fun vx=>wv (ev env i) fun vi=>AS sz arr vx vi fun v=>k v Z
 | .index len sz agg x i=>wv (ev env x) fun vx=>wv (ev env i) fun vi=>Hr len sz agg vx vi fun v=>k v Z
 | .slice sz x lo hi mx=>wv (ev env x) fun vx=>wo (FX env lo) fun l=>wo (FX env hi) fun h=>wo (FX env mx) fun m=>AU Z sz vx l h m k
 | .len x=>wv (ev env x) fun vx=>BK vx fun v=>k v Z
 | .Nf x=>wv (ev env x) fun vx=>Hc Z vx fun v=>k v Z
 | .Oq x i=>wv (ev env x) fun vx=>wv (ev env i) fun vi=>K6 vx vi fun v=>k v Z
 | .str x=>wv (ev env x) fun vx=>VA Z vx fun v=>k v Z
 | .append sz b x y=>wv (ev env x) fun vx=>wv (ev env y) fun vy=>AL b Z sz vx vy k
 | .copy sz x y=>wv (ev env x) fun vx=>wv (ev env y) fun vy=>An Z sz vx vy k
 | .Ou x y=>wv (ev env x) fun vx=>wv (ev env y) fun vy=>match vx,vy with
  | .i ka a,.i kb b=>ka=kb/\k (.i ka (if b > a then b else a)) Z
  | _,_=>False
 | .Ot x y=>wv (ev env x) fun vx=>wv (ev env y) fun vy=>match vx,vy with
  | .i ka a,.i kb b=>ka=kb/\k (.i ka (if b<a then b else a)) Z
  | _,_=>False
 | .extract i x=>wv (ev env x) fun vx=>match vx with| .t vs=>(match vs[i]? with|some v=>k v Z|none=>False)|_=>False
 | .Di x=>wv (ev env x) fun vx=>match vx with
  | .p n off=>k (.p n off) Z
  | .rp cs=>k (.rp cs) Z
  | .pe n sz i off=>k (.pe n sz i off) Z
  | .f (.func f) first cap=>k (.f (.func f) first cap) Z
  | .f (.yield l) first cap=>k (.f (.yield l) first cap) Z
  | _=>False
 | .TR f first cap=>ws (Oh env first) fun vf=>ws (Oh env cap) fun vc=>k (.f f vf vc) Z
 | .J3 t x=>wv (ev env x) fun vx=>k (.De t vx) Z
 | .Un t z ok x=>wv (ev env x) fun vx=>match vx with
  | .De t' v=>(t'=t->k (bif ok then .t [v,.b true]else v) Z)/\(t'≠t->ok=true/\k (.t [z,.b false]) Z)
  | .C0=>ok=true/\k (.t [z,.b false]) Z
  | _=>False
 | .panic x=>wv (ev env x) fun vx=>match vx with| .De t v=>kp (.De t v) Z|_=>False
 | .call f args=>ws (Oh env args) fun vs=>BD P f vs Z (qk k kp)
 | .Oo len neg x y=>wv (ev env x) fun vx=>wv (ev env y) fun vy=>Ng len neg vx vy fun v=>k v Z
 | .TU kind neg x=>wv (ev env x) fun vx=>Gf kind neg vx fun v=>k v Z
 | .EU sz _ z x y=>wv (ev env x) fun vx=>wv (ev env y) fun vy=>AM Z sz z vx vy k
 | .J2=> ∀n,Z n=none->k (.m n) (BO Z n (.map []))
 | .lookup ks z ok m key=>wv (ev env m) fun vm=>wv (ev env key) fun vk=>AP Z ks z ok vm vk fun v=>k v Z
 | .EI ks m key x=>wv (ev env m) fun vm=>wv (ev env key) fun vk=>wv (ev env x) fun vx=>AT Z ks vm vk vx fun Z'=>k (.t []) Z'
 | .Fa f args=>ws (Oh env args) fun vs=> ∃v,BD P f vs (fun _=>none) (fun r Z'=>r= .ret v/\Z'=fun _=>none)/\k v Z
 | .GS x args=>wv (ev env x) fun vx=>ws (Oh env args) fun vs=>BF P vx vs Z (qk k kp)
 | .inv tab x args=>wv (ev env x) fun vx=>ws (Oh env args) fun vs=>BM P tab vx vs Z (qk k kp)
 | _=>False
end Go.Gl
