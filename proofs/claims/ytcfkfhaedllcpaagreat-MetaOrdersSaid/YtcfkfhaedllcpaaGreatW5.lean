import Derived.Laws.MakeOwn
import Derived.ChangeKeysEq
import Derived.Laws.StructEq
import Derived.Laws.BytesArg
import Derived.Test.YtcfkfhaedllcpaaGreatW4
set_option linter.all false
set_option linter.defProp false
set_option maxHeartbeats 8000000
noncomputable section
namespace Go.Gl
variable {P:Program} {F:Nat->Prop} {Z:AE} {w:World} {k kp:V->AE->Prop}
def pd (P:Program) (t:TypeId) (y:Operand):Option Nat:=match P.underlying t,y with
 | some (.pointer _),.const (.pointer none)=>some 0
 | some (.slice _),.const (.slice none _ _)=>some 1
 | some (.interface _),.const .nilIface=>some 2
 | some (.map _ _),.const (.map none)=>some 3
 | some (.func _ _ _),.const .nilFunc=>some 4
 | _,_=>none
def Hc (P:Program):Nat->List Field->Bool
 | _,[]=>true
 | j,f::fs=>isInt P f.type&&(decide (f.name≠ "_")&&(Nat.beq f.offset j&&Hc P (j+1) fs))
def xr (P:Program) (neg:Bool) (t:TypeId) (x y:Operand):Option Fh:=
 match pd P t y with
 | some q=>(BR x).map (.aX q neg)
 | none=>match P.underlying t with
   | some (.array n e)=>if isInt P e&& !P.eqGuardType P.depth t&&Nat.beq (P.cellsOf e) 1 then match BR x,BR y with|some x,some y=>some (.W9 n neg x y)|_,_=>none else none
   | some (.struct fs)=>if Hc P 0 fs.toList&& !P.eqGuardType P.depth t&& !P.stoodInHeld t then match BR x,BR y with|some x,some y=>some (.W9 fs.size neg x y)|_,_=>none else none
   | _=>none
def eN (P:Program):Op->Option Fh
 | .binOp op t x y _=>match op with
   | .eql=>xr P false t x y
   | .neq=>xr P true t x y
   | _=>none
 | .makeSlice t l c=>match P.underlying t with
   | some (.slice e)=>match Kh (zeroOf P e),P.info? e,BR l,BR c with
     | some z,some i,some l,some c=>if z.length=i.size/\0<i.size/\i.bytes<=4096 then some (.Fp i.size i.bytes z l c)else none
     | _,_,_,_=>none
   | _=>none
 | .index t x i=>match P.underlying t with
   | some .string=>match BR x,BR i with|some x,some i=>some (.Uk x i)|_,_=>none
   | _=>none
 | .convert s d x=>match P.underlying s,P.underlying d with
   | some (.slice e),some .string=>match P.underlying e with
     | some (.int .u8)=>(BR x).map .str
     | _=>none
   | _,_=>none
 | .buildSlice t 0 parts=>match P.underlying t with
   | some (.slice e)=>match D6 P e,parts.toList with
     | some _,[]=>some (.Di 1 0 [] [])
     | _,_=>none
   | _=>none
 | _=>none
def RN {t e:TypeId} {z:List V} {i:TypeInfo} (hu:P.underlying t=some (.slice e)) (hz:Kh (zeroOf P e)=some z) (hi:P.info? e=some i) (hs:z.length=i.size/\0<i.size/\i.bytes<=4096)
    {vl vc:V} {cl cc:Value} (hR:Rel F Z w) (hl:Ab (Hh F Z w) vl cl) (hc:Ab (Hh F Z w) vc cc) (h:AK Z i.size z vl vc k):CW F Z w k kp ((Instr.makeSlice t cl cc).run P w):=by
 unfold AK at h;split at h
 .rename_i kl n kc m
  obtain⟨h0,hnm,hm,hk⟩:=h;obtain⟨rfl,_⟩:=hl;obtain⟨rfl,_⟩:=hc;obtain⟨v,hz1,hz2⟩:=GM hz;obtain⟨zc,hz3,hz4⟩:=EM hz1 w;obtain⟨h5,h6⟩:=Cs (Ga (H:=Hh F Z w) hz4) hz2
  have hiz:i.zero=some zc:=by
   cases hq:i.zero with
   | none=>simp[zeroValue,typeInfo,hi,hq]at hz3
   | some q=>simp[zeroValue,typeInfo,hi,hq]at hz3;rw[hz3]
  have hb:(i.bytes:Int)*m<=281474976710656:=by
   have h1:(i.bytes:Int)*m<=4096*m:=Int.mul_le_mul_of_nonneg_right (by have:=hs.2.2;omega) (by omega);have h2:m<=1073741824:=hm;omega
  rw[run_make w t e i zc hu hi hiz kl kc n m h0 hnm hb (by omega)];have hlen:(List.replicate n.toNat z).length=n.toNat:=by simp
  refine⟨_,_,hk w.heap.size hR.new,?_,HZ hR ?_,Dw _ _⟩
  .exact⟨rfl,by omega⟩
  .refine⟨_,_,rfl,by simp[madeCells],by simp only[hlen];omega,by simp only[hlen,AY]at *;omega,?_⟩
   have hrow:=BE.1 (JO hs.1 (by omega) h6 m.toNat);refine BE.2 fun j e hj=>hrow j e ?_
   rw[List.getElem?_replicate]at hj ⊢;split at hj
   .rw[if_pos (by omega)];exact hj
   .cases hj
 .exact h.elim
def aj (op:BinOp):Bool:=match op with| .neq=>true|_=>false
def JM {t:TypeId} (op:BinOp) (hop:op= .eql\/op= .neq) (x y:Operand) {cx cy:Value} (hg:(eqGuard op t x y cx cy).run P w= .ok () w)
    (hb:binOp op t cx cy=if op= .eql then(do pure (.bool (<-Op.equal t cx cy)))else(do pure (.bool (!(<-Op.equal t cx cy))))) {r:Bool} (he:(Op.equal t cx cy).run P w= .ok r w) (hR:Rel F Z w)
    (h:k (.b (bif aj op then !r else r)) Z):CW F Z w k kp ((do eqGuard op t x y cx cy;binOp op t cx cy:Sem Value).run P w):=by
 simp only[DG,hg,GS];rw[hb];rcases hop with rfl|rfl
 .simp only[if_true,DG,he,GS,Ej]
  exact As hR h rfl
 .simp only[reduceCtorEq,if_false,DG,he,GS,Ej]
  exact As hR h rfl
section nils
variable {t:TypeId} (d:Nat)
def qi {e:TypeId} (hu:P.underlying t=some (.pointer e)):(Op.equalIn (d+1) t (.pointer none) (.pointer none)).run P w= .ok true w:=by simp only[Op.equalIn,DG,BI hu,Result.andThen,Ej];rfl
def qh {e:TypeId} {a:Addr} (hu:P.underlying t=some (.pointer e)):(Op.equalIn (d+1) t (.pointer (some a)) (.pointer none)).run P w= .ok false w:=by simp only[Op.equalIn,DG,BI hu,Result.andThen,Ej]
def qg {e:TypeId} {l c l' c':Nat} (hu:P.underlying t=some (.slice e)):(Op.equalIn (d+1) t (.slice none l c) (.slice none l' c')).run P w= .ok true w:=by simp only[Op.equalIn,DG,BI hu,Result.andThen,Ej];rfl
def fQ {e:TypeId} {a:Addr} {l c l' c':Nat} (hu:P.underlying t=some (.slice e)):(Op.equalIn (d+1) t (.slice (some a) l c) (.slice none l' c')).run P w= .ok false w:=by simp only[Op.equalIn,DG,BI hu,Result.andThen,Ej]
def qn {m:Array (String×TypeId)} (hu:P.underlying t=some (.interface m)):(Op.equalIn (d+1) t .nilIface .nilIface).run P w= .ok true w:=by simp only[Op.equalIn,DG,BI hu,Result.andThen,Ej]
def qm {m:Array (String×TypeId)} {u:TypeId} {v:Value} (hu:P.underlying t=some (.interface m)):(Op.equalIn (d+1) t (.iface u v) .nilIface).run P w= .ok false w:=by simp only[Op.equalIn,DG,BI hu,Result.andThen,Ej]
def ql {a b:TypeId} (hu:P.underlying t=some (.map a b)):(Op.equalIn (d+1) t (.map none) (.map none)).run P w= .ok true w:=by simp only[Op.equalIn,DG,BI hu,Result.andThen,Ej];rfl
def qj {a b:TypeId} {n:Nat} (hu:P.underlying t=some (.map a b)):(Op.equalIn (d+1) t (.map (some n)) (.map none)).run P w= .ok false w:=by simp only[Op.equalIn,DG,BI hu,Result.andThen,Ej]
def qp {a b:Array TypeId} {v:Bool} (hu:P.underlying t=some (.func a b v)):(Op.equalIn (d+1) t .nilFunc .nilFunc).run P w= .ok true w:=by simp only[Op.equalIn,DG,BI hu,Result.andThen,Ej]
def qo {a b:Array TypeId} {v:Bool} {fn:Fn} {f' c':Array Value} (hu:P.underlying t=some (.func a b v)):(Op.equalIn (d+1) t (.func fn f' c') .nilFunc).run P w= .ok false w:=by simp only[Op.equalIn,DG,BI hu,Result.andThen,Ej]
end nils
def cO {t : TypeId} {q:Nat} (op:BinOp) (hop:op= .eql\/op= .neq) (x y:Operand) {cy:Value} (hq:pd P t y=some q) (hy: ∀c,y= .const c->cy=c) (hR:Rel F Z w) {vx:V} {cx:Value}
    (hx:Ab (Hh F Z w) vx cx) (h:Iz q (aj op) vx fun v=>k v Z):CW F Z w k kp ((do eqGuard op t x y cx cy;binOp op t cx cy:Sem Value).run P w):=by
 have fin: ∀ {r:Bool},(eqGuard op t x y cx cy).run P w= .ok () w->(binOp op t cx cy=if op= .eql then(do pure (.bool (<-Op.equal t cx cy)))else(do pure (.bool (!(<-Op.equal t cx cy)))))->(Op.equalIn 10000 t cx cy).run P w= .ok r w->
  k (.b (bif aj op then !r else r)) Z->CW F Z w k kp ((do eqGuard op t x y cx cy;binOp op t cx cy:Sem Value).run P w):=fun hg hb he hk=>JM op hop x y hg hb he hR hk
 unfold pd at hq;split at hq<;>first|(cases hq;done)|skip
 all_goals
  cases hq;have hc:=hy _ rfl;subst hc
 .rename_i hu
  unfold Iz at h;split at h<;>first|exact h.elim|(rename_i h0;cases h0;done)|skip
  .simp only[Ab]at hx;subst hx
   refine fin (r:=true) ?_ ?_ (qi 9999 hu) ?_
   .unfold eqGuard;rcases hop with rfl|rfl<;>rfl
   .rcases hop with rfl|rfl<;>rfl
   .rcases hop with rfl|rfl<;>exact h
  all_goals
   first|(obtain⟨b,o,rfl,_⟩:=hx)|(simp only[Ab]at hx;subst hx)
   refine fin (r:=false) ?_ ?_ (qh 9999 hu) ?_
   .unfold eqGuard;rcases hop with rfl|rfl<;>rfl
   .rcases hop with rfl|rfl<;>rfl
   .rcases hop with rfl|rfl<;>exact h
 .rename_i hu
  unfold Iz at h;split at h<;>first|exact h.elim|(rename_i h0;cases h0;done)|skip
  .obtain⟨rfl,_⟩:=hx
   refine fin (r:=false) ?_ ?_ (fQ 9999 hu) ?_
   .unfold eqGuard;rcases hop with rfl|rfl<;>rfl
   .rcases hop with rfl|rfl<;>rfl
   .rcases hop with rfl|rfl<;>exact h
  .rename_i es f _
   obtain⟨a,cap,rfl,h1,h2,h3,h4,h5⟩:=hx;cases a with
   | none=>
     refine fin (r:=true) ?_ ?_ (qg 9999 hu) ?_
     .unfold eqGuard;rcases hop with rfl|rfl<;>rfl
     .rcases hop with rfl|rfl<;>rfl
     .have:es= []:=by
       have:=h4 rfl;exact Yh.1 (by omega)
      exact h.1 this _
   | some a=>
     refine fin (r:=false) ?_ ?_ (fQ 9999 hu) ?_
     .unfold eqGuard;rcases hop with rfl|rfl<;>rfl
     .rcases hop with rfl|rfl<;>rfl
     .by_cases he:es= []
      .exact h.1 he _
      .rcases hop with rfl|rfl<;>exact h.2 he
 .rename_i hu
  unfold Iz at h;split at h<;>first|exact h.elim|(rename_i h0;cases h0;done)|skip
  .simp only[Ab]at hx;subst hx
   refine fin (r:=true) ?_ ?_ (qn 9999 hu) ?_
   .unfold eqGuard;rcases hop with rfl|rfl<;>simp
   .rcases hop with rfl|rfl<;>rfl
   .rcases hop with rfl|rfl<;>exact h
  .obtain⟨c',rfl,_⟩:=hx
   refine fin (r:=false) ?_ ?_ (qm 9999 hu) ?_
   .unfold eqGuard;rcases hop with rfl|rfl<;>rfl
   .rcases hop with rfl|rfl<;>rfl
   .rcases hop with rfl|rfl<;>exact h
 .rename_i hu
  unfold Iz at h;split at h<;>first|exact h.elim|(rename_i h0;cases h0;done)|skip
  .simp only[Ab]at hx;subst hx
   refine fin (r:=true) ?_ ?_ (ql 9999 hu) ?_
   .unfold eqGuard;rcases hop with rfl|rfl<;>rfl
   .rcases hop with rfl|rfl<;>rfl
   .rcases hop with rfl|rfl<;>exact h
  .simp only[Ab]at hx;subst hx
   refine fin (r:=false) ?_ ?_ (qj 9999 hu) ?_
   .unfold eqGuard;rcases hop with rfl|rfl<;>rfl
   .rcases hop with rfl|rfl<;>rfl
   .rcases hop with rfl|rfl<;>exact h
 .rename_i hu
  unfold Iz at h;split at h<;>first|exact h.elim|(rename_i h0;cases h0;done)|skip
  .simp only[Ab]at hx;subst hx
   refine fin (r:=true) ?_ ?_ (qp 9999 hu) ?_
   .unfold eqGuard;rcases hop with rfl|rfl<;>rfl
   .rcases hop with rfl|rfl<;>rfl
   .rcases hop with rfl|rfl<;>exact h
  .obtain⟨f',c',rfl,_⟩:=hx
   refine fin (r:=false) ?_ ?_ (qo 9999 hu) ?_
   .unfold eqGuard;rcases hop with rfl|rfl<;>rfl
   .rcases hop with rfl|rfl<;>rfl
   .rcases hop with rfl|rfl<;>exact h
def OE {d : Nat} {e:TypeId} {ki:IntKind} (hue:P.underlying e=some (.int ki)) {xs ys:Array Value} {H:Nat->Nat->Option Value}: ∀(cs ds:List V) (j:Nat) (r:Bool),
    BT H (fun i=>xs[i]?) j cs->BT H (fun i=>ys[i]?) j ds->Bo cs ds=some r->(Op.eqItems (d+1) e 1 xs ys (List.range' j cs.length)).run P w= .ok r w
 | [],ds,j,r,_,_,h=>by
   cases ds with
   | nil=>simp only[Bo,Hl]at h;subst h;rfl
   | cons _ _=>simp[Bo]at h
 | c ::cs,ds,j,r,hx,hy,h=>by
   cases ds with
   | nil=>cases c<;>simp[Bo]at h
   | cons q ds=>
     cases c<;>first|(simp[Bo]at h;done)|skip
     cases q<;>first|(simp[Bo]at h;done)|skip
     rename_i k a k' b;simp only[Bo]at h;split at h
     .rename_i hk
      subst hk;obtain⟨⟨cx,h1,⟨rfl,_⟩⟩,h2⟩:=hx;obtain⟨⟨cy,h3,⟨rfl,_⟩⟩,h4⟩:=hy;obtain⟨r',h5,h6⟩:=Ag h;have hp:P.plainKey e=true:=by simp[Program.plainKey,hue]
      simp only[LF,List.range'_succ,Op.eqItems,Nat.mul_one,DG,run_part_plain w hp h1,run_part_plain w hp h3,GS,run_equalIn_int w d e _ ki a b hue];have ih:=OE (d:=d) hue cs ds (j+1) r' h2 h4 h5;cases hab:(a==b)
      .rw[hab]at h6
       simp only[Bool.false_and]at h6;subst h6;simp
      .rw[hab]at h6
       simp only[G7]at h6;subst h6;simpa using ih
     .cases h
def cP {t e:TypeId} {n:Nat} (op:BinOp) (hop:op= .eql\/op= .neq) (x y:Operand) (hu:P.underlying t=some (.array n e)) (he:isInt P e=true) (hg:P.eqGuardType P.depth t=false) (h1:P.cellsOf e=1) (hR:Rel F Z w) {vx vy:V} {cx cy:Value}
    (hx:Ab (Hh F Z w) vx cx) (hy:Ab (Hh F Z w) vy cy) (h:TD n (aj op) vx vy fun v=>k v Z):CW F Z w k kp ((do eqGuard op t x y cx cy;binOp op t cx cy:Sem Value).run P w):=by
 unfold TD at h;split at h
 .rename_i cs ds
  obtain⟨xs,rfl,h2,h3⟩:=hx;obtain⟨ys,rfl,h4,h5⟩:=hy;split at h
  .rename_i r hl hr
   have hl:cs.length=n:=UX hl;obtain⟨ki,hki⟩:=Rq he;have hi: ∃i,P.info? e=some i:=info_of_underlying hki;obtain⟨i,hi⟩:=hi;refine JM op hop x y (r:=r) (run_eqGuard_agg w op t x y xs ys hg) ?_ ?_ hR h
   .rcases hop with rfl|rfl<;>rfl
   .show(Op.equalIn (9999+1) t (.agg xs) (.agg ys)).run P w= .ok r w
    rw[run_equalIn_array w 9999 xs ys hu hi,h1,List.range_eq_range',<-hl];exact OE (d:=9998) hki cs ds 0 r h3 h5 hr
  .exact h.elim
 .exact h.elim
def MW {d : Nat} {xs ys:Array Value} {H:Nat->Nat->Option Value}: ∀(fs:List Field) (cs ds:List V) (j:Nat) (r:Bool),Hc P j fs=true->cs.length=fs.length->
    BT H (fun i=>xs[i]?) j cs->BT H (fun i=>ys[i]?) j ds->Bo cs ds=some r->(Op.eqFields (d+1) xs ys fs).run P w= .ok r w
 | [],cs,ds,j,r,_,hl,_,_,h=>by
   cases cs with
   | cons _ _=>cases hl
   | nil=>
     cases ds with
     | nil=>simp only[Bo,Hl]at h;subst h;rfl
     | cons _ _=>simp[Bo]at h
 | f ::fs,cs,ds,j,r,hf,hl,hx,hy,h=>by
   cases cs with
   | nil=>cases hl
   | cons c cs=>
   cases ds with
   | nil=>cases c<;>simp[Bo]at h
   | cons q ds=>
     cases c<;>first|(simp[Bo]at h;done)|skip
     cases q<;>first|(simp[Bo]at h;done)|skip
     rename_i k a k' b;simp only[Bo]at h;split at h
     .rename_i hk
      subst hk;simp only[Hc,BD,CN]at hf;obtain⟨f1,f2,f3,f4⟩:=hf;obtain⟨ki,hue⟩:=Rq f1;have f3:=UX f3;obtain⟨⟨cx,h1,⟨rfl,_⟩⟩,h2⟩:=hx;obtain⟨⟨cy,h3,⟨rfl,_⟩⟩,h4⟩:=hy;obtain⟨r',h5,h6⟩:=Ag h;have hp:P.plainKey f.type=true:=by simp[Program.plainKey,hue]
      simp only[Op.eqFields];rw[if_pos f2,f3];simp only[DG,run_part_plain w hp h1,run_part_plain w hp h3,GS,run_equalIn_int w d f.type _ ki a b hue];have ih:=MW (d:=d) fs cs ds (j+1) r' f4 (by simpa using hl) h2 h4 h5;cases hab:(a==b)
      .rw[hab]at h6
       simp only[Bool.false_and]at h6;subst h6;simp
      .rw[hab]at h6
       simp only[G7]at h6;subst h6;simpa using ih
     .cases h
def cN {t:TypeId} {fs:Array Field} (op:BinOp) (hop:op= .eql\/op= .neq) (x y:Operand) (hu:P.underlying t=some (.struct fs)) (he:Hc P 0 fs.toList=true) (hg:P.eqGuardType P.depth t=false) (h1:P.stoodInHeld t=false) (hR:Rel F Z w) {vx vy:V} {cx cy:Value}
    (hx:Ab (Hh F Z w) vx cx) (hy:Ab (Hh F Z w) vy cy) (h:TD fs.size (aj op) vx vy fun v=>k v Z):CW F Z w k kp ((do eqGuard op t x y cx cy;binOp op t cx cy:Sem Value).run P w):=by
 unfold TD at h;split at h
 .rename_i cs ds
  obtain⟨xs,rfl,h2,h3⟩:=hx;obtain⟨ys,rfl,h4,h5⟩:=hy;split at h
  .rename_i r hl hr
   have hl:cs.length=fs.size:=UX hl;have hfs:P.fieldsOf t=fs:=by simp[Program.fieldsOf,hu]
   refine JM op hop x y (r:=r) (run_eqGuard_agg w op t x y xs ys hg) ?_ ?_ hR h
   .rcases hop with rfl|rfl<;>rfl
   .show(Op.equalIn (9999+1) t (.agg xs) (.agg ys)).run P w= .ok r w
    rw[run_equalIn_struct w 9999 t xs ys (by rw[hfs];exact hu) h1,hfs];exact MW (d:=9998) fs.toList cs ds 0 r he (by simpa using hl) h3 h5 hr
  .exact h.elim
 .exact h.elim
def QH: ∀ {ys:List (List V)} {ns:List Int},FF ys=some ns->ns.length=ys.length/\ ∀(i:Nat) (n:Int),ns[i]? =some n->ys[i]? =some [V.i .u8 n]
 | [],ns,h=>by
   cases h;exact⟨rfl,fun _ _ h=>by simp at h⟩
 | e ::r,ns,h=>by
   unfold FF at h;split at h
   .cases ‹_= []›
   .rename_i n r' he
    cases he;split at h
    .rename_i l hl
     cases h;obtain⟨h1,h2⟩:=QH hl;refine⟨by simp[h1],fun i m hi=>?_⟩;cases i with
     | zero=>simp at hi;subst hi;rfl
     | succ i=>exact h2 i m (by simpa using hi)
    .cases h
   .cases h
def cK {s d e:TypeId} (hs:P.underlying s=some (.slice e)) (hd:P.underlying d=some .string) (he:P.underlying e=some (.int .u8)) (hR:Rel F Z w) {vx:V} {cx:Value} (hx:Ab (Hh F Z w) vx cx) (h:dv Z vx fun v=>k v Z) :
    CW F Z w k kp ((convert s d cx).run P w):=by
 obtain⟨ys,base,cap,U,rfl,_,hc⟩:=Kt hR hx h;cases hn:FF ys with
 | none=>rw[hn]at U;exact U.elim
 | some ns=>
   rw[hn]at U;obtain⟨h1,h2⟩:=QH hn
   have fin:(convert s d (.slice base ys.length cap)).run P w= .ok (.string ⟨(ns.map fun n=>UInt8.ofNat n.toNat).toArray⟩) w->CW F Z w k kp ((convert s d (.slice base ys.length cap)).run P w):=fun e=>by
    rw[e];exact As hR U rfl
   have nilB: ∀ {l c:Nat},ys= []->(convert s d (.slice none l c)).run P w= .ok (.string ⟨(ns.map fun n=>UInt8.ofNat n.toNat).toArray⟩) w:=fun e=>by
    subst e;simp only[FF,Hl]at hn;subst hn;exact run_convert_bytes_nil w s e hs he _ _ d hd
   have main: ∀ {b o:Nat} {g:Nat->Option Value},base=some ⟨b,o,none⟩->(∀i c,g i=some c->w.cell? ⟨b,i,none⟩=some c)->BH (Hh F Z w) g 1 o ys->(convert s d (.slice base ys.length cap)).run P w= .ok (.string ⟨(ns.map fun n=>UInt8.ofNat n.toNat).toArray⟩) w:=fun {b o g} hb hg hr=>by
    subst hb;refine run_convert_bytes_arg w s e hs he b o ys.length cap ns h1 (fun i hi=>?_) d hd;have hi':i<ns.length:=by omega
    have h3:=h2 i ns[i] (Cy hi');obtain⟨_,h4⟩:=BE.1 hr i _ h3;simp only[BT]at h4;obtain⟨⟨c,h5,h6⟩,_⟩:=h4;obtain⟨rfl,_⟩:=h6;have:=hg _ _ h5;simp only[Nat.mul_one]at this;rw[this];simp[List.getD,Cy hi']
   refine fin ?_;rcases hc with hc|⟨b,o,g,hb,hg,hr⟩
   .cases base with
    | none=>exact nilB hc
    | some a=>
      subst hc;simp only[FF,Hl]at hn;subst hn;rw[run_convert_bytes_string w s d e _ _ cap hs he hd];exact run_bytesToString w a 0 cap [] (by unfold loadCells loadCellsFrom;rfl)
   .exact main hb hg hr
def YC {t:TypeId} (hu:P.underlying t=some .string) (hR:Rel F Z w) {vx vi:V} {cx ci:Value} (hx:Ab (Hh F Z w) vx cx) (hi:Ab (Hh F Z w) vi ci) (h:PE vx vi fun v=>k v Z):CW F Z w k kp ((Instr.index t cx ci).run P w):=by
 unfold PE at h;split at h
 .rename_i b ki j
  obtain⟨h0,h⟩:=h;have hx':cx= .string b:=hx;subst hx';obtain⟨rfl,_⟩:=hi;split at h
  .rename_i c hc
   have hb:b[j.toNat]? =some c:=by
    rw[Array.getElem?_toList]at hc;obtain⟨h1,h2⟩:=nq.1 hc;rw[getElem?_pos b j.toNat h1];exact congrArg some h2
   simp only[Instr.index,DG,asIntOf,Ej,Result.andThen,BI hu,h0,if_true,hb];have:=UInt8.toNat_lt c;exact As hR h ⟨rfl,by simp only[IntKind.min,IntKind.max,IntKind.signed,IntKind.bits];simp<;>omega⟩
  .exact h.elim
 .exact h.elim
def WW {env : Env} {a:Act} {o:Oper} {ao:Fh} (ho:eN P o.op=some ao) (h:FQ P ao env Z k kp) (he:CD (Hh F Z w) env a.tmps) (hR:Rel F Z w) :
    Good P F Z w k kp ((execOp a.eval o).run P w):=by
 have heq: ∀ {op:BinOp} {t yt:TypeId} {x y:Operand},(op= .eql\/op= .neq)->xr P (aj op) t x y=some ao->o.op= .binOp op t x y yt->Good P F Z w k kp ((execOp a.eval o).run P w):=fun {op t yt x y} hop hr hoo=>by
  unfold execOp;rw[hoo];dsimp only;unfold xr at hr;split at hr
  .rename_i q hq
   obtain⟨x',hx,rfl⟩:=Ag hr;obtain⟨vx,h1,h2⟩:=Ai h;exact Az (cO op hop x y hq (fun c hc=>by rw[hc];rfl) hR (An he hx h1) h2)
  .split at hr
   .rename_i n e hu
    split at hr
    .rename_i hc
     simp only[BD,Bool.not_eq_true']at hc;split at hr
     .rename_i x' y' hx hy
      cases hr;obtain⟨vx,h1,g⟩:=Ai h;obtain⟨vy,h2,h3⟩:=Ai g;exact Az (cP op hop x y hu hc.1.1 hc.1.2 (UX hc.2) hR (An he hx h1) (An he hy h2) h3)
     .cases hr
    .cases hr
   .rename_i fs hu
    split at hr
    .rename_i hc
     simp only[BD,Bool.not_eq_true']at hc;split at hr
     .rename_i x' y' hx hy
      cases hr;obtain⟨vx,h1,g⟩:=Ai h;obtain⟨vy,h2,h3⟩:=Ai g;exact Az (cN op hop x y hu hc.1.1 hc.1.2 hc.2 hR (An he hx h1) (An he hy h2) h3)
     .cases hr
    .cases hr
   .cases hr
 unfold eN at ho;split at ho
 .rename_i op t x y yt hop
  split at ho
  .exact heq (.inl rfl) ho hop
  .exact heq (.inr rfl) ho hop
  .cases ho
 .rename_i t l c hop
  split at ho
  .rename_i e hu
   split at ho
   .rename_i z i l' c' hz hi hl hc
    split at ho
    .rename_i hs
     cases ho;obtain⟨vl,h1,g⟩:=Ai h;obtain⟨vc,h2,h3⟩:=Ai g;unfold execOp;rw[hop];dsimp only;exact Az (RN hu hz hi hs hR (An he hl h1) (An he hc h2) h3)
    .cases ho
   .cases ho
  .cases ho
 .rename_i t x i hop
  split at ho
  .rename_i hu
   split at ho
   .rename_i x' i' hx hi
    cases ho;obtain⟨vx,h1,g⟩:=Ai h;obtain⟨vi,h2,h3⟩:=Ai g;unfold execOp;rw[hop];exact Az (YC hu hR (An he hx h1) (An he hi h2) h3)
   .cases ho
  .cases ho
 .rename_i s d x hop
  split at ho
  .rename_i e hs hd
   split at ho
   .rename_i he8
    obtain⟨x',hx,rfl⟩:=Ag ho;obtain⟨vx,h1,h2⟩:=Ai h;unfold execOp;rw[hop];exact Az (cK hs hd he8 hR (An he hx h1) h2)
   .cases ho
  .cases ho
 .rename_i t parts hop
  split at ho
  .rename_i e hu
   split at ho
   .rename_i sz hsz hp
    cases ho;simp only[FQ]at h;obtain⟨fs,h1,h3⟩:=Y5 h;simp only[I8,List.replicate,Hl]at h1;subst h1
    have hps:parts= #[]:=by
     cases parts;simp at hp;rw[hp]
    subst hps;unfold execOp;rw[hop];dsimp only
    have hrun:(Instr.buildSlice t 0 ((#[]:Array (Nat×Operand)).map fun(i,x)=>(i,a.eval x))).run P w= .ok (.slice (some ⟨w.heap.size,0,none⟩) 0 0) (w.alloc (.cells #[] e)):=by
     unfold Instr.buildSlice;have hns: ¬0 > 2 ^ 24:=by omega
     simp only[DG,BI hu,GS,EA hsz,Nat.zero_mul,hns,if_false,if_true,Ej];have hz: ∀g:Nat->Value,(Array.range 0).map g= #[]:=fun g=>by simp[Array.range]
     rw[hz];simp only[List.map_toArray,List.map_nil,Instr.fill];rfl
    refine Az ?_;rw[hrun];exact⟨_,Z,h3,⟨_,0,rfl,Io _,fun _=>rfl,Nat.zero_le _,fun h=>(by cases h),fun h=>absurd rfl h⟩,Ku hR _,II w _⟩
   .cases ho
  .cases ho
 .cases ho
def pY (P:Program) (o:Op):Option Fh:=match yH P o with|some a=>some a|none=>eN P o
def X0 {env:Env} {a:Act} {o:Oper} {ao:Fh} (ho:pY P o.op=some ao) (h:FQ P ao env Z k kp) (he:CD (Hh F Z w) env a.tmps) (hR:Rel F Z w) :
    Good P F Z w k kp ((execOp a.eval o).run P w):=by
 unfold pY at ho;split at ho
 .rename_i h';cases ho;exact bY h' h he hR
 .exact WW ho h he hR
end Go.Gl
