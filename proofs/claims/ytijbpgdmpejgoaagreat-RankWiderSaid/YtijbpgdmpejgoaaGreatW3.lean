import Derived.DeepKeys3
import Derived.StringKeys
import Derived.WalkKit
import Derived.ProofKit
import Derived.OpenShut
import Derived.Test.YtijbpgdmpejgoaaGreatW2
set_option linter.all false
set_option linter.defProp false
noncomputable section
namespace Go.Gl
variable {P:Program} {Λ:Nat→Prop} {σ:AH} {w:World} {k kp:V→AH→Prop}
structure KL (P:Program) (kt:TypeId) (ok:Value→Prop):Prop where
 check: ∀(w:World) (em:Bool) {v:Value},ok v→(Instr.checkKey em 10000 kt v).run P w= .ok () w
 find: ∀(w:World) {x:Value},ok x→ ∀es:List MapEntry,(∀e∈es,ok e.key)→
  ((Instr.findKey kt x es).run P w= .ok none w∧ ∀e∈es,e.key≠x)∨ ∃j e,(Instr.findKey kt x es).run P w= .ok (some (j,e.val)) w∧es[j]? =some e∧e.key=x
 stays: ∀(w:World) {v:Value},ok v→(Instr.keyThatStays v v).run P w= .ok v w
def KL.of_law {kt:TypeId} (K:WideMaps.KeyLaw P kt):KL P kt fun v=> ∃l,keyOf P kt v=some l where
 check w em _ h:=let⟨_,h⟩:=h;K.check w em h
 find w _ h es hes:=let⟨_,h⟩:=h;K.find w h es hes
 stays w _ h:=let⟨_,h⟩:=h;K.stays w h
def MJ {q:IntKind} {ki:IntKind} (a:Int): ∀(es:List MapEntry) (i:Nat),(∀e∈es,∃b,e.key= .int ki b)→
    (Instr.findNow (.int q) (.int ki a) es i=some none∧ ∀e∈es,e.key≠ .int ki a)∨ ∃j e,Instr.findNow (.int q) (.int ki a) es i=some (some (i+j,e.val))∧es[j]? =some e∧e.key= .int ki a
 | [],i,_=> .inl ⟨rfl,by simp⟩
 | e ::es,i,h=>by
   obtain⟨b,hb⟩:=h e (.head _);simp only[Instr.findNow,hb,Instr.sameNow,if_true];by_cases hab:a=b
   ·subst hab
    refine .inr ⟨0,e,by simp,rfl,hb⟩
   ·have:(a==b)=false:=by simpa using hab
    rw[this];rcases MJ a es (i+1) (fun e he=>h e (.tail _ he))with⟨h1,h2⟩|⟨j,e',h1,h2,h3⟩
    ·refine .inl ⟨h1,fun e' he'=>?_⟩
     rcases FE.1 he' with rfl|he'
     ·rw[hb];intro e;cases e;exact hab rfl
     ·exact h2 e' he'
    ·exact .inr ⟨j+1,e',by rw[h1,show i+1+j=i+(j+1) by omega],h2,h3⟩
def Ya {kt:TypeId} {q:IntKind} (hu:P.underlying kt=some (.int q)) (em:Bool) (n:Nat) (ki:IntKind) (b:Int):(Instr.checkKey em (n+1) kt (.int ki b)).run P w= .ok () w:=by
 simp only[Instr.checkKey,DK,BK hu,GJ,Eh]
def KL.int {kt:TypeId} {q:IntKind} (hu:P.underlying kt=some (.int q)) (ki:IntKind):KL P kt fun v=> ∃b,v= .int ki b where
 check w em v h:=by
  obtain⟨b,rfl⟩:=h;exact Ya hu em 9999 ki b
 find w x h es hes:=by
  obtain⟨b,rfl⟩:=h;unfold Instr.findKey;simp only[DK,BK hu,GJ];rcases MJ (q:=q) b es 0 hes with⟨h1,h2⟩|⟨j,e,h1,h2,h3⟩
  ·exact .inl ⟨by rw[h1];rfl,h2⟩
  ·exact .inr ⟨j,e,by rw[h1,Gf];rfl,h2,h3⟩
 stays w v h:=by
  obtain⟨b,rfl⟩:=h;unfold Instr.keyThatStays;have:Instr.sameBits 10000 (.int ki b) (.int ki b)=true:=by simp[Instr.sameBits]
  rw[this];rfl
def Ints (cs cs':List Value):Prop:=cs.length=cs'.length∧ ∀(i:Nat) (a:Value),cs[i]? =some a→ ∃(q:IntKind) (n m:Int),a=Value.int q n∧cs'[i]? =some (Value.int q m)∧(Lit.int q m).wf=true
def Ints.part {cs cs':List Value} (h:Ints cs cs') (o n:Nat):Ints ((cs.drop o).take n) ((cs'.drop o).take n):=by
 refine⟨by simp[h.1],fun i a ha=>?_⟩;rw[List.getElem?_take]at ha ⊢;split at ha
 ·rename_i hi
  rw[if_pos hi];rw[cQ]at ha ⊢;exact h.2 _ _ ha
 ·cases ha
def Q7 {α β:Type} {f g:α→Option β}: ∀ {l:List α} {ys:List β},(∀x∈l,∀y,f x=some y→ ∃y',g x=some y')→l.mapM f=some ys→ ∃ys',l.mapM g=some ys'
 | [],_,_,_=>⟨[],by simp⟩
 | x::l,ys,h,hm=>by
   rw[List.mapM_cons]at hm;simp only[bind,Option.bind_eq_some_iff,pure,Hp]at hm;obtain⟨y,h1,ys',h2,rfl⟩:=hm;obtain⟨y',h3⟩:=h x (.head _) y h1;obtain⟨ys'',h4⟩:=Q7 (fun x hx=>h x (.tail _ hx)) h2;exact⟨y'::ys'',by rw[List.mapM_cons];simp[h3,h4]⟩
def Jr: ∀(D:Nat) (t:TypeId) {cs cs':List Value} {l:List Lit},Ints cs cs'→P.keyLits D t cs=some l→ ∃l',P.keyLits D t cs'=some l'
 | 0,_,_,_,_,_,h=>by simp[Program.keyLits]at h
 | D + 1,t,cs,cs',l,hi,h=>by
   unfold Program.keyLits at h ⊢;split at h
   ·rename_i b _
    obtain⟨q,n,m,e,_⟩:=hi.2 0 _ rfl;cases e
   ·rename_i q q' n hu
    obtain⟨q2,n2,m,e,e2,e3⟩:=hi.2 0 _ rfl;cases e;have hl:cs'.length=1:=hi.1.symm
    match cs',hl,e2 with
    | [c],_,e2=>
      simp only[cb,Hp]at e2;subst e2;split at h
      ·rename_i hq
       obtain⟨rfl,_⟩:=hq;simp only[hu];exact⟨_,if_pos ⟨trivial,e3⟩⟩
      ·cases h
   ·obtain⟨q,n,m,e,_⟩:=hi.2 0 _ rfl
    cases e
   ·rename_i n e hu
    simp only[hu];split at h
    ·rename_i hl
     rw[if_pos (by rw[←hi.1];exact hl)];obtain⟨ys,h1,_⟩:=Am h;obtain⟨ys',h2⟩:=Q7 (g:=fun i=>P.keyLits D e ((cs'.drop (i*P.cellsOf e)).take (P.cellsOf e))) (fun i _ y hy=>Jr D e (hi.part _ _) hy) h1;exact⟨_,by rw[h2];rfl⟩
    ·cases h
   ·rename_i fs hu
    simp only[hu];split at h
    ·rename_i hl
     rw[if_pos (by rw[←hi.1];exact hl)];obtain⟨ys,h1,_⟩:=Am h;obtain⟨ys',h2⟩:=Q7 (g:=fun f=>P.keyLits D f.type ((cs'.drop f.offset).take (P.cellsOf f.type))) (fun f _ y hy=>Jr D f.type (hi.part _ _) hy) h1;exact⟨_,by rw[h2];rfl⟩
    ·cases h
   ·cases h
def jT:V→Option IntKind| .i q _=>some q|_=>none
def RC:List V→Option (List IntKind)
 | []=>some []
 | c::cs=>match jT c,RC cs with|some q,some l=>some (q::l)|_,_=>none
def R2 (P:Program) (kt:TypeId):Option KS:=
 match P.underlying kt with
 | some (.int k)=>some (.i k)
 | some .string=>some .s
 | some (.array _ _)|some (.struct _)=>match zeroOf P kt with
   | some (.a cs)=>match RC cs with
     | some l=>if P.keyType kt&&P.keyTypeAt 6 kt&&P.tiled 6 kt&&(P.keyLits (P.types.size+1) kt (l.map fun q=> .int q 0)).isSome&&Nat.beq l.length (P.cellsOf kt)then some (.a l)else none
     | none=>none
   | _=>none
 | _=>none
def Hj {H:Nat→Nat→Option Value} {g:Nat→Option Value}: ∀ {l:List IntKind} {cs:List V} {o:Nat},Ek l cs=true→BZ H g o cs→
    cs.length=l.length∧ ∀(i:Nat) (q:IntKind),l[i]? =some q→ ∃m:Int,cs[i]? =some (.i q m)∧g (o+i)=some (.int q m)∧q.min≤m∧m≤q.max
 | [],[],_,_,_=>⟨rfl,by simp⟩
 | [],_::_,_,h,_=>by simp[Ek]at h
 | q::l,[],_,h,_=>by simp[Ek]at h
 | q ::l,c::cs,o,h,hv=>by
   cases c<;>simp only[Ek,Lu]at h
   rename_i q' n;simp only[BV,CL]at h;obtain⟨rfl,h⟩:=h;obtain⟨⟨c,h1,⟨rfl,h2⟩⟩,h3⟩:=hv;obtain⟨h4,h5⟩:=Hj h h3;refine⟨by simp[h4],fun i q' hq=>?_⟩;cases i with
   | zero=>simp only[cb,Hp]at hq;subst hq;exact⟨n,rfl,h1,h2⟩
   | succ i=>
     obtain⟨m,h6,h7,h8⟩:=h5 i q' (by simpa using hq);exact⟨m,by simpa using h6,by rw[←h7];congr 1;omega,h8⟩
def fv {kt:TypeId} {ks:KS} (h:R2 P kt=some ks): ∃ok,KL P kt ok∧ ∀(H:Nat→Nat→Option Value) (v:V) (c:Value),Bo ks v=true→AY H v c→ok c:=by
 unfold R2 at h
 have agg: ∀(hw:(match P.underlying kt with|some (.array _ _)|some (.struct _)=>true|_=>false)=true),(match zeroOf P kt with
  | some (.a cs)=>match RC cs with
    | some l=>if P.keyType kt&&P.keyTypeAt 6 kt&&P.tiled 6 kt&&(P.keyLits (P.types.size+1) kt (l.map fun q=>Value.int q 0)).isSome&&Nat.beq l.length (P.cellsOf kt)then some (.a l)else none
    | none=>none
  | _=>none)=some ks→ ∃ok,KL P kt ok∧ ∀(H:Nat→Nat→Option Value) (v:V) (c:Value),Bo ks v=true→AY H v c→ok c:=fun hw h=>by
  split at h
  ·split at h
   ·rename_i l _
    split at h
    ·rename_i hc
     cases h;simp only[BV]at hc;obtain⟨⟨⟨⟨c1,c2⟩,c3⟩,c4⟩,c5⟩:=hc;refine⟨_,KL.of_law (deep_law (m:=6) (by omega) c2 c3 hw),fun H v c hv hr=>?_⟩;cases v<;>simp only[Bo,Lu]at hv
     rename_i cs;obtain⟨c',rfl,h1,h2⟩:=hr;obtain⟨h3,h4⟩:=Hj hv h2;have hsz:c'.size=P.cellsOf kt:=by rw[h1,h3];exact Vd c5
     obtain⟨L,hL⟩:=Option.isSome_iff_exists.1 c4
     obtain⟨L',hL'⟩:=Jr (P:=P) (P.types.size+1) kt (cs:=l.map fun q=>Value.int q 0) (cs':=c'.toList) ⟨by simp[h1,h3],fun i a ha=>by
      rw[PF]at ha;obtain⟨q,hq,rfl⟩:=Am ha;obtain⟨m,_,h6,h7⟩:=h4 i q hq
      refine⟨q,0,m,rfl,by simpa using h6,by simpa[Lit.wf]using h7⟩⟩ hL
     have hf:(Value.agg c').formed P kt=true:=by
      unfold Value.formed;split at hw<;>simp_all
     refine⟨.string (keyBytes L'),?_⟩;unfold keyOf;split at hw
     ·rename_i hu;simp only[hu,c1,hf,Bool.and_self,if_true];show Option.map _ (P.keyLits _ kt c'.toList)=_;rw[hL'];rfl
     ·rename_i hu;simp only[hu,c1,hf,Bool.and_self,if_true];show Option.map _ (P.keyLits _ kt c'.toList)=_;rw[hL'];rfl
     ·cases hw
    ·cases h
   ·cases h
  ·cases h
 split at h
 ·rename_i q0 hu
  cases h;refine⟨_,KL.int hu q0,fun H v c hv hr=>?_⟩;cases v<;>simp only[Bo,Lu]at hv
  rename_i q n;obtain⟨rfl,_⟩:=hr;have:=of_decide_eq_true hv;subst this;exact⟨n,rfl⟩
 ·rename_i hu
  cases h;refine⟨_,KL.of_law (WideMaps.string_law hu),fun H v c hv hr=>?_⟩;cases v<;>simp only[Bo,Lu]at hv
  have hr':c= .string _:=hr;subst hr';exact⟨_,WideMaps.keyOf_string_mk hu (Nat.le_trans (Nat.le_of_ble_eq_true hv) (by decide))⟩
 ·rename_i hu;exact agg (by rw[hu]) h
 ·rename_i hu;exact agg (by rw[hu]) h
 ·cases h
def Oe: ∀ {l:List IntKind} {cs ds:List V},Ek l cs=true→Ek l ds=true→ ∃r,CD cs ds=some r∧(r=true↔cs=ds)
 | [],[],[],_,_=>⟨true,rfl,by simp⟩
 | [],_::_,_,h,_=>by simp[Ek]at h
 | [],[],_::_,_,h=>by simp[Ek]at h
 | _::_,[],_,h,_=>by simp[Ek]at h
 | _::_,_::_,[],_,h=>by simp[Ek]at h
 | q ::l,c::cs,d::ds,h,h'=>by
   cases c<;>simp only[Ek,Lu]at h
   cases d<;>simp only[Ek,Lu]at h'
   rename_i k a k' b;simp only[BV,CL]at h h';obtain⟨rfl,h⟩:=h;obtain⟨rfl,h'⟩:=h';obtain⟨r,h1,h2⟩:=Oe h h';refine⟨(a==b)&&r,by simp[CD,h1],?_⟩;rw[BV,h2];constructor
   ·rintro⟨h3,rfl⟩
    rw[show a=b by simpa using h3]
   ·intro e
    cases e;exact⟨by simp,rfl⟩
def P8 {ks:KS} {H:Nat→Nat→Option Value} {x y:V} {c d:Value} (hx:Bo ks x=true) (hy:Bo ks y=true) (hc:AY H x c) (hd:AY H y d):EF x y=true↔c=d:=by
 cases ks with
 | i q=>
   cases x<;>simp only[Bo,Lu]at hx
   cases y<;>simp only[Bo,Lu]at hy
   rename_i k a k' b;obtain⟨rfl,_⟩:=hc;obtain⟨rfl,_⟩:=hd;have h1:=of_decide_eq_true hx;have h2:=of_decide_eq_true hy;subst h1;subst h2;simp[EF]
 | s=>
   cases x<;>simp only[Bo,Lu]at hx
   cases y<;>simp only[Bo,Lu]at hy
   have h1:c= .string _:=hc;have h2:d= .string _:=hd;subst h1;subst h2;simp[EF]
 | a l =>
   cases x<;>simp only[Bo,Lu]at hx
   cases y<;>simp only[Bo,Lu]at hy
   rename_i cs ds;obtain⟨c',rfl,h1,h2⟩:=hc;obtain⟨d',rfl,h3,h4⟩:=hd;obtain⟨r,h5,h6⟩:=Oe hx hy;obtain⟨g1,g2⟩:=Hj hx h2;obtain⟨g3,g4⟩:=Hj hy h4;simp only[EF,h5,Option.getD_some,h6,Value.agg.injEq];constructor
   ·rintro rfl
    refine Array.ext (by omega) fun i hi hj=>?_
    obtain⟨m,a1,a2,_⟩:=g2 i l[i] (DZ (by omega));obtain⟨m',b1,b2,_⟩:=g4 i l[i] (DZ (by omega));rw[a1]at b1;cases b1;simp only[Gf,Array.getElem?_eq_getElem hi,Array.getElem?_eq_getElem hj,Hp]at a2 b2;rw[a2,b2]
   ·rintro rfl
    refine List.ext_getElem? fun i=>?_
    by_cases hi:i<l.length
    ·obtain⟨m,a1,a2,_⟩:=g2 i l[i] (DZ hi)
     obtain⟨m',b1,b2,_⟩:=g4 i l[i] (DZ hi);rw[a2]at b2;cases b2;rw[a1,b1]
    ·rw[List.getElem?_eq_none (by omega),List.getElem?_eq_none (by omega)]
def Q9 {ks:KS} {H:Nat→Nat→Option Value} {key:V} {c x:Value} {val:V} (hk:Bo ks key=true) (hc:AY H key c) (hx:AY H val x) (clk:Nat): ∀ {kvs:List (V×V)} {es:List MapEntry},FP H kvs es→(∀kv∈kvs,Bo ks kv.1=true)→(∀e∈es,e.key≠c)→
    C9 key kvs=none∧FP H (ED key val kvs) (es++[{key:=c,val:=x,born:=clk}])
 | [],[],_,_,_=>⟨rfl,hc,hx,trivial⟩
 | [],_::_,h,_,_=>h.elim
 | _::_,[],h,_,_=>h.elim
 | (k,v)::r,e::es,h,hks,hne=>by
   obtain⟨h1,h2,h3⟩:=h
   have hf:EF key k=false:=by
    cases hb:EF key k with
    | false=>rfl
    | true=>exact absurd ((P8 hk (hks _ (.head _)) hc h1).1 hb).symm (hne e (.head _))
   obtain⟨h4,h5⟩:=Q9 hk hc hx clk h3 (fun kv hkv=>hks kv (.tail _ hkv)) (fun e he=>hne e (.tail _ he));simp only[C9,ED,hf,cond_false];exact⟨h4,h1,h2,h5⟩
def Q8 {ks:KS} {H:Nat→Nat→Option Value} {key:V} {c x:Value} {val:V} (hk:Bo ks key=true) (hc:AY H key c) (hx:AY H val x): ∀ {kvs:List (V×V)} {es:List MapEntry} {j:Nat} {e:MapEntry},FP H kvs es→(∀kv∈kvs,Bo ks kv.1=true)→
    es.Pairwise (fun a b=>a.key≠b.key)→es[j]? =some e→e.key=c→
    ∃v,C9 key kvs=some v∧AY H v e.val∧FP H (ED key val kvs) (es.modify j fun e=>{e with key:=c,val:=x})
 | [],[],j,_,_,_,_,hj,_=>by simp at hj
 | [],_::_,_,_,h,_,_,_,_=>h.elim
 | _::_,[],_,_,h,_,_,_,_=>h.elim
 | (k, v)::r,e0::es,j,e,h,hks,hd,hj,he=>by
   obtain⟨h1,h2,h3⟩:=h;obtain⟨hd1,hd2⟩:=List.pairwise_cons.1 hd;have hiff:=P8 hk (hks _ (.head _)) hc h1;cases j with
   | zero=>
     simp only[cb,Hp]at hj;subst hj;have hb:EF key k=true:=hiff.2 he.symm;simp only[C9,ED,hb,cond_true];exact⟨v,rfl,h2,hc,hx,h3⟩
   | succ j=>
     simp only[mz]at hj
     have hb:EF key k=false:=by
      cases hb:EF key k with
      | false=>rfl
      | true=>
        have:=hiff.1 hb;exact absurd (this.symm.trans he.symm) (hd1 e (Cg hj))
     obtain⟨v',h4,h5,h6⟩:=Q8 hk hc hx h3 (fun kv hkv=>hks kv (.tail _ hkv)) hd2 hj he;simp only[C9,ED,hb,cond_false];exact⟨v',h4,h5,h1,h2,h6⟩
def ZG {ok:Value→Prop} {ks:KS} {H:Nat→Nat→Option Value} (hok: ∀(H:Nat→Nat→Option Value) (v:V) (c:Value),Bo ks v=true→AY H v c→ok c): ∀ {kvs:List (V×V)} {es:List MapEntry},FP H kvs es→(∀kv∈kvs,Bo ks kv.1=true)→ ∀e∈es,ok e.key
 | (k,v)::r,e0::es,h,hks,e,he=>by
   obtain⟨h1,h2,h3⟩:=h;rcases FE.1 he with rfl|he
   ·exact hok H k _ (hks _ (.head _)) h1
   ·exact ZG hok h3 (fun kv hkv=>hks kv (.tail _ hkv)) e he
 | [],[],_,_,_,he=>by cases he
 | [],_::_,h,_,_,_=>h.elim
 | _::_,[],h,_,_,_=>h.elim
def Sy (G:Rel Λ σ w) {n:Nat} {kvs:List (V×V)} (h:σ n=some (.map kvs)): ∃es clk,w.heap[n]? =some (.map es clk)∧FP (Hh Λ σ w) kvs es.toList∧es.toList.Pairwise (fun a b=>a.key≠b.key):=by
 obtain⟨_,ob,h2,es,clk,rfl,h4⟩:=G.own n _ h;exact⟨es,clk,h2,h4⟩
def Ra {t kt e:TypeId} {ks:KS} {z:V} {ok:Bool} (hu:P.underlying t=some (.map kt e)) (hks:R2 P kt=some ks) (hz:zeroOf P e=some z) (G:Rel Λ σ w) {vm vk:V} {cm ck:Value}
    (hm:AY (Hh Λ σ w) vm cm) (hk:AY (Hh Λ σ w) vk ck) (h:AS σ ks z ok vm vk fun v=>k v σ):CX Λ σ w k kp ((Instr.lookup t cm ck ok).run P w):=by
 obtain⟨h0,h⟩:=h;obtain⟨okk,K,hok⟩:=fv hks;have hck:=hok _ _ _ h0 hk;obtain⟨zc,hz1,hz2⟩:=ER hz w;have hzr:AY (Hh Λ σ w) z zc:=GV hz2;have hch: ∀em,(Instr.checkKey em 10000 kt ck).run P w= .ok () w:=fun em=>K.check w em hck
 unfold Instr.lookup;simp only[DK,BK hu,GJ]
 have fin: ∀ {o:Option V} {x:Value} {b:Bool},(match o with|some v=>b=true∧AY (Hh Λ σ w) v x|none=>b=false∧x=zc)→k (found z ok o) σ→CX Λ σ w k kp (Result.ok (if ok=true then Value.tuple #[x,.bool b]else x) w):=fun {o x b} ho hk=>by
  have tup: ∀ {v:V} {x:Value} {b:Bool},AY (Hh Λ σ w) v x→AY (Hh Λ σ w) (.t [v,.b b]) (.tuple #[x,.bool b]):=fun hv=>⟨_,rfl,rfl,⟨_,rfl,hv⟩,⟨_,rfl,rfl⟩,trivial⟩
  cases o with
  | some v=>
    obtain⟨rfl,hv⟩:=ho;cases ok
    ·exact Au G hk hv
    ·exact Au G hk (tup hv)
  | none=>
    obtain⟨rfl,rfl⟩:=ho;cases ok
    ·exact Au G hk hzr
    ·exact Au G hk (tup hzr)
 cases vm<;>first|exact h.elim|skip
 ·rename_i n
  simp only at h;split at h
  ·rename_i kvs hn
   obtain⟨h1,h2⟩:=h;simp only[AY]at hm;subst hm;obtain⟨es,clk,h3,h4,h5⟩:=Sy G hn;have hg:(getObj n).run P w= .ok (.map es clk) w:=by simp[getObj,Sem.run,h3]
   simp only[DK,hg,GJ,Eh,hch];rcases K.find w hck es.toList (ZG hok h4 h1)with⟨h6,h7⟩|⟨j,e',h6,h7,h8⟩
   ·obtain⟨h9,_⟩:=Q9 h0 hk hk 0 h4 h1 h7
    simp only[h6,GJ,DK,hz1,Eh];rw[h9]at h2;exact fin (o:=none) ⟨rfl,rfl⟩ h2
   ·obtain⟨v,h9,h10,_⟩:=Q8 h0 hk hk h4 h1 h5 h7 h8
    simp only[h6,GJ,Eh];rw[h9]at h2;exact fin (o:=some v) ⟨rfl,h10⟩ h2
  ·exact h.elim
 ·simp only[AY]at hm
  subst hm;simp only[DK,Eh,GJ,hch];rcases K.find w hck [] (fun e he=>by cases he)with⟨h6,_⟩|⟨j,e',_,h7,_⟩
  ·simp only[h6,GJ,DK,hz1,Eh]
   exact fin (o:=none) ⟨rfl,rfl⟩ h
  ·simp at h7
def OE {n:Nat} {ob:Obj} {es:Array MapEntry} {clk:Nat} (h:w.heap[n]? =some (.map es clk)):(setObj n ob).run P w= .ok () (CO w n ob):=by
 simp[setObj,Sem.run,h,CO]
def H2 {c x:Value}: ∀ {es:List MapEntry} {j:Nat} {e:MapEntry},es[j]? =some e→e.key=c→es.Pairwise (fun a b=>a.key≠b.key)→(es.modify j fun e=>{e with key:=c,val:=x}).Pairwise (fun a b=>a.key≠b.key)
 | [],_,_,h,_,_=>by simp at h
 | e0::es,0,e,h,he,hp=>by
   simp only[cb,Hp]at h;subst h;obtain⟨h1,h2⟩:=List.pairwise_cons.1 hp;exact List.pairwise_cons.2 ⟨fun a ha=>by simpa only[←he]using h1 a ha,h2⟩
 | e0::es,j+1,e,h,he,hp=>by
   simp only[mz]at h;obtain⟨h1,h2⟩:=List.pairwise_cons.1 hp;refine List.pairwise_cons.2 ⟨fun a ha=>?_,H2 h he h2⟩;have ha:a∈es.modify j fun e=>{e with key:=c,val:=x}:=ha
   obtain⟨i,hi⟩:=List.mem_iff_getElem?.1 ha;rw[List.getElem?_modify]at hi;cases hb:es[i]? with
   | none=>rw[hb]at hi;cases hi
   | some b=>
     rw[hb]at hi;simp only[Option.map_eq_map,Ym,Hp]at hi;split at hi
     ·rename_i hji
      subst hi;subst hji;rw[h]at hb;cases hb;simpa only[←he]using h1 e (Cg h)
     ·subst hi
      exact h1 b (Cg hb)
def RZ {t kt e:TypeId} {ks:KS} (hu:P.underlying t=some (.map kt e)) (hks:R2 P kt=some ks) (G:Rel Λ σ w) {vm vk vx:V} {cm ck cx:Value}
    (hm:AY (Hh Λ σ w) vm cm) (hk:AY (Hh Λ σ w) vk ck) (hx:AY (Hh Λ σ w) vx cx) (h:AT σ ks vm vk vx fun σ'=>k (.t []) σ') :
    ∃σ' w',(Instr.mapUpdate t cm ck cx).run P w= .ok () w'∧k (.t []) σ'∧Rel Λ σ' w'∧Bw Λ σ w σ' w':=by
 obtain⟨h0,h⟩:=h;obtain⟨okk,K,hok⟩:=fv hks;have hck:=hok _ _ _ h0 hk;have hch: ∀em,(Instr.checkKey em 10000 kt ck).run P w= .ok () w:=fun em=>K.check w em hck
 cases vm<;>first|exact h.elim|skip
 rename_i n;simp only at h;split at h
 ·rename_i kvs hn
  obtain⟨h1,h2⟩:=h;simp only[AY]at hm;subst hm;obtain⟨es,clk,h3,h4,h5⟩:=Sy G hn;have hg:(getObj n).run P w= .ok (.map es clk) w:=by simp[getObj,Sem.run,h3]
  unfold Instr.mapUpdate;simp only[DK,BK hu,GJ,hg,hch];rcases K.find w hck es.toList (ZG hok h4 h1)with⟨h6,h7⟩|⟨j,e',h6,h7,h8⟩
  ·obtain⟨_,h9⟩:=Q9 h0 hk hx clk h4 h1 h7
   refine⟨_,CO w n (.map (es.push {key:=ck,val:=cx,born:=clk}) (clk+1)),?_,h2,Im G hn ⟨_,_,rfl,?_,?_⟩,Ga hn _ _⟩
   ·simp only[h6,GJ]
    exact OE h3
   ·simpa using h9
   ·rw[Array.toList_push,List.pairwise_append]
    exact⟨h5,by simp,fun a ha b hb=>by simp at hb;subst hb;exact h7 a ha⟩
  ·obtain⟨v,_,_,h9⟩:=Q8 h0 hk hx h4 h1 h5 h7 h8
   have hj:es[j]? =some e':=by rw[←h7];simp
   refine⟨_,CO w n (.map (es.modify j fun e=>{e with key:=ck,val:=cx}) clk),?_,h2,Im G hn ⟨_,_,rfl,?_,?_⟩,Ga hn _ _⟩
   ·simp only[h6,GJ,DK,hj,Ym,Option.getD_some,h8,K.stays w hck]
    exact OE h3
   ·simpa using h9
   ·simpa using H2 (x:=cx) h7 h8 h5
 ·exact h.elim
def gp (P:Program):Op→Option GL
 | .makeMap t r=>match r,P.underlying t with
   | none,_=>some .IN
   | some _,_=>none
 | .lookup t x i ok=>match P.underlying t with
   | some (.map kt e)=>match R2 P kt,zeroOf P e,BY x,BY i with
     | some ks,some z,some x,some i=>some (.lookup ks z ok x i)
     | _,_,_,_=>none
   | _=>none
 | .mapUpdate t m i x=>match P.underlying t with
   | some (.map kt _)=>match R2 P kt,BY m,BY i,BY x with
     | some ks,some m,some i,some x=>some (.D6 ks m i x)
     | _,_,_,_=>none
   | _=>none
 | .insert t m i x=>match P.underlying t with
   | some (.map kt _)=>match R2 P kt,BY m,BY i,BY x with
     | some ks,some m,some i,some x=>some (.D6 ks m i x)
     | _,_,_,_=>none
   | _=>none
 | _=>none
def Uu {env:Env} {a:Act} {o:Oper} {ao:GL} (ho:gp P o.op=some ao) (h:FZ P ao env σ k kp) (he:CF (Hh Λ σ w) env a.tmps) (G:Rel Λ σ w) :
    Good P Λ σ w k kp ((execOp a.eval o).run P w):=by
 have put: ∀ {t:TypeId} {m i x:Operand},(match P.underlying t with
  | some (.map kt _)=>match R2 P kt,BY m,BY i,BY x with
    | some ks,some m,some i,some x=>some (GL.D6 ks m i x)
    | _,_,_,_=>none
  | _=>none)=some ao→Good P Λ σ w k kp ((do Instr.mapUpdate t (a.eval m) (a.eval i) (a.eval x);pure Next.skip:Sem Next).run P w):=fun {t m i x} ho=>by
  split at ho
  ·rename_i kt e hu
   split at ho
   ·rename_i ks m' i' x' hks hm hi hx
    cases ho;obtain⟨vm,h1,g⟩:=Ak h;obtain⟨vi,h2,g⟩:=Ak g;obtain⟨vx,h3,g⟩:=Ak g;obtain⟨σ',w',e1,e2,e3,e4⟩:=RZ hu hks G (Ar he hm h1) (Ar he hi h2) (Ar he hx h3) g;simp only[DK,e1,GJ,Eh];exact⟨σ',e2,e3,e4⟩
   ·cases ho
  ·cases ho
 unfold execOp;unfold gp at ho;split at ho
 ·rename_i t r hop
  rw[hop];dsimp only;split at ho
  ·cases ho
   refine Az ?_;simp only[FZ]at h;exact⟨_,_,h w.heap.size G.new,rfl,HF G (o:= .map []) ⟨#[],0,rfl,trivial,by simp⟩,D0 _ _⟩
  ·cases ho
 ·rename_i t x i ok hop
  rw[hop];dsimp only;split at ho
  ·rename_i kt e hu
   split at ho
   ·rename_i ks z x' i' hks hz hx hi
    cases ho;obtain⟨vx,h1,g⟩:=Ak h;obtain⟨vi,h2,g⟩:=Ak g;exact Az (Ra hu hks hz G (Ar he hx h1) (Ar he hi h2) g)
   ·cases ho
  ·cases ho
 ·rename_i t m i x hop
  rw[hop];exact put ho
 ·rename_i t m i x hop
  rw[hop];exact put ho
 ·cases ho
def UN (P:Program) (name:String):List (TypeId×FuncId):=(List.range P.types.size).filterMap fun t=>
 match P.info? t,P.underlying t with
 | some i,some d=>match i.methods.find? (·.name==name)with
   | some m=>if m.path.isEmpty then match m.func,d with
     | some (f,true),.pointer _=>some (t,f)
     | some (_,false),.pointer _=>none
     | some (f,false),_=>some (t,f)
     | _,_=>none
     else none
   | none=>none
 | _,_=>none
def gq (P:Program):Op→Option GL
 | .call c=>match c.callee with
   | .invoke x name=>match BY x,JB c.args.toList with
     | some x,some as=>some (.inv (UN P name) x as)
     | _,_=>none
   | _=>none
 | _=>none
def Sz {t:TypeId} {f:FuncId}: ∀ {l:List (TypeId×FuncId)},look t l=some f→(t,f)∈l
 | [],h=>by cases h
 | (u,g)::r,h=>by
   simp only[look]at h;cases hb:Nat.beq u t with
   | true=>
     rw[hb]at h;simp only[cond_true,Hp]at h;rw[Vd hb,h];exact .head _
   | false=>
     rw[hb]at h;exact .tail _ (Sz h)
def Uk {name:String} {t:TypeId} {f:FuncId} (h:(t,f)∈UN P name) (c:Value):(method (P.types.size+Made.depth) t c name).run P w= .ok (f,c) w:=by
 unfold UN at h;rw[List.mem_filterMap]at h;obtain⟨u,hu,h⟩:=h;rw[List.mem_range]at hu;split at h
 rotate_left
 ·cases h
 rename_i i d hi hd;split at h
 rotate_left
 ·cases h
 rename_i m hm;split at h
 rotate_left
 ·cases h
 rename_i hp
 have hpl:m.path.toList= []:=by
  have:m.path= #[]:=by simpa using hp
  rw[this]
 obtain⟨n,hn⟩: ∃n,P.types.size+Made.depth=n+1:=⟨P.types.size+Made.depth - 1,by omega⟩
 have key: ∀ptr,u=t→m.func=some (f,ptr)→(ptr=true→ ∃e,d= .pointer e)→(ptr=false→ ∀e,d≠ .pointer e)→(method (P.types.size+Made.depth) t c name).run P w= .ok (f,c) w:=fun ptr e1 e2 e3 e4=>by
  subst e1;rw[hn];unfold method;simp only[DK,run_typeInfo w hi,GJ,hm,hpl,follow,Eh,e2,receiverAt,run_underlying hd];cases ptr with
  | true=>
    obtain⟨e,rfl⟩:=e3 rfl;simp[Place.get]
  | false=>
    have:=e4 rfl;cases d<;>first|exact absurd rfl (this _)|simp[Place.get]
 split at h
 ·rename_i f' e hfun
  cases h;exact key true rfl hfun (fun _=>⟨_,rfl⟩) (fun h=>by cases h)
 ·cases h
 ·rename_i f' hfun hne
  cases h;exact key false rfl hfun (fun h=>by cases h) (fun _ e he=>by subst he;exact hne e rfl)
 ·cases h
def Yl {tab:List (TypeId×FuncId)} {x:V} {args:List V} {Q:R→AH→Prop} (h:A9 P tab x args σ Q): ∃t v f,x= .J1 t v∧look t tab=some f∧BD P f (v::args) σ Q:=by
 unfold A9 at h;split at h
 ·split at h
  ·exact⟨_,_,_,rfl,by assumption,h⟩
  ·exact h.elim
 ·exact h.elim
def Uv {env:Env} {a:Act} {o:Oper} {ao:GL} (ho:gq P o.op=some ao) (h:FZ P ao env σ k kp) (he:CF (Hh Λ σ w) env a.tmps) (G:Rel Λ σ w) :
    Good P Λ σ w k kp ((execOp a.eval o).run P w):=by
 unfold gq at ho;split at ho
 rotate_left
 ·cases ho
 rename_i c hop;split at ho
 rotate_left
 ·cases ho
 rename_i x name hc;split at ho
 rotate_left
 ·cases ho
 rename_i x' as hx has;cases ho;obtain⟨vx,h1,g⟩:=Ak h;obtain⟨vs,h2,g⟩:=HV g;obtain⟨t,v,f,rfl,hf,g⟩:=Yl g;obtain⟨cv,hcv,hvr⟩:=Ar he hx h1
 have hext:(#[Value.iface t cv]++c.args.map a.eval).extract 1 (#[Value.iface t cv]++c.args.map a.eval).size=c.args.map a.eval:=by
  apply Array.ext';simp[List.take_of_length_le]
 have h0:(#[Value.iface t cv]++c.args.map a.eval)[0]? =some (.iface t cv):=by rw[Array.getElem?_append_left (Nat.zero_lt_one)];rfl
 have hrun:(execOp a.eval o).run P w=(callFunc f (#[cv]++c.args.map a.eval)).run P w:=by
  unfold execOp;simp only[hop,resolve,hc,DK,Eh,GJ,invoke,hcv,h0,hext,callMethod];have hprog:(program).run P w= .ok P w:=rfl;simp only[hprog,GJ,Uk (Sz hf)]
 rw[hrun];refine Np G ?_ g;have:=Hc (H:=Hh Λ σ w) (vs:=[v]) (cs:= #[cv]) ⟨rfl,⟨cv,rfl,hvr⟩,trivial⟩ (Iq he has h2);simpa using this
set_option maxHeartbeats 1000000 in
def VB {t u e:TypeId} {i:TypeInfo} (ty:TypeId) (ht:P.underlying t=some (.slice e)) (hi:P.info? e=some i) (G:Rel Λ σ w) {vx vy:V} {cx cy:Value} (hx:AY (Hh Λ σ w) vx cx) (hy:AY (Hh Λ σ w) vy cy)
    (h:Ag σ i.size vx vy k):CX Λ σ w k kp ((Builtin.copy_ #[t,u] ty #[cx,cy]).run P w):=by
 have h':=Ji G hy h;clear h;obtain⟨ys,base,c2,⟨hone,h⟩,rfl,hyl,hys⟩:=h'
 have main: ∀(n off len:Nat) (a:Option Addr) (cap:Nat),(len≠0→a=some ⟨n,off*i.size,none⟩)→Qb σ i.size ys n off len k→CX Λ σ w k kp ((Builtin.copy_ #[t,u] ty #[.slice a len cap,.slice base ys.length c2]).run P w):=fun n off len a cap ha hk=>by
  unfold Qb at hk;split at hk
  ·rename_i s es c hs
   obtain⟨rfl,hle,hk⟩:=hk;obtain⟨cur,et,h3,h4,h5,h6,h7⟩:=Em G hs;have hsz:sizeOf e=(do pure (←typeInfo e).size:Sem Nat):=rfl;have hmin:Nat.min ys.length len=min ys.length len:=rfl;have hmL:min ys.length len≤Ac:=by omega
   have hrng: ∀H,AY H (.i .i64 (min ys.length len:Nat)) (goInt (min ys.length len:Nat)):=fun H=>⟨rfl,HY hmL⟩
   by_cases h0:min ys.length len=0
   ·
    have hrun:(Builtin.copy_ #[t,u] ty #[.slice a len cap,.slice base ys.length c2]).run P w= .ok (goInt 0) w:=by
     have hm0:Nat.min ys.length len=0:=h0;cases a<;>cases base<;>simp[Builtin.copy_,run_underlying ht,sizeOf,typeInfo,hi,Builtin.lenOf,hm0,Builtin.firstCells,loadCells,loadCellsFrom,storeCells]
    rw[hrun];rw[h0]at hk;simp only[Nat.add_zero]at hk;have e1:es.take off++(ys.take 0++es.drop off)=es:=by simp
    rw[e1]at hk
    have e2:A7 σ n (.arr i.size es c)=σ:=by
     funext m;unfold A7;split
     ·rename_i e;rw[e,hs]
     ·rfl
    rw[e2]at hk;exact Au G hk ⟨rfl,HY (n:=0) (by simp)⟩
   ·obtain⟨b,o,g,rfl,hg,hrow⟩:=hys.resolve_left (fun e=>by rw[e]at h0;simp at h0)
    obtain rfl:=ha (by omega);obtain⟨news,h8,h9,h10⟩:=Iw (HD hrow (min ys.length len));have hcnt:(ys.take (min ys.length len)).length=min ys.length len:=by simp
    rw[hcnt]at h8;have hmul:(off+min ys.length len)*i.size≤c*i.size:=Ru _ (by omega);rw[Nat.add_mul]at hmul
    have hn1: ∀u∈news,u.oneCell'=true:=fun u hu=>by
     obtain⟨j,hj⟩:=List.mem_iff_getElem?.1 hu;have hlt:j<(ys.take (min ys.length len)).length*i.size:=by rw[hcnt,←h8];exact(H4.1 hj).1
     obtain⟨h4,h5⟩:=Qy hlt;obtain⟨h6,h7⟩:=BG.1 h10 (j / i.size) _ (DZ h4);obtain⟨c,hc,hr⟩:=Bb.1 h7 (j % i.size) _ (DZ (by omega));have hdm:=Nat.div_add_mod' j i.size;rw[show 0+j / i.size*i.size+j % i.size=j by omega,hj]at hc;cases hc;exact Ng hr (hone _ (List.mem_of_mem_take (List.getElem_mem h4)) _ (List.getElem_mem _))
    have hrunF:=run_firstCells_some (P:=P) w i.size (min ys.length len) ⟨b,o,none⟩ ys.length c2 news h8 (fun j v hv=>by rw[Cl];exact hg _ _ (h9 j v hv));have hst:=Cm (P:=P) news w cur (off*i.size) 0 h3 (by omega) hn1;simp only[Nat.add_zero]at hst
    have hrun:(Builtin.copy_ #[t,u] ty #[.slice (some ⟨n,off*i.size,none⟩) len cap,.slice (some ⟨b,o,none⟩) ys.length c2]).run P w= .ok (goInt (min ys.length len:Nat)) (CO w n (.cells (Cy cur (off*i.size) news) et (0,0))):=by
     simp[Builtin.copy_,run_underlying ht,sizeOf,typeInfo,hi,Builtin.lenOf,hmin,hrunF,hst]
    rw[hrun];refine⟨_,_,hk,hrng _,Im G hs ⟨_,et,rfl,by rw[Dt];exact h4,by simp;omega,by simp;omega,?_⟩,Ga hs _ _⟩;have hol:off≤es.length:=by omega
    refine Gc (ES (HD h7 off) fun j hj=>?_) (Gc (ES h10 fun j hj=>?_) (ES (Ld h7 (off+min ys.length len)) fun j hj=>?_))
    ·rw[K6,Nat.min_eq_left hol]at hj
     exact DH _ _ _ _ (by omega)
    ·rw[hcnt]at hj
     rw[K6,Nat.min_eq_left hol];simp only[Gf];exact Fx _ _ _ _ (by omega) (by omega)
    ·rw[K6,Nat.min_eq_left hol,hcnt,Gf,Gf,Nat.add_mul]
     exact DH _ _ _ _ (by omega)
  ·exact hk.elim
 cases vx
 case sl n len cap=>
  obtain⟨rfl,_⟩:=hx;exact main n 0 len _ cap (fun _=>by simp) h
 case sv n s off len=>
  obtain⟨rfl,h⟩:=h;obtain⟨a,cap,rfl,_,h6⟩:=hx;exact main n off len a cap h6 h
 all_goals exact h.elim
def ZB (P:Program):Op→Option GL
 | .call c=>match c.callee,c.args.toList,c.argTypes.toList with
   | .builtin .copy,[x,y],[t,_]=>match P.underlying t with
     | some (.slice e)=>match BY x,BY y,P.info? e with
       | some x,some y,some i=>some (.copy i.size x y)
       | _,_,_=>none
     | _=>none
   | _,_,_=>none
 | _=>none
def TS {env:Env} {a:Act} {o:Oper} {ao:GL} (ho:ZB P o.op=some ao) (h:FZ P ao env σ k kp) (he:CF (Hh Λ σ w) env a.tmps) (G:Rel Λ σ w) :
    Good P Λ σ w k kp ((execOp a.eval o).run P w):=by
 unfold ZB at ho;split at ho
 rotate_left
 ·cases ho
 rename_i c hop;split at ho
 rotate_left
 ·cases ho
 rename_i x y t u hc hargs htys;split at ho
 rotate_left
 ·cases ho
 rename_i e hu;split at ho
 rotate_left
 ·cases ho
 rename_i x' y' i hx hy hi;cases ho;obtain⟨vx,h1,g⟩:=Ak h;obtain⟨vy,h2,g⟩:=Ak g;have ea:c.args= #[x,y]:=by apply Array.ext';simpa using hargs
 have et:c.argTypes= #[t,u]:=by apply Array.ext';simpa using htys
 unfold execOp;simp only[hop,resolve,hc,ea,et,DK,Eh,GJ,invoke,builtin,List.map_toArray,EA,List.map_nil];exact ET (VB (P:=P) (kp:=kp) o.type hu hi G (Ar he hx h1) (Ar he hy h2) g)
def Yz (P:Program) (o:Op):Option GL:=match gm P o with|some a=>some a|none=>match gp P o with|some a=>some a|none=>match gq P o with|some a=>some a|none=>ZB P o
def Us {env:Env} {a:Act} {o:Oper} {ao:GL} (ho:Yz P o.op=some ao) (h:FZ P ao env σ k kp) (he:CF (Hh Λ σ w) env a.tmps) (G:Rel Λ σ w) :
    Good P Λ σ w k kp ((execOp a.eval o).run P w):=by
 unfold Yz at ho;split at ho
 ·rename_i h';cases ho;exact Ut h' h he G
 ·split at ho
  ·rename_i h';cases ho;exact Uu h' h he G
  ·split at ho
   ·rename_i h';cases ho;exact Uv h' h he G
   ·exact TS ho h he G
end Go.Gl
namespace Go.Gl
variable {P:Program} {Λ:Nat→Prop}
def emp:AH:=fun _=>none
def Pure (P:Program) (f:FuncId) (args:List V) (v:V):Prop:=BD P f args emp fun r σ'=>r= .ret v∧σ'=emp
def V3 {w:World} (Λ:Nat→Prop) (h: ∀n,Λ n→n<w.heap.size):Rel Λ emp w:=⟨fun n o ho=>(by cases ho),h⟩
def RO {σ:AH} {w w':World} {Λ':Nat→Prop} (h:Bw Λ' emp w emp w'):Bw Λ σ w σ w':=
 ⟨fun n hn _=>h.frame n hn rfl,h.size,h.os,h.tape,h.output,fun _ h0 _=>h0⟩
def Pf {σ:AH} {w w':World} {Λ':Nat→Prop} (G:Rel Λ σ w) (h:Bw Λ' emp w emp w'):Rel Λ σ w':=
 G.step (RO h) fun n _ hn=> .inl ⟨hn,h.frame n (G.lt hn) rfl⟩
def Pure.use {f:FuncId} {args:List V} {v:V} (h:Pure P f args v) {σ:AH} {k kp:V→AH→Prop} (hk:k v σ):BD P f args σ (qk k kp):=by
 refine⟨h.1,fun Λ w cs G hv=>?_⟩
 have hH: ∀w:World,(Hh (fun n=>Λ n∨σ n≠none) emp w)=Hh Λ σ w:=fun w=>by
  funext b o;unfold Hh;by_cases hb:Λ b∨(σ b).isSome=true
  ·rw[if_pos hb,if_pos]
   rcases hb with hb|hb
   ·exact .inl (.inl hb)
   ·exact .inl (.inr (by intro e;rw[e]at hb;cases hb))
  ·rw[if_neg hb,if_neg]
   rintro((h|h)|h)
   ·exact hb (.inl h)
   ·exact hb (.inr (by cases hs:σ b with|none=>exact absurd hs h|some o=>rfl))
   ·cases h
 refine Calls.mono (h.2 (fun n=>Λ n∨σ n≠none) w cs (V3 _ fun n hn=>?_) (by rw[hH];exact hv)) fun e w' ⟨r,σ',⟨hr,hs⟩,h1,h2,h3⟩=>?_
 ·rcases hn with hn|hn
  ·exact G.lock n hn
  ·cases hs:σ n with
   | none=>exact absurd hs hn
   | some o=>exact G.lt hs
 ·subst hr
  subst hs;rw[hH]at h1;exact⟨.ret v,σ,hk,h1,Pf G h3,RO h3⟩
def BD.mono {f:FuncId} {args:List V} {σ:AH} {Q Q':R→AH→Prop} (h:BD P f args σ Q) (hq: ∀r σ',Q r σ'→Q' r σ'):BD P f args σ Q':=
 ⟨h.1,fun Λ w cs G hv=>Calls.mono (h.2 Λ w cs G hv) fun _ _ ⟨r,σ',h1,h2⟩=>⟨r,σ',hq _ _ h1,h2⟩⟩
def M9.mono {l:Nat} {args:List V} {σ:AH} {Q Q':R→AH→Prop} (h:M9 P l args σ Q) (hq: ∀r σ',Q r σ'→Q' r σ'):M9 P l args σ Q':=
 fun Λ w cs G hv=>let⟨f,tmps,assign,body,h1,h2⟩:=h Λ w cs G hv;⟨f,tmps,assign,body,h1,h2.mono fun e w' ⟨r,σ',h3,h4⟩=>⟨r,σ',hq _ _ h3,h4⟩⟩
def Ay.mono {x:V} {args:List V} {σ:AH} {Q Q':R→AH→Prop} (h:Ay P x args σ Q) (hq: ∀r σ',Q r σ'→Q' r σ'):Ay P x args σ Q':=by
 unfold Ay at *;split at h
 ·exact BD.mono h hq
 ·exact M9.mono h hq
 ·exact h.elim
def A9.mono {tab:List (TypeId×FuncId)} {x:V} {args:List V} {σ:AH} {Q Q':R→AH→Prop} (h:A9 P tab x args σ Q) (hq: ∀r σ',Q r σ'→Q' r σ'):A9 P tab x args σ Q':=by
 unfold A9 at *;split at h
 ·split at h
  ·exact BD.mono h hq
  ·exact h.elim
 ·exact h.elim
def rd:B9→List Nat| .t n=>[n]| .c _=>[]
def s8:Option B9→List Nat|some x=>rd x|none=>[]
def Yn (l:List B9):List Nat:=l.flatMap rd
def reads:GL→List Nat
 | .mv x| .Yo x| .not x| .neg _ x| .conv _ x| .box x| .R8 x| .load _ x| .JI _ x| .field _ _ x| .len x| .XG x| .str x| .extract _ x| .FK x| .GO _ x| .cf _ _ _ x| .panic x| .Ys _ _ x=>rd x
 | .pick a b c=>rd a++rd b++rd c
 | .XB x y| .bin _ x y| .Yt _ x y| .gb _ _ x y| .store _ x y| .Bn _ _ x y| .index _ _ _ x y| .append _ _ x y| .J6 _ _ x y| .copy _ x y| .M0 x y| .T7 x y| .Fm _ _ _ x y| .lookup _ _ _ x y=>rd x++rd y
 | .alloc _| .IN=>[]
 | .build _ ps=>Yn (ps.map fun p=>p.2.2)
 | .Ae _ _ _ ps=>Yn (ps.map fun p=>p.2)
 | .slice _ x a b c=>rd x++s8 a++s8 b++s8 c
 | .H5 _ a b=>Yn a++Yn b
 | .D6 _ m k v=>rd m++rd k++rd v
 | .call _ as| .NK _ as=>Yn as
 | .B6 x as| .Z3 x as| .inv _ x as=>rd x++Yn as
variable {env env':Env}
def Aa {x:B9} (h: ∀s∈rd x,get s env'=get s env):ev env' x=ev env x:=by
 cases x with
 | t n=>exact h n (by simp[rd])
 | c v=>rfl
def FA: ∀ {l:List B9},(∀s∈Yn l,get s env'=get s env)→Ty env' l=Ty env l
 | [],_=>rfl
 | x::r,h=>by
   simp only[Yn,List.flatMap_cons,FX]at h;simp only[Ty,Aa (fun s hs=>h s (.inl hs)),FA (l:=r) (fun s hs=>h s (.inr hs))]
def Ic {x:Option B9} (h: ∀s∈s8 x,get s env'=get s env):IM env' x=IM env x:=by
 cases x with
 | none=>rfl
 | some x=>simp only[IM,Aa (x:=x) h]
def ML: ∀ {ps:List (Nat×Nat×B9)} {cs:List V},(∀s∈Yn (ps.map fun p=>p.2.2),get s env'=get s env)→L6 env' cs ps=L6 env cs ps
 | [],_,_=>rfl
 | (off,sz,x)::r,cs,h=>by
   simp only[Yn,EA,List.flatMap_cons,FX]at h;simp only[L6,Aa (fun s hs=>h s (.inl hs))];split<;>try rfl
   split<;>try rfl
   cases hb:(Nat.beq _ sz&&Nat.ble (off+sz) cs.length)<;>simp only[cond_true,cond_false]
   exact ML (ps:=r) fun s hs=>h s (.inr hs)
def MM {sz:Nat}: ∀ {ps:List (Nat×B9)} {es:List (List V)},(∀s∈Yn (ps.map fun p=>p.2),get s env'=get s env)→KD env' sz es ps=KD env sz es ps
 | [],_,_=>rfl
 | (i,x)::r,es,h=>by
   simp only[Yn,EA,List.flatMap_cons,FX]at h;simp only[KD,Aa (fun s hs=>h s (.inl hs))];split<;>try rfl
   split<;>try rfl
   cases hb:(Nat.beq _ sz&&Nat.blt i es.length)<;>simp only[cond_true,cond_false]
   exact MM (ps:=r) fun s hs=>h s (.inr hs)
def QK {o:GL} {σ:AH} {k kp:V→AH→Prop} (h: ∀s∈reads o,get s env'=get s env):FZ P o env' σ k kp=FZ P o env σ k kp:=by
 cases o<;>simp only[reads,FX,or_imp,forall_and]at h<;>simp only[FZ]
 case mv x=>rw[Aa h]
 case Yo x=>rw[Aa h]
 case pick a b c=>rw[Aa h.1.1,Aa h.1.2,Aa h.2]
 case bin op x y=>rw[Aa h.1,Aa h.2]
 case Yt n x y=>rw[Aa h.1,Aa h.2]
 case gb q n x y=>rw[Aa h.1,Aa h.2]
 case Ys q n x=>rw[Aa h]
 case lookup a b c x y=>rw[Aa h.1,Aa h.2]
 case D6 a x y z=>rw[Aa h.1.1,Aa h.1.2,Aa h.2]
 case Fm a b c x y=>rw[Aa h.1,Aa h.2]
 case not x=>rw[Aa h]
 case neg n x=>rw[Aa h]
 case conv n x=>rw[Aa h]
 case box x=>rw[Aa h]
 case R8 x=>rw[Aa h]
 case J6 a b x y=>rw[Aa h.1,Aa h.2]
 case build z ps=>rw[ML h]
 case Ae a b c ps=>rw[MM h]
 case load a x=>rw[Aa h]
 case store a x y=>rw[Aa h.1,Aa h.2]
 case JI a x=>rw[Aa h]
 case field a b x=>rw[Aa h]
 case Bn a b x y=>rw[Aa h.1,Aa h.2]
 case index a b c x y=>rw[Aa h.1,Aa h.2]
 case slice s x a b c=>rw[Aa h.1.1.1,Ic h.1.1.2,Ic h.1.2,Ic h.2]
 case len x=>rw[Aa h]
 case XG x=>rw[Aa h]
 case str x=>rw[Aa h]
 case XB x y=>rw[Aa h.1,Aa h.2]
 case append a b x y=>rw[Aa h.1,Aa h.2]
 case copy a x y=>rw[Aa h.1,Aa h.2]
 case inv tab x as=>rw[Aa h.1,FA h.2]
 case M0 x y=>rw[Aa h.1,Aa h.2]
 case T7 x y=>rw[Aa h.1,Aa h.2]
 case extract i x=>rw[Aa h]
 case FK x=>rw[Aa h]
 case H5 f a b=>rw[FA h.1,FA h.2]
 case GO t x=>rw[Aa h]
 case cf a b c x=>rw[Aa h]
 case panic x=>rw[Aa h]
 case call f as=>rw[FA h]
 case NK f as=>rw[FA h]
 case B6 x as=>rw[Aa h.1,FA h.2]
end Go.Gl
namespace Go.Gl
open Go.ChangeShapes Go.WideShapes Go.ChangeAt Go.RowKit
variable {P:Program}
def Nx {f:FuncId} {args:List V} {v:V} (h:Pure P f args v) {w:World} {cs:Array Value} (hc:Yu (Hh (fun _=>False) emp w) args cs) :
    Calls P f cs w fun e w'=>(∃c,e= .returned c∧AY (Hh (fun _=>False) emp w') v c)∧Bw (fun _=>False) emp w emp w':=by
 refine Calls.mono (h.2 (fun _=>False) w cs (V3 _ fun _ h=>h.elim) hc) fun e w' ⟨r,σ',⟨h1,h2⟩,h3,_,h4⟩=>?_
 subst h1;subst h2;exact⟨h3,h4⟩
end Go.Gl
namespace Go.Gl
variable {P:Program} {Λ:Nat→Prop} {env env':Env} {σ:AH}
def Ao (AE:(V→Prop)→Prop):Prop:= ∀k,AE k→ ∃v,k v∧ ∀k':V→Prop,k' v→AE k'
def Ao.one (v:V):Ao fun k=>k v:=fun _ h=>⟨v,h,fun _ h=>h⟩
def Ao.no:Ao fun _=>False:=fun _ h=>h.elim
def Ao.and {p:Prop} {AE:(V→Prop)→Prop} (h:Ao AE):Ao fun k=>p∧AE k:=fun k ⟨hp,hF⟩=>let⟨v,h1,h2⟩:=h k hF;⟨v,h1,fun k' hk=>⟨hp,h2 k' hk⟩⟩
def Ao.wv {o:Option V} {AE:V→(V→Prop)→Prop} (h: ∀v,Ao (AE v)):Ao fun k=>wv o fun v=>AE v k:=by
 cases o with
 | none=>exact Ao.no
 | some v=>exact h v
def Ao.ws {o:Option (List V)} {AE:List V→(V→Prop)→Prop} (h: ∀v,Ao (AE v)):Ao fun k=>ws o fun v=>AE v k:=by
 cases o with
 | none=>exact Ao.no
 | some v=>exact h v
def Ao.wr {o:Option (List (List V))} {AE:List (List V)→(V→Prop)→Prop} (h: ∀v,Ao (AE v)):Ao fun k=>wr o fun v=>AE v k:=by
 cases o with
 | none=>exact Ao.no
 | some v=>exact h v
def Ao.wo {o:Option (Option V)} {AE:Option V→(V→Prop)→Prop} (h: ∀v,Ao (AE v)):Ao fun k=>wo o fun v=>AE v k:=by
 cases o with
 | none=>exact Ao.no
 | some v=>exact h v
def bn (op:BinOp) (x y:V):Ao (XH op x y):=by
 unfold XH;cases x<;>cases y<;>first|exact Ao.no|skip
 cases op<;>simp only<;>first|exact(Ao.one _).and|exact(Ao.one _).and.and
def KO (agg:Option Nat) (cs:List V) (off:Nat):Ao (cut agg cs off):=by
 unfold cut;cases agg with
 | none=>cases cs[off]? with
   | none=>exact Ao.no
   | some v=>exact Ao.one _
 | some n=>exact(Ao.one _).and
def YQ (σ:AH) (agg:Option Nat) (x:V):Ao (Ab σ agg x):=by
 unfold Ab PI PJ;cases x<;>first|exact Ao.no|skip
 case p n off=>
  simp only;cases σ n with
  | none=>exact Ao.no
  | some o=>cases o<;>first|exact Ao.no|exact KO _ _ _
 case rp cs=>exact KO _ _ _
 case pe n sz i off=>
  simp only;cases σ n with
  | none=>exact Ao.no
  | some o=>
    cases o<;>first|exact Ao.no|skip
    simp only;refine Ao.and ?_;rename_i es _;cases es[i]? with
    | none=>exact Ao.no
    | some e=>exact KO _ _ _
def X1 {σ σ':AH} (hs:Sub σ σ') {agg:Option Nat} {x:V} {k:V→Prop} (h:Ab σ agg x k):Ab σ' agg x k:=by
 unfold Ab PI PJ at *;cases x<;>first|exact h|skip
 case p n off=>
  simp only at *;cases hn:σ n with
  | none=>rw[hn]at h;exact h.elim
  | some o=>rw[hs n o hn];rw[hn]at h;exact h
 case pe n sz i off=>
  simp only at *;cases hn:σ n with
  | none=>rw[hn]at h;exact h.elim
  | some o=>rw[hs n o hn];rw[hn]at h;exact h
def VL (off:Nat) (x:V):Ao (LN off x):=by
 unfold LN;cases x<;>first|exact Ao.no|exact Ao.one _
def VK (sz:Nat) (arr:Option Nat) (x i:V):Ao (AU sz arr x i):=by
 unfold AU;cases i<;>first|exact Ao.no|skip
 cases arr<;>cases x<;>first|exact Ao.no|exact(Ao.one _).and.and|exact(Ao.one _).and.and.and|skip
 intro k ⟨h0,e,h1,h2,h3⟩;exact⟨_,h3,fun k' hk=>⟨h0,e,h1,h2,hk⟩⟩
def VJ (len sz:Nat) (agg:Option Nat) (x i:V):Ao (LM len sz agg x i):=by
 unfold LM;cases x<;>first|exact Ao.no|skip
 cases i<;>first|exact Ao.no|skip
 exact(KO _ _ _).and.and
def YP (x i:V):Ao (PM x i):=by
 unfold PM;cases x<;>first|exact Ao.no|skip
 cases i<;>first|exact Ao.no|skip
 refine Ao.and ?_;rename_i b _ j;cases b.data.toList[j.toNat]? with
 | none=>exact Ao.no
 | some c=>exact Ao.one _
def bk (x:V):Ao (A4 x):=by
 unfold A4;cases x<;>first|exact Ao.no|exact Ao.one _|exact(Ao.one _).and
def YR (σ:AH) (x:V):Ao (L2 σ x):=by
 unfold L2;cases x<;>first|exact Ao.no|exact Ao.one _|skip
 case m n=>
  simp only;cases σ n with
  | none=>exact Ao.no
  | some o=>cases o<;>first|exact Ao.no|exact(Ao.one _).and
def X2 {σ σ':AH} (hs:Sub σ σ') {x:V} {k:V→Prop} (h:L2 σ x k):L2 σ' x k:=by
 unfold L2 at *;cases x<;>first|exact h|skip
 case m n=>
  simp only at *;cases hn:σ n with
  | none=>rw[hn]at h;exact h.elim
  | some o=>rw[hs n o hn];rw[hn]at h;exact h
def Ir {o:Option V} {d:Int} {k:Int→Prop} (h:Ow o d k): ∃v,k v∧ ∀k':Int→Prop,k' v→Ow o d k':=by
 unfold Ow at *;split at h
 ·exact⟨_,h,fun _ h=>h⟩
 ·exact⟨_,h,fun _ h=>h⟩
 ·exact h.elim
def VI {sz:Nat} {x:V} {a b:Option V} {k:V→AH→Prop} (h:AV σ sz x a b none k): ∃v,k v σ∧ ∀σ' (k':V→AH→Prop),k' v σ'→AV σ' sz x a b none k':=by
 unfold AV at *;cases x<;>first|exact h.elim|skip
 ·simp only at *
  obtain⟨h0,h⟩:=h;obtain⟨hh,h,g1⟩:=Ir h;obtain⟨l,h,g2⟩:=Ir h;exact⟨_,h.2.2.2,fun σ' k' hk=>⟨h0,g1 _ (g2 _ ⟨h.1,h.2.1,h.2.2.1,hk⟩)⟩⟩
 ·simp only at *
  obtain⟨hh,h,g1⟩:=Ir h;obtain⟨l,h,g2⟩:=Ir h;exact⟨_,h.2.2.2,fun σ' k' hk=>g1 _ (g2 _ ⟨h.1,h.2.1,h.2.2.1,hk⟩)⟩
 ·simp only at *
  obtain⟨hh,h,g1⟩:=Ir h;obtain⟨l,h,g2⟩:=Ir h;exact⟨_,h.2.2.2.2.2,fun σ' k' hk=>g1 _ (g2 _ ⟨h.1,h.2.1,h.2.2.1,h.2.2.2.1,trivial,hk⟩)⟩
def OF {sz:Nat} {y:V} {k:List (List V)→Prop} (h:rowsOf σ sz y k): ∃ys,k ys∧ ∀σ' (k':List (List V)→Prop),Sub σ σ'→k' ys→rowsOf σ' sz y k':=by
 unfold rowsOf at *;cases y<;>first|exact h.elim|skip
 ·exact⟨_,h.2,fun _ _ _ hk=>⟨h.1,hk⟩⟩
 ·rename_i m len cap
  simp only at *;cases hm:σ m with
  | none=>rw[hm]at h;exact h.elim
  | some o=>
    rw[hm]at h;cases o<;>first|exact h.elim|skip
    exact⟨_,h.2.2,fun σ' k' hs hk=>by rw[hs m _ hm];exact⟨h.1,h.2.1,hk⟩⟩
 ·rename_i m s off len
  simp only at *;cases hm:σ m with
  | none=>rw[hm]at h;exact h.elim
  | some o=>
    rw[hm]at h;cases o<;>first|exact h.elim|skip
    exact⟨_,h.2.2.2,fun σ' k' hs hk=>by rw[hs m _ hm];exact⟨h.1,h.2.1,h.2.2.1,hk⟩⟩
def bQ {x:V} {k:V→Prop} (h:cz σ x k): ∃v,k v∧ ∀σ' (k':V→Prop),Sub σ σ'→k' v→cz σ' x k':=by
 obtain⟨ys,h1,h2⟩:=OF h;cases hn:IU ys with
 | none=>rw[hn]at h1;exact h1.elim
 | some ns=>
   rw[hn]at h1;exact⟨_,h1,fun σ' k' hs hk=>h2 σ' _ hs (by rw[hn];exact hk)⟩
def YS {b sz:Nat} {x y:V} {k:V→Prop} (h:Ah b σ sz x y k): ∃v,k v∧ ∀σ' (k':V→Prop),Sub σ σ'→k' v→Ah b σ' sz x y k':=by
 unfold Ah at *;obtain⟨ys,⟨h1,h2⟩,h3⟩:=OF h;cases x<;>first|exact h2.elim|skip
 exact⟨_,h2.2.2.2,fun σ' k' hs hk=>h3 σ' _ hs ⟨h1,h2.1,h2.2.1,h2.2.2.1,hk⟩⟩
def Tm {ks:KS} {z:V} {ok:Bool} {vm vk:V} {k:V→Prop} (h:AS σ ks z ok vm vk k): ∃v,k v∧ ∀σ' (k':V→Prop),Sub σ σ'→k' v→AS σ' ks z ok vm vk k':=by
 unfold AS at *;obtain⟨h0,h⟩:=h;cases vm<;>first|exact h.elim|skip
 ·rename_i n
  simp only at *;cases hn:σ n with
  | none=>rw[hn]at h;exact h.elim
  | some o=>
    rw[hn]at h;cases o<;>first|exact h.elim|skip
    exact⟨_,h.2,fun σ' k' hs hk=>⟨h0,by rw[hs n _ hn];exact⟨h.1,hk⟩⟩⟩
 ·exact⟨_,h,fun σ' k' hs hk=>⟨h0,hk⟩⟩
inductive Kd where
 | P|N|A|AB|H
 deriving DecidableEq,Repr
def kd:GL→Kd
 | .load _ _=> .N
 | .XG _=> .N
 | .str _=> .N
 | .J6 _ _ _ _=> .N
 | .box _=> .A
 | .append _ _ x _=>match x with| .c (.l [] true)=> .A|_=> .H
 | .alloc _=> .AB
 | .slice _ _ _ _ mx=>match mx with|none=> .N|some _=> .H
 | .store _ _ _| .copy _ _ _| .D6 _ _ _ _| .panic _| .call _ _| .B6 _ _| .Z3 _ _| .inv _ _ _| .IN| .Fm _ _ _ _ _| .Ys _ _ _| .Yo _=> .H
 | .lookup _ _ _ _ _=> .N
 | _=> .P
def om {o:GL} (hk:kd o= .P): ∃AE:(V→Prop)→Prop,Ao AE∧ ∀σ (k kp:V→AH→Prop),FZ P o env σ k kp=AE (fun v=>k v σ):=by
 cases o<;>first|(simp[kd]at hk;done)|skip
 case mv x=>exact⟨fun k=>wv (ev env x) k,Ao.wv fun v=>Ao.one v,fun _ _ _=>rfl⟩
 case pick c a b=>
  refine⟨fun k=>wv (ev env c) fun vc=>wv (ev env a) fun va=>wv (ev env b) fun vb=>match vc with| .b t=>(match va,vb with| .b x,.b y=>k (.b (bif t then x else y))|_,_=>k (bif t then va else vb))|_=>False,?_,fun _ _ _=>rfl⟩;refine Ao.wv fun vc=>Ao.wv fun va=>Ao.wv fun vb=>?_
  cases vc<;>first|exact Ao.no|skip
  cases va<;>first|exact Ao.one _|skip
  cases vb<;>exact Ao.one _
 case bin op x y=>exact⟨fun k=>wv (ev env x) fun vx=>wv (ev env y) fun vy=>XH op vx vy k,Ao.wv fun _=>Ao.wv fun _=>bn _ _ _,fun _ _ _=>rfl⟩
 case Yt n x y=>
  refine⟨fun k=>wv (ev env x) fun vx=>wv (ev env y) fun vy=>match vx,vy with| .b p,.b q=>k (.b (bif n then p != q else p==q))|_,_=>False,?_,fun _ _ _=>rfl⟩;refine Ao.wv fun vx=>Ao.wv fun vy=>?_
  cases vx<;>cases vy<;>first|exact Ao.no|exact Ao.one _
 case gb q n x y=>
  refine⟨fun k=>wv (ev env x) fun vx=>wv (ev env y) fun vy=>UA q n vx vy k,Ao.wv fun vx=>Ao.wv fun vy=>?_,fun _ _ _=>rfl⟩;unfold UA;cases vx<;>first|exact Ao.no|skip
  cases vy<;>first|exact Ao.no|skip
  simp only;split<;>first|exact Ao.no|exact Ao.one _
 case not x=>
  refine⟨fun k=>wv (ev env x) fun vx=>match vx with| .b p=>k (.b (!p))|_=>False,Ao.wv fun vx=>?_,fun _ _ _=>rfl⟩;cases vx<;>first|exact Ao.no|exact Ao.one _
 case neg xor x=>
  refine⟨fun k=>wv (ev env x) fun vx=>match vx with| .i ka a=>k (.i ka (bif xor then bits .xor ka (bif ka.signed then -1 else ka.max) a else ka.wrap (0 - a)))|_=>False,Ao.wv fun vx=>?_,fun _ _ _=>rfl⟩;cases vx<;>first|exact Ao.no|exact Ao.one _
 case conv ka x=>
  refine⟨fun k=>wv (ev env x) fun vx=>match vx with| .i _ a=>k (.i ka (ka.wrap a))|_=>False,Ao.wv fun vx=>?_,fun _ _ _=>rfl⟩;cases vx<;>first|exact Ao.no|exact Ao.one _
 case R8 x=>
  refine⟨fun k=>wv (ev env x) fun vx=>match cellsOf vx with|some cs=>k (.rp cs)|none=>False,Ao.wv fun vx=>?_,fun _ _ _=>rfl⟩;cases cellsOf vx<;>first|exact Ao.no|exact Ao.one _
 case build z ps=>exact⟨fun k=>ws (L6 env z ps) fun cs=>k (.a cs),Ao.ws fun _=>Ao.one _,fun _ _ _=>rfl⟩
 case Ae sz len z ps=>exact⟨fun k=>wr (KD env z.length (List.replicate len z) ps) fun es=>k (.l es true),Ao.wr fun _=>Ao.one _,fun _ _ _=>rfl⟩
 case JI off x=>exact⟨fun k=>wv (ev env x) fun vx=>LN off vx k,Ao.wv fun _=>VL _ _,fun _ _ _=>rfl⟩
 case field agg off x=>
  refine⟨fun k=>wv (ev env x) fun vx=>match vx with| .a cs=>cut agg cs off k|_=>False,Ao.wv fun vx=>?_,fun _ _ _=>rfl⟩;cases vx<;>first|exact Ao.no|exact KO _ _ _
 case Bn sz arr x i=>exact⟨fun k=>wv (ev env x) fun vx=>wv (ev env i) fun vi=>AU sz arr vx vi k,Ao.wv fun _=>Ao.wv fun _=>VK _ _ _ _,fun _ _ _=>rfl⟩
 case XB x i=>exact⟨fun k=>wv (ev env x) fun vx=>wv (ev env i) fun vi=>PM vx vi k,Ao.wv fun _=>Ao.wv fun _=>YP _ _,fun _ _ _=>rfl⟩
 case index len sz agg x i=>exact⟨fun k=>wv (ev env x) fun vx=>wv (ev env i) fun vi=>LM len sz agg vx vi k,Ao.wv fun _=>Ao.wv fun _=>VJ _ _ _ _ _,fun _ _ _=>rfl⟩
 case len x=>exact⟨fun k=>wv (ev env x) fun vx=>A4 vx k,Ao.wv fun _=>bk _,fun _ _ _=>rfl⟩
 case M0 x y=>
  refine⟨fun k=>wv (ev env x) fun vx=>wv (ev env y) fun vy=>match vx,vy with| .i ka a,.i kb b=>ka=kb∧k (.i ka (if b > a then b else a))|_,_=>False,?_,fun _ _ _=>rfl⟩;refine Ao.wv fun vx=>Ao.wv fun vy=>?_
  cases vx<;>cases vy<;>first|exact Ao.no|exact(Ao.one _).and
 case T7 x y=>
  refine⟨fun k=>wv (ev env x) fun vx=>wv (ev env y) fun vy=>match vx,vy with| .i ka a,.i kb b=>ka=kb∧k (.i ka (if b<a then b else a))|_,_=>False,?_,fun _ _ _=>rfl⟩;refine Ao.wv fun vx=>Ao.wv fun vy=>?_
  cases vx<;>cases vy<;>first|exact Ao.no|exact(Ao.one _).and
 case extract i x=>
  refine⟨fun k=>wv (ev env x) fun vx=>match vx with| .t vs=>(match vs[i]? with|some v=>k v|none=>False)|_=>False,Ao.wv fun vx=>?_,fun _ _ _=>rfl⟩;cases vx<;>first|exact Ao.no|skip
  rename_i vs;simp only;cases vs[i]? <;>first|exact Ao.no|exact Ao.one _
 case FK x=>
  refine⟨fun k=>wv (ev env x) fun vx=>match vx with
   | .p n off=>k (.p n off)
   | .rp cs=>k (.rp cs)
   | .pe n sz i off=>k (.pe n sz i off)
   | .f (.func f) first cap=>k (.f (.func f) first cap)
   | .f (.yield l) first cap=>k (.f (.yield l) first cap)
   | _=>False,Ao.wv fun vx=>?_,fun _ _ _=>rfl⟩
  cases vx<;>first|exact Ao.no|exact Ao.one _|skip
  rename_i f a b;cases f<;>first|exact Ao.no|exact Ao.one _
 case H5 f a b=>exact⟨fun k=>ws (Ty env a) fun vf=>ws (Ty env b) fun vc=>k (.f f vf vc),Ao.ws fun _=>Ao.ws fun _=>Ao.one _,fun _ _ _=>rfl⟩
 case GO t x=>exact⟨fun k=>wv (ev env x) fun vx=>k (.J1 t vx),Ao.wv fun _=>Ao.one _,fun _ _ _=>rfl⟩
 case cf t z ok x=>
  refine⟨fun k=>wv (ev env x) fun vx=>match vx with
   | .J1 t' v=>(t'=t→k (bif ok then .t [v,.b true]else v))∧(t'≠t→ok=true∧k (.t [z,.b false]))
   | .IB=>ok=true∧k (.t [z,.b false])
   | _=>False,Ao.wv fun vx=>?_,fun _ _ _=>rfl⟩
  cases vx<;>first|exact Ao.no|exact(Ao.one _).and|skip
  rename_i t' v;simp only;by_cases ht:t'=t
  ·simpa[ht]using Ao.one _
  ·simpa[ht]using(Ao.one (.t [z,.b false])).and
 case NK f as=>
  refine⟨fun k=>ws (Ty env as) fun vs=> ∃v,BD P f vs (fun _=>none) (fun r σ'=>r= .ret v∧σ'=fun _=>none)∧k v,Ao.ws fun vs=>?_,fun _ _ _=>rfl⟩;intro k ⟨v,h1,h2⟩;exact⟨v,h2,fun k' hk=>⟨v,h1,hk⟩⟩
 case slice s x a b c=>
  exfalso;simp only[kd]at hk;split at hk<;>cases hk
 case append a b x y=>
  exfalso;simp only[kd]at hk;split at hk<;>cases hk
 all_goals exact⟨fun _=>False,Ao.no,fun _ _ _=>rfl⟩
def still (o:GL):Bool:=match kd o with| .P=>true| .N=>true|_=>false
def HL {o : GL} (hs:still o=true) {k kp:V→AH→Prop} (h:FZ P o env σ k kp) :
    ∃v,k v σ∧ ∀σ' (k' kp':V→AH→Prop),(kd o= .P∨Sub σ σ')→k' v σ'→FZ P o env σ' k' kp':=by
 unfold still at hs;cases hk:kd o<;>rw[hk]at hs<;>first|(cases hs;done)|skip
 ·obtain⟨AE,h1,h2⟩:=om (P:=P) (env:=env) hk
  rw[h2]at h;obtain⟨v,h3,h4⟩:=h1 _ h;exact⟨v,h3,fun σ' k' kp' _ hv=>by rw[h2];exact h4 _ hv⟩
 ·cases o <;>first|(simp[kd]at hk;done)|skip
  case load agg x=>
   simp only[FZ]at *;cases hx:ev env x with
   | none=>rw[hx]at h;exact h.elim
   | some vx=>
     rw[hx]at h;obtain⟨v,h3,h4⟩:=YQ σ agg vx _ h;refine⟨v,h3,fun σ' k' kp' hs hv=>X1 (hs.resolve_left (by simp)) (h4 _ hv)⟩
  case XG x=>
   simp only[FZ]at *;cases hx:ev env x with
   | none=>rw[hx]at h;exact h.elim
   | some vx=>
     rw[hx]at h
     try simp only[GU]at h ⊢
     obtain⟨v,h3,h4⟩:=YR σ vx _ h;refine⟨v,h3,fun σ' k' kp' hs hv=>X2 (hs.resolve_left (by simp)) (h4 _ hv)⟩
  case str x=>
   simp only[FZ]at *;cases hx:ev env x with
   | none=>rw[hx]at h;exact h.elim
   | some vx=>
     rw[hx]at h
     try simp only[GU]at h ⊢
     obtain⟨v,h3,h4⟩:=bQ h;exact⟨v,h3,fun σ' k' kp' hs hv=>h4 _ _ (hs.resolve_left (by simp)) hv⟩
  case lookup ks z ok x y=>
   simp only[FZ]at *;cases hx:ev env x with
   | none=>rw[hx]at h;exact h.elim
   | some vx=>
     rw[hx]at h
     try simp only[GU]at h ⊢
     cases hy:ev env y with
     | none=>rw[hy]at h;exact h.elim
     | some vy=>
       rw[hy]at h
       try simp only[GU]at h ⊢
       obtain⟨v,h1,h2⟩:=Tm h;exact⟨v,h1,fun σ' k' kp' hs hk'=>h2 σ' _ (hs.resolve_left (by simp)) hk'⟩
  case J6 a b x y=>
   simp only[FZ]at *;cases hx:ev env x with
   | none=>rw[hx]at h;exact h.elim
   | some vx=>
     rw[hx]at h
     try simp only[GU]at h ⊢
     cases hy:ev env y with
     | none=>rw[hy]at h;exact h.elim
     | some vy=>
       rw[hy]at h
       try simp only[GU]at h ⊢
       obtain⟨v,h1,h2⟩:=YS h;exact⟨v,h1,fun σ' k' kp' hs hk'=>h2 σ' _ (hs.resolve_left (by simp)) hk'⟩
  case slice s x a b c=>
   cases c with
   | some c=>simp[kd]at hk
   | none=>
     simp only[FZ]at *;cases hx:ev env x with
     | none=>rw[hx]at h;exact h.elim
     | some vx=>
       rw[hx]at h
       try simp only[GU]at h ⊢
       cases ha:IM env a with
       | none=>rw[ha]at h;exact h.elim
       | some va=>
         rw[ha]at h
         try simp only[Vu]at h ⊢
         cases hb:IM env b with
         | none=>rw[hb]at h;exact h.elim
         | some vb=>
           rw[hb]at h;simp only[Vu,IM]at h ⊢;obtain⟨v,h1,h2⟩:=VI h;exact⟨v,h1,fun σ' k' kp' _ hk'=>h2 σ' k' hk'⟩
  case append a b x y=>
   exfalso;simp only[kd]at hk;split at hk<;>cases hk
end Go.Gl
namespace Go.Gl
variable {P:Program} {Λ:Nat→Prop} {σ:AH}
def GM (σ:AH) (D:Nat→Prop):AH:=fun n=>open Classical in if D n then σ n else none
def DP {D:Nat→Prop} {n:Nat} (h:D n):GM σ D n=σ n:=by unfold GM;rw[if_pos h]
def DW {D:Nat→Prop} {n:Nat} (h: ¬D n):GM σ D n=none:=by unfold GM;rw[if_neg h]
def join (σ τ:AH):AH:=fun n=>match σ n with|some o=>some o|none=>τ n
def BD.frame {f:FuncId} {args:List V} {Q:R→AH→Prop} (D:Nat→Prop) (h:BD P f args (GM σ D) Q) :
    BD P f args σ fun r σ'=> ∃σ1,Q r σ1∧(∀n,¬D n→σ n≠none→σ1 n=none)∧σ'=join σ1 (GM σ fun n=> ¬D n):=by
 refine⟨h.1,fun Λ w cs G hv=>?_⟩
 have hH:(Hh (fun n=>Λ n∨(¬D n∧σ n≠none)) (GM σ D) w)=Hh Λ σ w:=by
  funext b o;unfold Hh;by_cases hb:Λ b∨(σ b).isSome=true
  ·rw[if_pos hb,if_pos]
   rcases hb with hb|hb
   ·exact .inl (.inl hb)
   ·by_cases hd:D b
    ·exact .inr (by rw[DP hd];exact hb)
    ·exact .inl (.inr ⟨hd,by intro e;rw[e]at hb;cases hb⟩)
  ·rw[if_neg hb,if_neg]
   rintro((h|h)|h)
   ·exact hb (.inl h)
   ·exact hb (.inr (by cases hs:σ b with|none=>exact absurd hs h.2|some o=>rfl))
   ·by_cases hd:D b
    ·rw[DP hd]at h;exact hb (.inr h)
    ·rw[DW hd]at h;cases h
 have hR1:Rel (fun n=>Λ n∨(¬D n∧σ n≠none)) (GM σ D) w:=by
  refine⟨fun n o ho=>?_,fun n hn=>?_⟩
  ·by_cases hd:D n
   ·rw[DP hd]at ho
    obtain⟨h1,ob,h2,h3⟩:=G.own n o ho;refine⟨?_,ob,h2,by rw[hH];exact h3⟩;rintro(h|h)
    ·exact h1 h
    ·exact h.1 hd
   ·rw[DW hd]at ho;cases ho
  ·rcases hn with hn|hn
   ·exact G.lock n hn
   ·cases hs:σ n with
    | none=>exact absurd hs hn.2
    | some o=>exact G.lt hs
 refine Calls.mono (h.2 _ w cs hR1 (by rw[hH];exact hv)) fun e w' ⟨r,σ1,hq,h1,h2,h3⟩=>?_
 have hfr: ∀n,¬D n→σ n≠none→σ1 n=none:=fun n hd hn=>by
  cases hs:σ1 n with
  | none=>rfl
  | some o=>exact absurd (.inr ⟨hd,hn⟩) (h2.own n o hs).1
 have hle:T3 (Hh (fun n=>Λ n∨(¬D n∧σ n≠none)) σ1 w') (Hh Λ (join σ1 (GM σ fun n=> ¬D n)) w'):=by
  intro b o c hc;obtain⟨k1,k2,k3⟩:=Fp hc;rw[L8 (fun h=>k1 (.inl h)) ?_]
  ·exact k3
  ·simp only[join,k2]
   by_cases hd:D b
   ·exact DW (fun h=>h hd)
   ·rw[DP hd]
    cases hs:σ b with
    | none=>rfl
    | some o=>exact absurd (.inr ⟨hd,by rw[hs];simp⟩) k1
 have Y:Bw Λ σ w (join σ1 (GM σ fun n=> ¬D n)) w':=by
  refine⟨fun n hn h0=>h3.frame n hn ?_,h3.size,h3.os,h3.tape,h3.output,fun n h0 hn=>?_⟩
  ·by_cases hd:D n
   ·rw[DP hd];exact h0
   ·exact DW hd
  ·have:σ1 n=none:=h3.names n (by
    by_cases hd:D n
    ·rw[DP hd];exact h0
    ·exact DW hd) hn
   simp only[join,this];by_cases hd:D n
   ·exact DW (fun h=>h hd)
   ·rw[DP hd];exact h0
 refine⟨r,_,⟨σ1,hq,hfr,rfl⟩,?_,⟨fun n o ho=>?_,fun n hn=>h2.lock n (.inl hn)⟩,Y⟩
 ·cases r with
  | ret v=>obtain⟨c,rfl,hv⟩:=h1;exact⟨c,rfl,hv.mono hle⟩
  | Cw v=>obtain⟨c,rfl,hv⟩:=h1;exact⟨c,rfl,hv.mono hle⟩
 ·simp only[join]at ho
  cases hs:σ1 n with
  | some o1=>
    rw[hs]at ho;simp only[Hp]at ho;subst ho;obtain⟨k1,ob,k2,k3⟩:=h2.own n _ hs;exact⟨fun h=>k1 (.inl h),ob,k2,k3.mono hle⟩
  | none=>
    rw[hs]at ho;simp only at ho;by_cases hd:D n
    ·rw[DW (fun h=>h hd)]at ho;cases ho
    ·rw[DP hd]at ho
     obtain⟨k1,ob,k2,k3⟩:=G.own n o ho;refine⟨k1,ob,(h3.frame n (G.lt ho) (DW hd)).trans k2,k3.mono ?_⟩;exact Y.hle
end Go.Gl
namespace Go.Gl
variable {P:Program} {Λ:Nat→Prop} {env env':Env} {σ:AH}
def Bp {o:Option V} {k k':V→Prop} (h:wv o k) (hm: ∀v,k v→k' v):wv o k':=by
 cases o with
 | none=>exact h
 | some v=>exact hm v h
def KH {o:Option (List V)} {k k':List V→Prop} (h:ws o k) (hm: ∀v,k v→k' v):ws o k':=by
 cases o with
 | none=>exact h
 | some v=>exact hm v h
def Qu {o:Option (Option V)} {k k':Option V→Prop} (h:wo o k) (hm: ∀v,k v→k' v):wo o k':=by
 cases o with
 | none=>exact h
 | some v=>exact hm v h
def Tb {sz:Nat} {a x:V} {k k':AH→Prop} (h:AW σ sz a x k) (hm: ∀σ',k σ'→k' σ'):AW σ sz a x k':=by
 unfold AW at *;split at h
 ·rename_i vc hc
  obtain⟨h1,h2,h3⟩:=h;refine⟨h1,h2,?_⟩;cases a<;>first|exact h3.elim|skip
  ·simp only at *
   split at h3
   ·exact⟨h3.1,hm _ h3.2⟩
   ·exact h3.elim
  ·simp only at *
   split at h3
   ·refine⟨h3.1,?_⟩
    have h4:=h3.2;split at h4
    ·exact⟨h4.1,hm _ h4.2⟩
    ·exact h4.elim
   ·exact h3.elim
 ·exact h.elim
def FV {sz:Nat} {y:V} {k k':List (List V)→Prop} (h:rowsOf σ sz y k) (hm: ∀v,k v→k' v):rowsOf σ sz y k':=by
 unfold rowsOf at *;cases y<;>first|exact h.elim|skip
 ·exact⟨h.1,hm _ h.2⟩
 ·simp only at *
  split at h
  ·exact⟨h.1,h.2.1,hm _ h.2.2⟩
  ·exact h.elim
 ·simp only at *
  split at h
  ·exact⟨h.1,h.2.1,h.2.2.1,hm _ h.2.2.2⟩
  ·exact h.elim
def RX {b sz:Nat} {x y:V} {k k':V→AH→Prop} (h:AO b σ sz x y k) (hm: ∀v σ',k v σ'→k' v σ'):AO b σ sz x y k':=by
 unfold AO at *;refine FV h fun ys ⟨h1,h2⟩=>⟨h1,?_⟩
 cases x<;>first|exact h2.elim|skip
 ·simp only at *
  exact⟨h2.1,h2.2.1,fun e=>hm _ _ (h2.2.2.1 e),fun e=>⟨(h2.2.2.2 e).1,fun n cap h3 h4=>hm _ _ ((h2.2.2.2 e).2 n cap h3 h4)⟩⟩
 ·simp only at *
  split at h2
  ·exact⟨h2.1,h2.2.1,h2.2.2.1,h2.2.2.2.1,fun n cap h3 h4=>hm _ _ (h2.2.2.2.2 n cap h3 h4)⟩
  ·exact h2.elim
def HC {o:Option V} {d:Int} {k k':Int→Prop} (h:Ow o d k) (hm: ∀v,k v→k' v):Ow o d k':=by
 unfold Ow at *;split at h
 ·exact hm _ h
 ·exact hm _ h
 ·exact h.elim
def Td {sz:Nat} {x:V} {a b c:Option V} {k k':V→AH→Prop} (h:AV σ sz x a b c k) (hm: ∀v σ',k v σ'→k' v σ'):AV σ sz x a b c k':=by
 unfold AV at *;cases x<;>first|exact h.elim|skip
 ·simp only at *
  refine⟨h.1,HC h.2 fun hh h2=>HC h2 fun l h3=>⟨h3.1,h3.2.1,h3.2.2.1,?_⟩⟩;have h4:=h3.2.2.2;split at h4
  ·exact hm _ _ h4
  ·exact⟨h4.1,hm _ _ h4.2⟩
  ·exact h4.elim
 ·simp only at *
  refine HC h fun hh h2=>HC h2 fun l h3=>⟨h3.1,h3.2.1,h3.2.2.1,?_⟩
  have h4:=h3.2.2.2;split at h4
  ·exact hm _ _ h4
  ·refine⟨h4.1,h4.2.1,h4.2.2.1,?_⟩
   have h5:=h4.2.2.2;split at h5
   ·exact⟨h5.1,h5.2.1,h5.2.2.1,h5.2.2.2.elim (fun h=> .inl (hm _ _ h)) fun h=> .inr (hm _ _ h)⟩
   ·exact h5.elim
  ·exact h4.elim
 ·simp only at *
  exact HC h fun hh h2=>HC h2 fun l h3=>⟨h3.1,h3.2.1,h3.2.2.1,h3.2.2.2.1,h3.2.2.2.2.1,hm _ _ h3.2.2.2.2.2⟩
def Pr {sz:Nat} {ys:List (List V)} {n off len:Nat} {k k':V→AH→Prop} (h:Qb σ sz ys n off len k) (hm: ∀v σ',k v σ'→k' v σ'):Qb σ sz ys n off len k':=by
 unfold Qb at *;split at h
 ·exact⟨h.1,h.2.1,hm _ _ h.2.2⟩
 ·exact h.elim
def U4 {sz:Nat} {x y:V} {k k':V→AH→Prop} (h:Ag σ sz x y k) (hm: ∀v σ',k v σ'→k' v σ'):Ag σ sz x y k':=by
 refine FV h fun ys h=>⟨h.1,?_⟩
 have h:=h.2;split at h
 ·exact Pr h hm
 ·exact⟨h.1,Pr h.2 hm⟩
 ·exact h.elim
def N4 {o:GL} {k k' kp kp':V→AH→Prop} (h:FZ P o env σ k kp) (hm: ∀v σ',k v σ'→k' v σ') (hp: ∀v σ',kp v σ'→kp' v σ'):FZ P o env σ k' kp':=by
 by_cases hs:still o=true
 ·obtain⟨v,h1,h2⟩:=HL hs h
  exact h2 σ k' kp' (.inr fun _ _ h=>h) (hm _ _ h1)
 ·cases o<;>first|(exact absurd rfl hs)|skip
  all_goals simp only[FZ]at *
  case box x=>
   refine Bp h fun v h=>?_
   split at h
   ·exact fun n hn=>hm _ _ (h n hn)
   ·exact h.elim
  case alloc z=>exact fun n hn=>hm _ _ (h n hn)
  case Yo x=>exact Bp h fun v ⟨vf,σ2,h1,h2,h3⟩=>⟨vf,σ2,h1,h2,hm _ _ h3⟩
  case IN=>exact fun n hn=>hm _ _ (h n hn)
  case D6 ks x y z=>
   refine Bp h fun vm h=>Bp h fun vk h=>Bp h fun vx h=>?_
   unfold AT at *;obtain⟨h0,h⟩:=h;cases vm<;>first|exact h.elim|skip
   simp only at *;split at h
   ·exact⟨h0,h.1,hm _ _ h.2⟩
   ·exact h.elim
  case Ys q n x=>
   refine Bp h fun vx h=>?_
   unfold R3 at *;split at h<;>first|exact h.elim|exact hm _ _ h|exact⟨fun e t=>hm _ _ (h.1 e t),fun e=>hm _ _ (h.2 e)⟩
  case Fm a b c x y=>
   refine Bp h fun vx h=>Bp h fun vy h=>?_
   unfold AN at *;split at h
   ·exact⟨h.1,h.2.1,h.2.2.1,fun id hn=>hm _ _ (h.2.2.2 id hn)⟩
   ·exact h.elim
  case store sz a x=>exact Bp h fun va h=>Bp h fun vx h=>Tb h fun σ' h=>hm _ _ h
  case slice sz x a b c=>exact Bp h fun vx h=>Qu h fun l h=>Qu h fun hh h=>Qu h fun m h=>Td h hm
  case append sz b x y=>exact Bp h fun vx h=>Bp h fun vy h=>RX h hm
  case copy sz x y=>exact Bp h fun vx h=>Bp h fun vy h=>U4 h hm
  case inv tab x as=>exact Bp h fun vx h=>KH h fun vs h=>h.mono fun r σ' h=>by cases r<;>first|exact hm _ _ h|exact hp _ _ h
  case panic x=>
   refine Bp h fun vx h=>?_
   split at h
   ·exact hp _ _ h
   ·exact h.elim
  case call f as=>exact KH h fun vs h=>h.mono fun r σ' h=>by cases r<;>first|exact hm _ _ h|exact hp _ _ h
  case B6 x as=>
   exact Bp h fun vx h=>KH h fun vs h=>h.mono fun r σ' h=>by cases r<;>first|exact hm _ _ h|exact hp _ _ h
def GW {n:Nat} {o:O} (hn:σ n=none):Sub σ (A7 σ n o):=fun m p hp=>by
 unfold A7;split
 ·rename_i e
  subst e;rw[hn]at hp;cases hp
 ·exact hp
def calm (o:GL):Bool:=match kd o with| .H=>false|_=>true
def MI {b sz:Nat} {y:V} {k:V→AH→Prop}:AO b σ sz (.l [] true) y k=rowsOf σ sz y fun ys=>(∀e∈ys,∀v∈e,Di v=true)∧(ys.length≤Ac∧ys.length*b≤140737488355328)∧(ys= []→k (.l [] true) σ)∧
 (ys≠[]→ ∀n cap,σ n=none→ys.length≤cap→k (.sl n ys.length cap) (A7 σ n (.arr sz ys cap))):=by
 simp[AO]
def MA {s:Nat} {x:B9} {a b c:Option B9} (h:calm (.slice s x a b c)=true):still (.slice s x a b c)=true:=by
 cases c with
 | none=>rfl
 | some c=>cases h
def Pq {a b:Nat} {x y:B9} (h:kd (.append a b x y)≠ .H):x= .c (.l [] true):=by
 simp only[kd]at h;split at h
 ·rfl
 ·exact absurd rfl h
def W6 {o:GL} (hc:calm o=true) {k kp:V→AH→Prop} (h:FZ P o env σ k kp):FZ P o env σ (fun v σ'=>k v σ'∧Sub σ σ') kp:=by
 by_cases hs:still o=true
 ·obtain⟨v,h1,h2⟩:=HL hs h
  exact h2 σ _ kp (.inr fun _ _ h=>h) ⟨h1,fun _ _ h=>h⟩
 ·cases o<;>first|(exact absurd rfl hs)|(cases hc;done)|skip
  all_goals simp only[FZ]at *
  case slice s x a b c=>exact absurd (MA hc) hs
  case box x=>
   refine Bp h fun v h=>?_
   split at h
   ·exact fun n hn=>⟨h n hn,GW hn⟩
   ·exact h.elim
  case alloc z=>exact fun n hn=>⟨h n hn,GW hn⟩
  case append sz b x y=>
   have hx:x= .c (.l [] true):=Pq (b:=b) (a:=sz) (y:=y) (by intro e;simp[calm,e]at hc);subst hx;change wv (ev env y) _ at h;change wv (ev env y) _;refine Bp h fun vy h=>?_
   rw[MI]at *;exact FV h fun ys h=>⟨h.1,h.2.1,fun e=>⟨h.2.2.1 e,fun _ _ h=>h⟩,fun e n cap h3 h4=>⟨h.2.2.2 e n cap h3 h4,GW h3⟩⟩
def Nb {n m:Nat} (h:n≠m) (a b:O):A7 (A7 σ n a) m b=A7 (A7 σ m b) n a:=by
 funext k;unfold A7;by_cases h1:k=m
 ·have h2:k≠n:=fun e=>h (e.symm.trans h1)
  rw[if_pos h1,if_neg h2,if_pos h1]
 ·rw[if_neg h1,if_neg h1]
def JX {n m:Nat} (h:n≠m) {a:O}:A7 σ n a m=σ m:=by
 unfold A7;rw[if_neg (fun e=>h e.symm)]
def LI {n:Nat} {a:O}:A7 σ n a n=some a:=by simp[A7]
def Ul {σ':AH} (hs:Sub σ σ') {sz:Nat} {y:V} {k:List (List V)→Prop} (h:rowsOf σ sz y k):rowsOf σ' sz y k:=by
 unfold rowsOf at *;cases y<;>first|exact h.elim|exact h|skip
 ·rename_i m len cap
  simp only at *;cases hm:σ m with
  | none=>rw[hm]at h;exact h.elim
  | some o=>rw[hm]at h;rw[hs m o hm];exact h
 ·rename_i m s off len
  simp only at *;cases hm:σ m with
  | none=>rw[hm]at h;exact h.elim
  | some o=>rw[hm]at h;rw[hs m o hm];exact h
def TK {o:GL} (hc:calm o=true) {k kp:V→AH→Prop} (h:FZ P o env σ k kp) {m:Nat} {z:O} (hm:σ m=none) :
    FZ P o env (A7 σ m z) (fun v σ2=> ∃σ1,k v σ1∧σ1 m=none∧σ2=A7 σ1 m z) kp:=by
 by_cases hs:still o=true
 ·obtain⟨v,h1,h2⟩:=HL hs h
  exact h2 _ _ kp (.inr (GW hm)) ⟨σ,h1,hm,rfl⟩
 ·have hne: ∀n,A7 σ m z n=none→σ n=none∧n≠m:=fun n hn=>by
   have:n≠m:=fun e=>by rw[e,LI]at hn;cases hn
   exact⟨by rwa [JX this.symm]at hn,this⟩
  cases o<;>first|(exact absurd rfl hs)|(cases hc;done)|skip
  all_goals simp only[FZ]at *
  case slice s x a b c=>exact absurd (MA hc) hs
  case box x=>
   refine Bp h fun v h=>?_
   split at h
   ·exact fun n hn=>⟨_,h n (hne n hn).1,by rw[JX (hne n hn).2];exact hm,Nb (hne n hn).2.symm _ _⟩
   ·exact h.elim
  case alloc z'=>exact fun n hn=>⟨_,h n (hne n hn).1,by rw[JX (hne n hn).2];exact hm,Nb (hne n hn).2.symm _ _⟩
  case append sz b x y=>
   have hx:x= .c (.l [] true):=Pq (b:=b) (a:=sz) (y:=y) (by intro e;simp[calm,e]at hc);subst hx;change wv (ev env y) _ at h;change wv (ev env y) _;refine Bp h fun vy h=>?_
   rw[MI]at *;refine FV (Ul (GW hm) h) fun ys h=>⟨h.1,h.2.1,fun e=>⟨σ,h.2.2.1 e,hm,rfl⟩,fun e n cap h3 h4=>?_⟩
   exact⟨_,h.2.2.2 e n cap (hne n h3).1 h4,by rw[JX (hne n h3).2];exact hm,Nb (hne n h3).2.symm _ _⟩
def UM:GL→Bool| .call _ _=>true|_=>false
def TL {o:GL} (hc:UM o=true) {k kp:V→AH→Prop} (hU: ∀v σ m z,σ m=none→kp v σ→kp v (A7 σ m z)) (h:FZ P o env σ k kp) {m:Nat} {z:O} (hm:σ m=none) :
    FZ P o env (A7 σ m z) (fun v σ2=> ∃σ1,k v σ1∧σ1 m=none∧σ2=A7 σ1 m z) kp:=by
 cases o<;>first|(cases hc;done)|skip
 rename_i f args;simp only[FZ]at *;refine KH h fun vs h=>?_
 have hr:GM (A7 σ m z) (fun n=>n≠m)=σ:=by
  funext n;by_cases hn:n=m
  ·subst hn;rw[DW (fun h=>h rfl),hm]
  ·rw[DP hn];simp[A7,hn]
 have h':BD P f vs (GM (A7 σ m z) fun n=>n≠m) (qk k kp):=by rw[hr];exact h
 refine BD.mono (BD.frame (fun n=>n≠m) h') fun r σ' ⟨σ1,hq,hfr,he⟩=>?_
 have h1:σ1 m=none:=hfr m (fun h=>h rfl) (by rw[LI];simp)
 have h2:σ'=A7 σ1 m z:=by
  rw[he];funext n;simp only[join];by_cases hn:n=m
  ·subst hn
   rw[h1];simp only;rw[DP (fun h=>h rfl),LI,LI]
  ·rw[DW (fun h=>h hn)]
   cases hs:σ1 n with
   | none=>simp[A7,hn,hs]
   | some o=>simp[A7,hn,hs]
 cases r with
 | ret v=>exact⟨σ1,hq,h1,h2⟩
 | Cw v=>rw[h2];exact hU _ _ _ _ h1 hq
structure Ad where
 dst:Option Nat
 op:GL
 guard:Option (Nat×Bool)
 deriving Inhabited
def put (d:Option Nat) (v:V) (env:Env):Env:=match d with|some d=>(d,v)::env|none=>env
def H6 (P:Program) (o:Ad) (env:Env) (σ:AH) (k kp:V→AH→Prop):Prop:=
 match o.guard with
 | none=>FZ P o.op env σ k kp
 | some (g,b)=>match get g env with
   | some (.b t)=>(t=b→FZ P o.op env σ k kp)∧(t= !b→k (.t []) σ)
   | some (.t [])=>k (.t []) σ
   | _=>False
def looks (o:Ad):List Nat:=reads o.op++(match o.guard with|some (g,_)=>[g]|none=>[])
def Fy {o:Ad} {k kp:V→AH→Prop} (h: ∀s∈looks o,get s env'=get s env):H6 P o env' σ k kp=H6 P o env σ k kp:=by
 unfold H6;unfold looks at h;cases hg:o.guard with
 | none=>exact QK fun s hs=>h s (Mt _ hs)
 | some p=>
   obtain⟨g,b⟩:=p;simp only;rw[h g (by rw[hg];simp),QK fun s hs=>h s (Mt _ hs)]
def B8 {o:Ad} {k k' kp kp':V→AH→Prop} (h:H6 P o env σ k kp) (hm: ∀v σ',k v σ'→k' v σ') (hp: ∀v σ',kp v σ'→kp' v σ'):H6 P o env σ k' kp':=by
 unfold H6 at *;split at h
 ·exact N4 h hm hp
 ·split at h
  ·exact⟨fun e=>N4 (h.1 e) hm hp,fun e=>hm _ _ (h.2 e)⟩
  ·exact hm _ _ h
  ·exact h.elim
def QL {o:Ad} (hs:still o.op=true) {k kp:V→AH→Prop} (h:H6 P o env σ k kp) :
    ∃v,k v σ∧ ∀σ' (k' kp':V→AH→Prop),(kd o.op= .P∨Sub σ σ')→k' v σ'→H6 P o env σ' k' kp':=by
 unfold H6 at *;split at h
 ·obtain⟨v,h1,h2⟩:=HL hs h
  exact⟨v,h1,fun σ' k' kp' hσ hk=>h2 σ' k' kp' hσ hk⟩
 ·rename_i g b hg
  split at h
  ·rename_i t ht
   skip
   by_cases htb:t=b
   ·obtain⟨v,h1,h2⟩:=HL hs (h.1 htb)
    refine⟨v,h1,fun σ' k' kp' hσ hk=>?_⟩;exact⟨fun _=>h2 σ' k' kp' hσ hk,fun e=>absurd (htb.symm.trans e) (by cases b<;>simp)⟩
   ·refine⟨.t [],h.2 (by cases t<;>cases b<;>simp_all),fun σ' k' kp' hσ hk=>?_⟩
    exact⟨fun e=>absurd e htb,fun _=>hk⟩
  ·exact⟨.t [],h,fun σ' k' kp' hσ hk=>hk⟩
  ·exact h.elim
def W7 {o:Ad} (hc:calm o.op=true) {k kp:V→AH→Prop} (h:H6 P o env σ k kp):H6 P o env σ (fun v σ'=>k v σ'∧Sub σ σ') kp:=by
 unfold H6 at *;split at h
 ·exact W6 hc h
 ·split at h
  ·exact⟨fun e=>W6 hc (h.1 e),fun e=>⟨h.2 e,fun _ _ h=>h⟩⟩
  ·exact⟨h,fun _ _ h=>h⟩
  ·exact h.elim
def cN {o:Ad} (hc:calm o.op=true) {k kp:V→AH→Prop} (h:H6 P o env σ k kp) {m:Nat} {z:O} (hm:σ m=none) :
    H6 P o env (A7 σ m z) (fun v σ2=> ∃σ1,k v σ1∧σ1 m=none∧σ2=A7 σ1 m z) kp:=by
 unfold H6 at *;split at h
 ·exact TK hc h hm
 ·split at h
  ·exact⟨fun e=>TK hc (h.1 e) hm,fun e=>⟨σ,h.2 e,hm,rfl⟩⟩
  ·exact⟨σ,h,hm,rfl⟩
  ·exact h.elim
def Vj (o:GL):Bool:=calm o||UM o
def Yi {o:Ad} (hc:Vj o.op=true) {k kp:V→AH→Prop} (hU: ∀v σ m z,σ m=none→kp v σ→kp v (A7 σ m z)) (h:H6 P o env σ k kp) {m:Nat} {z:O} (hm:σ m=none) :
    H6 P o env (A7 σ m z) (fun v σ2=> ∃σ1,k v σ1∧σ1 m=none∧σ2=A7 σ1 m z) kp:=by
 cases hc':calm o.op with
 | true=>exact cN hc' h hm
 | false=>
   have hc2:UM o.op=true:=by simpa[Vj,hc']using hc
   unfold H6 at *;split at h
   ·exact TL hc2 hU h hm
   ·split at h
    ·exact⟨fun e=>TL hc2 hU (h.1 e) hm,fun e=>⟨σ,h.2 e,hm,rfl⟩⟩
    ·exact⟨σ,h,hm,rfl⟩
    ·exact h.elim
end Go.Gl
namespace Go.Gl
variable {P:Program} {Λ:Nat→Prop} {env env':Env} {σ:AH}
structure C6 where
 i:Nat
 o:Ad
 gY:List Nat
 re:List Ad
 deriving Inhabited
def AP (x:Ad):List Nat:=(match x.dst with|some d=>[d]|none=>[])++looks x
def G3 (P:Program) (x:Ad) (env:Env) (σ:AH):Prop:=H6 P x env σ (fun u _=> ∀s,x.dst=some s→get s env=some u) (fun _ _=>False)
def El (P:Program):List Ad→Env→AH→Prop
 | [],_,_=>True
 | x::r,env,σ=>G3 P x env σ∧El P r env σ
def El.mem: ∀ {l:List Ad},El P l env σ→ ∀x∈l,G3 P x env σ
 | _::_,h,_,.head _=>h.1
 | _::_,h,x,.tail _ hx=>El.mem h.2 x hx
def D1 (P:Program):List C6→(Env→AH→Prop)→(V→AH→Prop)→Env→AH→Prop
 | [],K,_,env,σ=>K env σ
 | d::r,K,kp,env,σ=>H6 P d.o env σ (fun v σ'=>El P d.re (put d.o.dst v env) σ'∧D1 P r K kp (put d.o.dst v env) σ') kp
def cY (env env':Env):Prop:= ∀s,get s env=get s env'
def CQ {s:Nat} {d:Option Nat} {v:V} (h:d≠some s):get s (put d v env)=get s env:=by
 cases d with
 | none=>rfl
 | some d=>
   simp only[put,get];cases hb:Nat.beq d s with
   | false=>rfl
   | true=>exact absurd (by rw[Vd hb]) h
def EU {s:Nat} {v:V}:get s (put (some s) v env)=some v:=by simp[put,get]
def cY.put {d:Option Nat} {v:V} (h:cY env env'):cY (Gl.put d v env) (Gl.put d v env'):=fun s=>by
 by_cases hd:d=some s
 ·subst hd
  rw[EU,EU]
 ·rw[CQ hd,CQ hd,h]
def ba {d e:Option Nat} {v u:V} (h: ∀s,d=some s→e≠some s):cY (Gl.put d v (Gl.put e u env)) (Gl.put e u (Gl.put d v env)):=fun s=>by
 by_cases hd:d=some s
 ·subst hd
  rw[EU,CQ (h s rfl),EU]
 ·rw[CQ hd]
  by_cases he:e=some s
  ·subst he
   rw[EU,EU]
  ·rw[CQ he,CQ he,CQ hd]
def MR {x:Ad} (h: ∀s∈AP x,get s env'=get s env) (hr:G3 P x env σ):G3 P x env' σ:=by
 unfold G3 at *;rw[Fy (env:=env) fun s hs=>h s (LA _ hs)];refine B8 hr (fun v σ' hv s hs=>?_) fun _ _ h=>h
 rw[h s (Mt _ (by rw[hs];simp))];exact hv s hs
def K2: ∀ {l:List Ad},(∀s,get s env'=get s env)→El P l env σ→El P l env' σ
 | [],_,_=>trivial
 | _::_,h,hr=>⟨MR (fun s _=>h s) hr.1,K2 h hr.2⟩
section
variable {K:Env→AH→Prop} {kp:V→AH→Prop}
def I3 (U: ∀env env' σ,cY env env'→K env σ→K env' σ): ∀ {l:List C6} {env env':Env} {σ:AH},cY env env'→D1 P l K kp env σ→D1 P l K kp env' σ
 | [],_,_,_,hg,h=>U _ _ _ hg h
 | d::r,env,env',σ,hg,h=>by
   simp only[D1]at *;rw[Fy (env:=env) fun s _=>(hg s).symm];exact B8 h (fun v σ' ⟨h1,h2⟩=>⟨K2 (fun s=>(hg.put s).symm) h1,I3 U hg.put h2⟩) fun _ _ h=>h
def gV (x y:Ad):Prop:=(∀d,x.dst=some d→d∉looks y∧y.dst≠some d)∧ ∀d,y.dst=some d→d∉looks x
def fresh (y x:Ad):Prop:= ∀d,y.dst=some d→d∉AP x
def tP (x y:C6):Prop:=x.re= []∧gV x.o y.o∧
 ((still x.o.op=true∧calm y.o.op=true)∨kd x.o.op= .P∨(still x.o.op=true∧x.o∈y.re∧ ∀d,x.o.dst=some d→d∉looks x.o)∨(Vj x.o.op=true∧y.re= []∧y.o.guard=none∧ ∃z,y.o.op= .alloc z))
def Z4 (hU: ∀v σ m z,σ m=none→kp v σ→kp v (A7 σ m z)) (U: ∀env env' σ,cY env env'→K env σ→K env' σ) {i:C6} {ys:List C6}: ∀ {xs:List C6},(∀x∈xs,tP x i)→xs.Pairwise (fun x y=>kd x.o.op= .N→fresh y.o x.o)→
    ∀ {env:Env} {σ:AH},D1 P (xs++i::ys) K kp env σ→
    H6 P i.o env σ (fun u σ'=>(∀r∈i.re,(∀x∈xs,fresh x.o r)→G3 P r (put i.o.dst u env) σ')∧D1 P (xs++ys) K kp (put i.o.dst u env) σ') kp
 | [],_,_,env,σ,h=>B8 h (fun u σ' ⟨h1,h2⟩=>⟨fun r hr _=>h1.mem r hr,h2⟩) fun _ _ h=>h
 | x ::xs,hok,hpw,env,σ,h=>by
   simp only[List.cons_append,D1]at h;obtain⟨hpw1,hpw2⟩:=List.pairwise_cons.1 hpw;obtain⟨hre,⟨ha1,ha2⟩,hk⟩:=hok x (.head _)
   have h':H6 P x.o env σ (fun v σ1=>H6 P i.o (put x.o.dst v env) σ1 (fun u σ'=>(∀r∈i.re,(∀x∈xs,fresh x.o r)→G3 P r (put i.o.dst u (put x.o.dst v env)) σ')∧D1 P (xs++ys) K kp (put i.o.dst u (put x.o.dst v env)) σ') kp) kp:=
    B8 h (fun v σ1 hh=>Z4 hU U (fun y hy=>hok y (.tail _ hy)) hpw2 hh.2) fun _ _ h=>h
   have agx: ∀v,∀s∈looks i.o,get s (put x.o.dst v env)=get s env:=fun v s hs=>CQ fun e=>(ha1 s e).1 hs
   have agi: ∀(env:Env) u,∀s∈looks x.o,get s (put i.o.dst u env)=get s env:=fun env u s hs=>CQ fun e=>ha2 s e hs
   have hcm: ∀v u,cY (put i.o.dst u (put x.o.dst v env)) (put x.o.dst v (put i.o.dst u env)):=fun v u=>ba fun s hs hx=>(ha1 s hx).2 hs
   have hRE: ∀v u σ',(∀r∈i.re,(∀x∈xs,fresh x.o r)→G3 P r (put i.o.dst u (put x.o.dst v env)) σ')→ ∀r∈i.re,(∀y∈x::xs,fresh y.o r)→G3 P r (put i.o.dst u env) σ':=fun v u σ' hh r hr hf=>by
    refine MR (fun s hs=>?_) (hh r hr fun y hy=>hf y (.tail _ hy));rw[hcm v u s,CQ fun e=>hf x (.head _) s e hs]
   by_cases hst:still x.o.op=true
   ·obtain⟨v,hi,hd⟩:=QL hst h'
    have fin: ∀u σ',(kd x.o.op= .P∨Sub σ σ')→(∀r∈i.re,(∀x∈xs,fresh x.o r)→G3 P r (put i.o.dst u (put x.o.dst v env)) σ')→D1 P (xs++ys) K kp (put i.o.dst u (put x.o.dst v env)) σ'→
     (∀r∈i.re,(∀y∈x::xs,fresh y.o r)→G3 P r (put i.o.dst u env) σ')∧D1 P (x::xs++ys) K kp (put i.o.dst u env) σ':=fun u σ' hs h1 h2=>by
     refine⟨hRE v u σ' h1,?_⟩;simp only[List.cons_append,D1];rw[Fy (env:=env) (agi env u)];exact hd σ' _ _ hs ⟨by rw[hre];trivial,I3 U (hcm v u) h2⟩
    rw[Fy (env:=env) (agx v)]at hi;rcases hk with⟨_,hc⟩|F|⟨_,hm,hself⟩|⟨_,_,hg,z,hz⟩
    ·exact B8 (W7 hc hi) (fun u σ' ⟨⟨h1,h2⟩,hs⟩=>fin u σ' (.inr hs) h1 h2) fun _ _ h=>h
    ·exact B8 hi (fun u σ' ⟨h1,h2⟩=>fin u σ' (.inl F) h1 h2) fun _ _ h=>h
    ·by_cases F:kd x.o.op= .P
     ·exact B8 hi (fun u σ' ⟨h1,h2⟩=>fin u σ' (.inl F) h1 h2) fun _ _ h=>h
     have hN:kd x.o.op= .N:=by
      unfold still at hst;cases hkk:kd x.o.op<;>rw[hkk]at hst<;>simp_all
     refine B8 hi (fun u σ' ⟨h1,h2⟩=>⟨hRE v u σ' h1,?_⟩) fun _ _ h=>h
     have hr:=h1 x.o hm fun y hy=>hpw1 y hy hN
     unfold G3 at hr;obtain⟨v',hv',hd'⟩:=QL hst hr;simp only[List.cons_append,D1]
     have hsame: ∀s∈looks x.o,get s (put i.o.dst u env)=get s (put i.o.dst u (put x.o.dst v env)):=fun s hs=>by
      rw[agi env u s hs,agi _ u s hs];by_cases hxs:x.o.dst=some s
      ·exact absurd hs (hself s hxs)
      ·rw[CQ hxs]
     rw[Fy (env:=put i.o.dst u (put x.o.dst v env)) hsame];refine hd' σ' _ kp (.inr fun _ _ h=>h) ⟨by rw[hre];trivial,?_⟩
     have hvv:put x.o.dst v' (put i.o.dst u env)=put x.o.dst v (put i.o.dst u env):=by
      cases hxd:x.o.dst with
      | none=>rfl
      | some s=>
        have e:=hv' s hxd;rw[CQ (ha1 s hxd).2,hxd,EU]at e;cases e;rfl
     rw[hvv];exact I3 U (hcm v u) h2
    ·have hc:calm i.o.op=true:=by rw[hz];rfl
     exact B8 (W7 hc hi) (fun u σ' ⟨⟨h1,h2⟩,hs⟩=>fin u σ' (.inr hs) h1 h2) fun _ _ h=>h
   ·rcases hk with⟨hst',_⟩|F|⟨hst',_,_⟩|⟨hcx,hir,hg,z,hz⟩
    ·exact absurd hst' hst
    ·exact absurd (by unfold still;rw[F]) hst
    ·exact absurd hst' hst
    ·unfold H6
     rw[hg];simp only[hz,FZ];intro m hm;refine⟨fun r hr=>(by rw[hir]at hr;exact absurd hr (by simp)),?_⟩;simp only[List.cons_append,D1];rw[Fy (env:=env) (agi env _)];refine B8 (Yi hcx hU h' (z:= .cs z) hm) (fun v σ2 ⟨σ1,hh,h1,h2⟩=>?_) fun _ _ h=>h
     unfold H6 at hh;rw[hg]at hh;simp only[hz,FZ]at hh;subst h2;exact⟨by rw[hre];trivial,I3 U (hcm v _) (hh m h1).2⟩
end
end Go.Gl
