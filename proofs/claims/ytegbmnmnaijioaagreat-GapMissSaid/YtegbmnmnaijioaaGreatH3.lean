import Derived.DeepKeys3
import Derived.StringKeys
import Derived.Test.YtegbmnmnaijioaaGreatH2
set_option linter.all false
set_option linter.defProp false
noncomputable section
namespace Go.Gl
variable {P:Program} {Λ:Nat→Prop} {σ:AH} {w:World} {k kp:V→AH→Prop}
structure KL (P:Program) (kt:TypeId) (ok:Value→Prop):Prop where
 check: ∀(w:World) (em:Bool) {v:Value},ok v→(Instr.checkKey em 10000 kt v).run P w= .ok () w
 find: ∀(w:World) {x:Value},ok x→ ∀es:List MapEntry,(∀e∈es,ok e.key)→
  ((Instr.findKey kt x es).run P w= .ok none w∧ ∀e∈es,e.key≠x)∨ ∃j e,(Instr.findKey kt x es).run P w= .ok (some (j,e.val)) w∧es[j]? =some e∧e.key=x
 stays: ∀(w:World) {v:Value},ok v→(Instr.keyThatStays v v).run P w= .ok v w
def KL.of_law {kt:TypeId} (K:WideMaps.KeyLaw P kt):KL P kt fun v=> ∃l,keyOf P kt v=some l where
 check w em _ h:=let⟨_,h⟩:=h;K.check w em h
 find w _ h es hes:=let⟨_,h⟩:=h;K.find w h es hes
 stays w _ h:=let⟨_,h⟩:=h;K.stays w h
def Np {q:IntKind} {ki:IntKind} (a:Int): ∀(es:List MapEntry) (i:Nat),(∀e∈es,∃b,e.key= .int ki b)→
    (Instr.findNow (.int q) (.int ki a) es i=some none∧ ∀e∈es,e.key≠ .int ki a)∨ ∃j e,Instr.findNow (.int q) (.int ki a) es i=some (some (i+j,e.val))∧es[j]? =some e∧e.key= .int ki a
 | [],i,_=> .inl ⟨rfl,by simp⟩
 | e ::es,i,h=>by
   obtain⟨b,hb⟩:=h e (.head _);simp only[Instr.findNow,hb,Instr.sameNow,if_true];by_cases hab:a=b
   ·subst hab
    refine .inr ⟨0,e,by simp,rfl,hb⟩
   ·have:(a==b)=false:=by simpa using hab
    rw[this];rcases Np a es (i+1) (fun e he=>h e (.tail _ he))with⟨h1,h2⟩|⟨j,e',h1,h2,h3⟩
    ·refine .inl ⟨h1,fun e' he'=>?_⟩
     rcases F7.1 he' with rfl|he'
     ·rw[hb];intro e;cases e;exact hab rfl
     ·exact h2 e' he'
    ·exact .inr ⟨j+1,e',by rw[h1,show i+1+j=i+(j+1) by omega],h2,h3⟩
def dQ {kt:TypeId} {q:IntKind} (hu:P.underlying kt=some (.int q)) (em:Bool) (n:Nat) (ki:IntKind) (b:Int):(Instr.checkKey em (n+1) kt (.int ki b)).run P w= .ok () w:=by
 simp only[Instr.checkKey,DZ,BN hu,Gr,E2]
def KL.int {kt:TypeId} {q:IntKind} (hu:P.underlying kt=some (.int q)) (ki:IntKind):KL P kt fun v=> ∃b,v= .int ki b where
 check w em v h:=by
  obtain⟨b,rfl⟩:=h;exact dQ hu em 9999 ki b
 find w x h es hes:=by
  obtain⟨b,rfl⟩:=h;unfold Instr.findKey;simp only[DZ,BN hu,Gr];rcases Np (q:=q) b es 0 hes with⟨h1,h2⟩|⟨j,e,h1,h2,h3⟩
  ·exact .inl ⟨by rw[h1];rfl,h2⟩
  ·exact .inr ⟨j,e,by rw[h1,G7];rfl,h2,h3⟩
 stays w v h:=by
  obtain⟨b,rfl⟩:=h;unfold Instr.keyThatStays;have:Instr.sameBits 10000 (.int ki b) (.int ki b)=true:=by simp[Instr.sameBits]
  rw[this];rfl
def Ints (cs cs':List Value):Prop:=cs.length=cs'.length∧ ∀(i:Nat) (a:Value),cs[i]? =some a→ ∃(q:IntKind) (n m:Int),a=Value.int q n∧cs'[i]? =some (Value.int q m)∧(Lit.int q m).wf=true
def Ints.part {cs cs':List Value} (h:Ints cs cs') (o n:Nat):Ints ((cs.drop o).take n) ((cs'.drop o).take n):=by
 refine⟨by simp[h.1],fun i a ha=>?_⟩;rw[List.getElem?_take]at ha ⊢;split at ha
 ·rename_i hi
  rw[if_pos hi];rw[kN]at ha ⊢;exact h.2 _ _ ha
 ·cases ha
def Tb {α β:Type} {f g:α→Option β}: ∀ {l:List α} {ys:List β},(∀x∈l,∀y,f x=some y→ ∃y',g x=some y')→l.mapM f=some ys→ ∃ys',l.mapM g=some ys'
 | [],_,_,_=>⟨[],by simp⟩
 | x::l,ys,h,hm=>by
   rw[List.mapM_cons]at hm;simp only[bind,Option.bind_eq_some_iff,pure,IU]at hm;obtain⟨y,h1,ys',h2,rfl⟩:=hm;obtain⟨y',h3⟩:=h x (.head _) y h1;obtain⟨ys'',h4⟩:=Tb (fun x hx=>h x (.tail _ hx)) h2;exact⟨y'::ys'',by rw[List.mapM_cons];simp[h3,h4]⟩
def Ku: ∀(D:Nat) (t:TypeId) {cs cs':List Value} {l:List Lit},Ints cs cs'→P.keyLits D t cs=some l→ ∃l',P.keyLits D t cs'=some l'
 | 0,_,_,_,_,_,h=>by simp[Program.keyLits]at h
 | D + 1,t,cs,cs',l,hi,h=>by
   unfold Program.keyLits at h ⊢;split at h
   ·rename_i b _
    obtain⟨q,n,m,e,_⟩:=hi.2 0 _ rfl;cases e
   ·rename_i q q' n hu
    obtain⟨q2,n2,m,e,e2,e3⟩:=hi.2 0 _ rfl;cases e;have hl:cs'.length=1:=hi.1.symm
    match cs',hl,e2 with
    | [c],_,e2=>
      simp only[pc,IU]at e2;subst e2;split at h
      ·rename_i hq
       obtain⟨rfl,_⟩:=hq;simp only[hu];exact⟨_,if_pos ⟨trivial,e3⟩⟩
      ·cases h
   ·obtain⟨q,n,m,e,_⟩:=hi.2 0 _ rfl
    cases e
   ·rename_i n e hu
    simp only[hu];split at h
    ·rename_i hl
     rw[if_pos (by rw[←hi.1];exact hl)];obtain⟨ys,h1,_⟩:=Ak h;obtain⟨ys',h2⟩:=Tb (g:=fun i=>P.keyLits D e ((cs'.drop (i*P.cellsOf e)).take (P.cellsOf e))) (fun i _ y hy=>Ku D e (hi.part _ _) hy) h1;exact⟨_,by rw[h2];rfl⟩
    ·cases h
   ·rename_i fs hu
    simp only[hu];split at h
    ·rename_i hl
     rw[if_pos (by rw[←hi.1];exact hl)];obtain⟨ys,h1,_⟩:=Ak h;obtain⟨ys',h2⟩:=Tb (g:=fun f=>P.keyLits D f.type ((cs'.drop f.offset).take (P.cellsOf f.type))) (fun f _ y hy=>Ku D f.type (hi.part _ _) hy) h1;exact⟨_,by rw[h2];rfl⟩
    ·cases h
   ·cases h
def r7:V→Option IntKind| .i q _=>some q|_=>none
def Te:List V→Option (List IntKind)
 | []=>some []
 | c::cs=>match r7 c,Te cs with|some q,some l=>some (q::l)|_,_=>none
def Ub (P:Program) (kt:TypeId):Option KS:=
 match P.underlying kt with
 | some (.int k)=>some (.i k)
 | some .string=>some .s
 | some (.array _ _)|some (.struct _)=>match zeroOf P kt with
   | some (.a cs)=>match Te cs with
     | some l=>if P.keyType kt&&P.keyTypeAt 6 kt&&P.tiled 6 kt&&(P.keyLits (P.types.size+1) kt (l.map fun q=> .int q 0)).isSome&&Nat.beq l.length (P.cellsOf kt)then some (.a l)else none
     | none=>none
   | _=>none
 | _=>none
def IN {H:Nat→Nat→Option Value} {g:Nat→Option Value}: ∀ {l:List IntKind} {cs:List V} {o:Nat},Dl l cs=true→Bb H g o cs→
    cs.length=l.length∧ ∀(i:Nat) (q:IntKind),l[i]? =some q→ ∃m:Int,cs[i]? =some (.i q m)∧g (o+i)=some (.int q m)∧q.min≤m∧m≤q.max
 | [],[],_,_,_=>⟨rfl,by simp⟩
 | [],_::_,_,h,_=>by simp[Dl]at h
 | q::l,[],_,h,_=>by simp[Dl]at h
 | q ::l,c::cs,o,h,hv=>by
   cases c<;>simp only[Dl,ML]at h
   rename_i q' n;simp only[A9,Cf]at h;obtain⟨rfl,h⟩:=h;obtain⟨⟨c,h1,⟨rfl,h2⟩⟩,h3⟩:=hv;obtain⟨h4,h5⟩:=IN h h3;refine⟨by simp[h4],fun i q' hq=>?_⟩;cases i with
   | zero=>simp only[pc,IU]at hq;subst hq;exact⟨n,rfl,h1,h2⟩
   | succ i=>
     obtain⟨m,h6,h7,h8⟩:=h5 i q' (by simpa using hq);exact⟨m,by simpa using h6,by rw[←h7];congr 1;omega,h8⟩
def o0 {kt:TypeId} {ks:KS} (h:Ub P kt=some ks): ∃ok,KL P kt ok∧ ∀(H:Nat→Nat→Option Value) (v:V) (c:Value),BW ks v=true→Ai H v c→ok c:=by
 unfold Ub at h
 have agg: ∀(hw:(match P.underlying kt with|some (.array _ _)|some (.struct _)=>true|_=>false)=true),(match zeroOf P kt with
  | some (.a cs)=>match Te cs with
    | some l=>if P.keyType kt&&P.keyTypeAt 6 kt&&P.tiled 6 kt&&(P.keyLits (P.types.size+1) kt (l.map fun q=>Value.int q 0)).isSome&&Nat.beq l.length (P.cellsOf kt)then some (.a l)else none
    | none=>none
  | _=>none)=some ks→ ∃ok,KL P kt ok∧ ∀(H:Nat→Nat→Option Value) (v:V) (c:Value),BW ks v=true→Ai H v c→ok c:=fun hw h=>by
  split at h
  ·split at h
   ·rename_i l _
    split at h
    ·rename_i hc
     cases h;simp only[A9]at hc;obtain⟨⟨⟨⟨c1,c2⟩,c3⟩,c4⟩,c5⟩:=hc;refine⟨_,KL.of_law (deep_law (m:=6) (by omega) c2 c3 hw),fun H v c hv hr=>?_⟩;cases v<;>simp only[BW,ML]at hv
     rename_i cs;obtain⟨c',rfl,h1,h2⟩:=hr;obtain⟨h3,h4⟩:=IN hv h2;have hsz:c'.size=P.cellsOf kt:=by rw[h1,h3];exact UC c5
     obtain⟨L,hL⟩:=Option.isSome_iff_exists.1 c4
     obtain⟨L',hL'⟩:=Ku (P:=P) (P.types.size+1) kt (cs:=l.map fun q=>Value.int q 0) (cs':=c'.toList) ⟨by simp[h1,h3],fun i a ha=>by
      rw[Q8]at ha;obtain⟨q,hq,rfl⟩:=Ak ha;obtain⟨m,_,h6,h7⟩:=h4 i q hq
      refine⟨q,0,m,rfl,by simpa using h6,by simpa[Lit.wf]using h7⟩⟩ hL
     have hf:(Value.agg c').formed P kt=true:=by
      unfold Value.formed;split at hw<;>simp_all
     refine⟨.string (keyBytes L'),?_⟩;unfold keyOf;split at hw
     ·rename_i hu;simp only[hu,c1,hf,Bool.and_self,if_true];show Option.map _ (P.keyLits _ kt c'.toList)=_;rw[hL'];rfl
     ·rename_i hu;simp only[hu,c1,hf,Bool.and_self,if_true];show Option.map _ (P.keyLits _ kt c'.toList)=_;rw[hL'];rfl
     ·cases hw
    ·cases h
   ·cases h
  ·cases h
 split at h
 ·rename_i q0 hu
  cases h;refine⟨_,KL.int hu q0,fun H v c hv hr=>?_⟩;cases v<;>simp only[BW,ML]at hv
  rename_i q n;obtain⟨rfl,_⟩:=hr;have:=of_decide_eq_true hv;subst this;exact⟨n,rfl⟩
 ·rename_i hu
  cases h;refine⟨_,KL.of_law (WideMaps.string_law hu),fun H v c hv hr=>?_⟩;cases v<;>simp only[BW,ML]at hv
  have hr':c= .string _:=hr;subst hr';exact⟨_,WideMaps.keyOf_string_mk hu (Nat.le_trans (Nat.le_of_ble_eq_true hv) (by decide))⟩
 ·rename_i hu;exact agg (by rw[hu]) h
 ·rename_i hu;exact agg (by rw[hu]) h
 ·cases h
def QX: ∀ {l:List IntKind} {cs ds:List V},Dl l cs=true→Dl l ds=true→ ∃r,B1 cs ds=some r∧(r=true↔cs=ds)
 | [],[],[],_,_=>⟨true,rfl,by simp⟩
 | [],_::_,_,h,_=>by simp[Dl]at h
 | [],[],_::_,_,h=>by simp[Dl]at h
 | _::_,[],_,h,_=>by simp[Dl]at h
 | _::_,_::_,[],_,h=>by simp[Dl]at h
 | q ::l,c::cs,d::ds,h,h'=>by
   cases c<;>simp only[Dl,ML]at h
   cases d<;>simp only[Dl,ML]at h'
   rename_i k a k' b;simp only[A9,Cf]at h h';obtain⟨rfl,h⟩:=h;obtain⟨rfl,h'⟩:=h';obtain⟨r,h1,h2⟩:=QX h h';refine⟨(a==b)&&r,by simp[B1,h1],?_⟩;rw[A9,h2];constructor
   ·rintro⟨h3,rfl⟩
    rw[show a=b by simpa using h3]
   ·intro e
    cases e;exact⟨by simp,rfl⟩
def SF {ks:KS} {H:Nat→Nat→Option Value} {x y:V} {c d:Value} (hx:BW ks x=true) (hy:BW ks y=true) (hc:Ai H x c) (hd:Ai H y d):En x y=true↔c=d:=by
 cases ks with
 | i q=>
   cases x<;>simp only[BW,ML]at hx
   cases y<;>simp only[BW,ML]at hy
   rename_i k a k' b;obtain⟨rfl,_⟩:=hc;obtain⟨rfl,_⟩:=hd;have h1:=of_decide_eq_true hx;have h2:=of_decide_eq_true hy;subst h1;subst h2;simp[En]
 | s=>
   cases x<;>simp only[BW,ML]at hx
   cases y<;>simp only[BW,ML]at hy
   have h1:c= .string _:=hc;have h2:d= .string _:=hd;subst h1;subst h2;simp[En]
 | a l =>
   cases x<;>simp only[BW,ML]at hx
   cases y<;>simp only[BW,ML]at hy
   rename_i cs ds;obtain⟨c',rfl,h1,h2⟩:=hc;obtain⟨d',rfl,h3,h4⟩:=hd;obtain⟨r,h5,h6⟩:=QX hx hy;obtain⟨g1,g2⟩:=IN hx h2;obtain⟨g3,g4⟩:=IN hy h4;simp only[En,h5,Option.getD_some,h6,Value.agg.injEq];constructor
   ·rintro rfl
    refine Array.ext (by omega) fun i hi hj=>?_
    obtain⟨m,a1,a2,_⟩:=g2 i l[i] (EN (by omega));obtain⟨m',b1,b2,_⟩:=g4 i l[i] (EN (by omega));rw[a1]at b1;cases b1;simp only[G7,Array.getElem?_eq_getElem hi,Array.getElem?_eq_getElem hj,IU]at a2 b2;rw[a2,b2]
   ·rintro rfl
    refine List.ext_getElem? fun i=>?_
    by_cases hi:i<l.length
    ·obtain⟨m,a1,a2,_⟩:=g2 i l[i] (EN hi)
     obtain⟨m',b1,b2,_⟩:=g4 i l[i] (EN hi);rw[a2]at b2;cases b2;rw[a1,b1]
    ·rw[List.getElem?_eq_none (by omega),List.getElem?_eq_none (by omega)]
def Td {ks:KS} {H:Nat→Nat→Option Value} {key:V} {c x:Value} {val:V} (hk:BW ks key=true) (hc:Ai H key c) (hx:Ai H val x) (clk:Nat): ∀ {kvs:List (V×V)} {es:List MapEntry},F0 H kvs es→(∀kv∈kvs,BW ks kv.1=true)→(∀e∈es,e.key≠c)→
    C6 key kvs=none∧F0 H (Em key val kvs) (es++[{key:=c,val:=x,born:=clk}])
 | [],[],_,_,_=>⟨rfl,hc,hx,trivial⟩
 | [],_::_,h,_,_=>h.elim
 | _::_,[],h,_,_=>h.elim
 | (k,v)::r,e::es,h,hks,hne=>by
   obtain⟨h1,h2,h3⟩:=h
   have hf:En key k=false:=by
    cases hb:En key k with
    | false=>rfl
    | true=>exact absurd ((SF hk (hks _ (.head _)) hc h1).1 hb).symm (hne e (.head _))
   obtain⟨h4,h5⟩:=Td hk hc hx clk h3 (fun kv hkv=>hks kv (.tail _ hkv)) (fun e he=>hne e (.tail _ he));simp only[C6,Em,hf,cond_false];exact⟨h4,h1,h2,h5⟩
def Tc {ks:KS} {H:Nat→Nat→Option Value} {key:V} {c x:Value} {val:V} (hk:BW ks key=true) (hc:Ai H key c) (hx:Ai H val x): ∀ {kvs:List (V×V)} {es:List MapEntry} {j:Nat} {e:MapEntry},F0 H kvs es→(∀kv∈kvs,BW ks kv.1=true)→
    es.Pairwise (fun a b=>a.key≠b.key)→es[j]? =some e→e.key=c→
    ∃v,C6 key kvs=some v∧Ai H v e.val∧F0 H (Em key val kvs) (es.modify j fun e=>{e with key:=c,val:=x})
 | [],[],j,_,_,_,_,hj,_=>by simp at hj
 | [],_::_,_,_,h,_,_,_,_=>h.elim
 | _::_,[],_,_,h,_,_,_,_=>h.elim
 | (k, v)::r,e0::es,j,e,h,hks,hd,hj,he=>by
   obtain⟨h1,h2,h3⟩:=h;obtain⟨hd1,hd2⟩:=List.pairwise_cons.1 hd;have hiff:=SF hk (hks _ (.head _)) hc h1;cases j with
   | zero=>
     simp only[pc,IU]at hj;subst hj;have hb:En key k=true:=hiff.2 he.symm;simp only[C6,Em,hb,cond_true];exact⟨v,rfl,h2,hc,hx,h3⟩
   | succ j=>
     simp only[vq]at hj
     have hb:En key k=false:=by
      cases hb:En key k with
      | false=>rfl
      | true=>
        have:=hiff.1 hb;exact absurd (this.symm.trans he.symm) (hd1 e (DL hj))
     obtain⟨v',h4,h5,h6⟩:=Tc hk hc hx h3 (fun kv hkv=>hks kv (.tail _ hkv)) hd2 hj he;simp only[C6,Em,hb,cond_false];exact⟨v',h4,h5,h1,h2,h6⟩
def er {ok:Value→Prop} {ks:KS} {H:Nat→Nat→Option Value} (hok: ∀(H:Nat→Nat→Option Value) (v:V) (c:Value),BW ks v=true→Ai H v c→ok c): ∀ {kvs:List (V×V)} {es:List MapEntry},F0 H kvs es→(∀kv∈kvs,BW ks kv.1=true)→ ∀e∈es,ok e.key
 | (k,v)::r,e0::es,h,hks,e,he=>by
   obtain⟨h1,h2,h3⟩:=h;rcases F7.1 he with rfl|he
   ·exact hok H k _ (hks _ (.head _)) h1
   ·exact er hok h3 (fun kv hkv=>hks kv (.tail _ hkv)) e he
 | [],[],_,_,_,he=>by cases he
 | [],_::_,h,_,_,_=>h.elim
 | _::_,[],h,_,_,_=>h.elim
def Vm (G:Rel Λ σ w) {n:Nat} {kvs:List (V×V)} (h:σ n=some (.map kvs)): ∃es clk,w.heap[n]? =some (.map es clk)∧F0 (Hh Λ σ w) kvs es.toList∧es.toList.Pairwise (fun a b=>a.key≠b.key):=by
 obtain⟨_,ob,h2,es,clk,rfl,h4⟩:=G.own n _ h;exact⟨es,clk,h2,h4⟩
def T6 {t kt e:TypeId} {ks:KS} {z:V} {ok:Bool} (hu:P.underlying t=some (.map kt e)) (hks:Ub P kt=some ks) (hz:zeroOf P e=some z) (G:Rel Λ σ w) {vm vk:V} {cm ck:Value}
    (hm:Ai (Hh Λ σ w) vm cm) (hk:Ai (Hh Λ σ w) vk ck) (h:AO σ ks z ok vm vk fun v=>k v σ):Cj Λ σ w k kp ((Instr.lookup t cm ck ok).run P w):=by
 obtain⟨h0,h⟩:=h;obtain⟨okk,K,hok⟩:=o0 hks;have hck:=hok _ _ _ h0 hk;obtain⟨zc,hz1,hz2⟩:=Ef hz w;have hzr:Ai (Hh Λ σ w) z zc:=Gz hz2;have hch: ∀em,(Instr.checkKey em 10000 kt ck).run P w= .ok () w:=fun em=>K.check w em hck
 unfold Instr.lookup;simp only[DZ,BN hu,Gr]
 have fin: ∀ {o:Option V} {x:Value} {b:Bool},(match o with|some v=>b=true∧Ai (Hh Λ σ w) v x|none=>b=false∧x=zc)→k (found z ok o) σ→Cj Λ σ w k kp (Result.ok (if ok=true then Value.tuple #[x,.bool b]else x) w):=fun {o x b} ho hk=>by
  have tup: ∀ {v:V} {x:Value} {b:Bool},Ai (Hh Λ σ w) v x→Ai (Hh Λ σ w) (.t [v,.b b]) (.tuple #[x,.bool b]):=fun hv=>⟨_,rfl,rfl,⟨_,rfl,hv⟩,⟨_,rfl,rfl⟩,trivial⟩
  cases o with
  | some v=>
    obtain⟨rfl,hv⟩:=ho;cases ok
    ·exact Ay G hk hv
    ·exact Ay G hk (tup hv)
  | none=>
    obtain⟨rfl,rfl⟩:=ho;cases ok
    ·exact Ay G hk hzr
    ·exact Ay G hk (tup hzr)
 cases vm<;>first|exact h.elim|skip
 ·rename_i n
  simp only at h;split at h
  ·rename_i kvs hn
   obtain⟨h1,h2⟩:=h;simp only[Ai]at hm;subst hm;obtain⟨es,clk,h3,h4,h5⟩:=Vm G hn;have hg:(getObj n).run P w= .ok (.map es clk) w:=by simp[getObj,Sem.run,h3]
   simp only[DZ,hg,Gr,E2,hch];rcases K.find w hck es.toList (er hok h4 h1)with⟨h6,h7⟩|⟨j,e',h6,h7,h8⟩
   ·obtain⟨h9,_⟩:=Td h0 hk hk 0 h4 h1 h7
    simp only[h6,Gr,DZ,hz1,E2];rw[h9]at h2;exact fin (o:=none) ⟨rfl,rfl⟩ h2
   ·obtain⟨v,h9,h10,_⟩:=Tc h0 hk hk h4 h1 h5 h7 h8
    simp only[h6,Gr,E2];rw[h9]at h2;exact fin (o:=some v) ⟨rfl,h10⟩ h2
  ·exact h.elim
 ·simp only[Ai]at hm
  subst hm;simp only[DZ,E2,Gr,hch];rcases K.find w hck [] (fun e he=>by cases he)with⟨h6,_⟩|⟨j,e',_,h7,_⟩
  ·simp only[h6,Gr,DZ,hz1,E2]
   exact fin (o:=none) ⟨rfl,rfl⟩ h
  ·simp at h7
def P5 {n:Nat} {ob:Obj} {es:Array MapEntry} {clk:Nat} (h:w.heap[n]? =some (.map es clk)):(setObj n ob).run P w= .ok () (Cb w n ob):=by
 simp[setObj,Sem.run,h,Cb]
def Ij {c x:Value}: ∀ {es:List MapEntry} {j:Nat} {e:MapEntry},es[j]? =some e→e.key=c→es.Pairwise (fun a b=>a.key≠b.key)→(es.modify j fun e=>{e with key:=c,val:=x}).Pairwise (fun a b=>a.key≠b.key)
 | [],_,_,h,_,_=>by simp at h
 | e0::es,0,e,h,he,hp=>by
   simp only[pc,IU]at h;subst h;obtain⟨h1,h2⟩:=List.pairwise_cons.1 hp;exact List.pairwise_cons.2 ⟨fun a ha=>by simpa only[←he]using h1 a ha,h2⟩
 | e0::es,j+1,e,h,he,hp=>by
   simp only[vq]at h;obtain⟨h1,h2⟩:=List.pairwise_cons.1 hp;refine List.pairwise_cons.2 ⟨fun a ha=>?_,Ij h he h2⟩;have ha:a∈es.modify j fun e=>{e with key:=c,val:=x}:=ha
   obtain⟨i,hi⟩:=List.mem_iff_getElem?.1 ha;rw[List.getElem?_modify]at hi;cases hb:es[i]? with
   | none=>rw[hb]at hi;cases hi
   | some b=>
     rw[hb]at hi;simp only[Option.map_eq_map,dq,IU]at hi;split at hi
     ·rename_i hji
      subst hi;subst hji;rw[h]at hb;cases hb;simpa only[←he]using h1 e (DL h)
     ·subst hi
      exact h1 b (DL hb)
def T5 {t kt e:TypeId} {ks:KS} (hu:P.underlying t=some (.map kt e)) (hks:Ub P kt=some ks) (G:Rel Λ σ w) {vm vk vx:V} {cm ck cx:Value}
    (hm:Ai (Hh Λ σ w) vm cm) (hk:Ai (Hh Λ σ w) vk ck) (hx:Ai (Hh Λ σ w) vx cx) (h:AP σ ks vm vk vx fun σ'=>k (.t []) σ') :
    ∃σ' w',(Instr.mapUpdate t cm ck cx).run P w= .ok () w'∧k (.t []) σ'∧Rel Λ σ' w'∧B8 Λ σ w σ' w':=by
 obtain⟨h0,h⟩:=h;obtain⟨okk,K,hok⟩:=o0 hks;have hck:=hok _ _ _ h0 hk;have hch: ∀em,(Instr.checkKey em 10000 kt ck).run P w= .ok () w:=fun em=>K.check w em hck
 cases vm<;>first|exact h.elim|skip
 rename_i n;simp only at h;split at h
 ·rename_i kvs hn
  obtain⟨h1,h2⟩:=h;simp only[Ai]at hm;subst hm;obtain⟨es,clk,h3,h4,h5⟩:=Vm G hn;have hg:(getObj n).run P w= .ok (.map es clk) w:=by simp[getObj,Sem.run,h3]
  unfold Instr.mapUpdate;simp only[DZ,BN hu,Gr,hg,hch];rcases K.find w hck es.toList (er hok h4 h1)with⟨h6,h7⟩|⟨j,e',h6,h7,h8⟩
  ·obtain⟨_,h9⟩:=Td h0 hk hx clk h4 h1 h7
   refine⟨_,Cb w n (.map (es.push {key:=ck,val:=cx,born:=clk}) (clk+1)),?_,h2,JV G hn ⟨_,_,rfl,?_,?_⟩,G3 hn _ _⟩
   ·simp only[h6,Gr]
    exact P5 h3
   ·simpa using h9
   ·rw[Array.toList_push,List.pairwise_append]
    exact⟨h5,by simp,fun a ha b hb=>by simp at hb;subst hb;exact h7 a ha⟩
  ·obtain⟨v,_,_,h9⟩:=Tc h0 hk hx h4 h1 h5 h7 h8
   have hj:es[j]? =some e':=by rw[←h7];simp
   refine⟨_,Cb w n (.map (es.modify j fun e=>{e with key:=ck,val:=cx}) clk),?_,h2,JV G hn ⟨_,_,rfl,?_,?_⟩,G3 hn _ _⟩
   ·simp only[h6,Gr,DZ,hj,dq,Option.getD_some,h8,K.stays w hck]
    exact P5 h3
   ·simpa using h9
   ·simpa using Ij (x:=cx) h7 h8 h5
 ·exact h.elim
def qC (P:Program):Op→Option GA
 | .makeMap t r=>match r,P.underlying t with
   | none,_=>some .NS
   | some _,_=>none
 | .lookup t x i ok=>match P.underlying t with
   | some (.map kt e)=>match Ub P kt,zeroOf P e,BX x,BX i with
     | some ks,some z,some x,some i=>some (.lookup ks z ok x i)
     | _,_,_,_=>none
   | _=>none
 | .mapUpdate t m i x=>match P.underlying t with
   | some (.map kt _)=>match Ub P kt,BX m,BX i,BX x with
     | some ks,some m,some i,some x=>some (.E6 ks m i x)
     | _,_,_,_=>none
   | _=>none
 | .insert t m i x=>match P.underlying t with
   | some (.map kt _)=>match Ub P kt,BX m,BX i,BX x with
     | some ks,some m,some i,some x=>some (.E6 ks m i x)
     | _,_,_,_=>none
   | _=>none
 | _=>none
def YG {env:Env} {a:Act} {o:Oper} {ao:GA} (ho:qC P o.op=some ao) (h:Fi P ao env σ k kp) (he:CT (Hh Λ σ w) env a.tmps) (G:Rel Λ σ w) :
    Good P Λ σ w k kp ((execOp a.eval o).run P w):=by
 have put: ∀ {t:TypeId} {m i x:Operand},(match P.underlying t with
  | some (.map kt _)=>match Ub P kt,BX m,BX i,BX x with
    | some ks,some m,some i,some x=>some (GA.E6 ks m i x)
    | _,_,_,_=>none
  | _=>none)=some ao→Good P Λ σ w k kp ((do Instr.mapUpdate t (a.eval m) (a.eval i) (a.eval x);pure Next.skip:Sem Next).run P w):=fun {t m i x} ho=>by
  split at ho
  ·rename_i kt e hu
   split at ho
   ·rename_i ks m' i' x' hks hm hi hx
    cases ho;obtain⟨vm,h1,g⟩:=Am h;obtain⟨vi,h2,g⟩:=Am g;obtain⟨vx,h3,g⟩:=Am g;obtain⟨σ',w',e1,e2,e3,e4⟩:=T5 hu hks G (As he hm h1) (As he hi h2) (As he hx h3) g;simp only[DZ,e1,Gr,E2];exact⟨σ',e2,e3,e4⟩
   ·cases ho
  ·cases ho
 unfold execOp;unfold qC at ho;split at ho
 ·rename_i t r hop
  rw[hop];dsimp only;split at ho
  ·cases ho
   refine A3 ?_;simp only[Fi]at h;exact⟨_,_,h w.heap.size G.new,rfl,Hl G (o:= .map []) ⟨#[],0,rfl,trivial,by simp⟩,EF _ _⟩
  ·cases ho
 ·rename_i t x i ok hop
  rw[hop];dsimp only;split at ho
  ·rename_i kt e hu
   split at ho
   ·rename_i ks z x' i' hks hz hx hi
    cases ho;obtain⟨vx,h1,g⟩:=Am h;obtain⟨vi,h2,g⟩:=Am g;exact A3 (T6 hu hks hz G (As he hx h1) (As he hi h2) g)
   ·cases ho
  ·cases ho
 ·rename_i t m i x hop
  rw[hop];exact put ho
 ·rename_i t m i x hop
  rw[hop];exact put ho
 ·cases ho
def Xf (P:Program) (name:String):List (TypeId×FuncId):=(List.range P.types.size).filterMap fun t=>
 match P.info? t,P.underlying t with
 | some i,some d=>match i.methods.find? (·.name==name)with
   | some m=>if m.path.isEmpty then match m.func,d with
     | some (f,true),.pointer _=>some (t,f)
     | some (_,false),.pointer _=>none
     | some (f,false),_=>some (t,f)
     | _,_=>none
     else none
   | none=>none
 | _,_=>none
def qD (P:Program):Op→Option GA
 | .call c=>match c.callee with
   | .invoke x name=>match BX x,Jx c.args.toList with
     | some x,some as=>some (.inv (Xf P name) x as)
     | _,_=>none
   | _=>none
 | _=>none
def Vn {t:TypeId} {f:FuncId}: ∀ {l:List (TypeId×FuncId)},look t l=some f→(t,f)∈l
 | [],h=>by cases h
 | (u,g)::r,h=>by
   simp only[look]at h;cases hb:Nat.beq u t with
   | true=>
     rw[hb]at h;simp only[cond_true,IU]at h;rw[UC hb,h];exact .head _
   | false=>
     rw[hb]at h;exact .tail _ (Vn h)
def X7 {name:String} {t:TypeId} {f:FuncId} (h:(t,f)∈Xf P name) (c:Value):(method (P.types.size+Made.depth) t c name).run P w= .ok (f,c) w:=by
 unfold Xf at h;rw[List.mem_filterMap]at h;obtain⟨u,hu,h⟩:=h;rw[List.mem_range]at hu;split at h
 rotate_left
 ·cases h
 rename_i i d hi hd;split at h
 rotate_left
 ·cases h
 rename_i m hm;split at h
 rotate_left
 ·cases h
 rename_i hp
 have hpl:m.path.toList= []:=by
  have:m.path= #[]:=by simpa using hp
  rw[this]
 obtain⟨n,hn⟩: ∃n,P.types.size+Made.depth=n+1:=⟨P.types.size+Made.depth - 1,by omega⟩
 have key: ∀ptr,u=t→m.func=some (f,ptr)→(ptr=true→ ∃e,d= .pointer e)→(ptr=false→ ∀e,d≠ .pointer e)→(method (P.types.size+Made.depth) t c name).run P w= .ok (f,c) w:=fun ptr e1 e2 e3 e4=>by
  subst e1;rw[hn];unfold method;simp only[DZ,run_typeInfo w hi,Gr,hm,hpl,follow,E2,e2,receiverAt,run_underlying hd];cases ptr with
  | true=>
    obtain⟨e,rfl⟩:=e3 rfl;simp[Place.get]
  | false=>
    have:=e4 rfl;cases d<;>first|exact absurd rfl (this _)|simp[Place.get]
 split at h
 ·rename_i f' e hfun
  cases h;exact key true rfl hfun (fun _=>⟨_,rfl⟩) (fun h=>by cases h)
 ·cases h
 ·rename_i f' hfun hne
  cases h;exact key false rfl hfun (fun h=>by cases h) (fun _ e he=>by subst he;exact hne e rfl)
 ·cases h
def db {tab:List (TypeId×FuncId)} {x:V} {args:List V} {Q:R→AH→Prop} (h:A1 P tab x args σ Q): ∃t v f,x= .FJ t v∧look t tab=some f∧A7 P f (v::args) σ Q:=by
 unfold A1 at h;split at h
 ·split at h
  ·exact⟨_,_,_,rfl,by assumption,h⟩
  ·exact h.elim
 ·exact h.elim
def YH {env:Env} {a:Act} {o:Oper} {ao:GA} (ho:qD P o.op=some ao) (h:Fi P ao env σ k kp) (he:CT (Hh Λ σ w) env a.tmps) (G:Rel Λ σ w) :
    Good P Λ σ w k kp ((execOp a.eval o).run P w):=by
 unfold qD at ho;split at ho
 rotate_left
 ·cases ho
 rename_i c hop;split at ho
 rotate_left
 ·cases ho
 rename_i x name hc;split at ho
 rotate_left
 ·cases ho
 rename_i x' as hx has;cases ho;obtain⟨vx,h1,g⟩:=Am h;obtain⟨vs,h2,g⟩:=H8 g;obtain⟨t,v,f,rfl,hf,g⟩:=db g;obtain⟨cv,hcv,hvr⟩:=As he hx h1
 have hext:(#[Value.iface t cv]++c.args.map a.eval).extract 1 (#[Value.iface t cv]++c.args.map a.eval).size=c.args.map a.eval:=by
  apply Array.ext';simp[List.take_of_length_le]
 have h0:(#[Value.iface t cv]++c.args.map a.eval)[0]? =some (.iface t cv):=by rw[Array.getElem?_append_left (Nat.zero_lt_one)];rfl
 have hrun:(execOp a.eval o).run P w=(callFunc f (#[cv]++c.args.map a.eval)).run P w:=by
  unfold execOp;simp only[hop,resolve,hc,DZ,E2,Gr,invoke,hcv,h0,hext,callMethod];have hprog:(program).run P w= .ok P w:=rfl;simp only[hprog,Gr,X7 (Vn hf)]
 rw[hrun];refine Pe G ?_ g;have:=IF (H:=Hh Λ σ w) (vs:=[v]) (cs:= #[cv]) ⟨rfl,⟨cv,rfl,hvr⟩,trivial⟩ (JX he has h2);simpa using this
set_option maxHeartbeats 1000000 in
def YU {t u e:TypeId} {i:TypeInfo} (ty:TypeId) (ht:P.underlying t=some (.slice e)) (hi:P.info? e=some i) (G:Rel Λ σ w) {vx vy:V} {cx cy:Value} (hx:Ai (Hh Λ σ w) vx cx) (hy:Ai (Hh Λ σ w) vy cy)
    (h:Ad σ i.size vx vy k):Cj Λ σ w k kp ((Builtin.copy_ #[t,u] ty #[cx,cy]).run P w):=by
 have h':=Kk G hy h;clear h;obtain⟨ys,base,c2,⟨hone,h⟩,rfl,hyl,hys⟩:=h'
 have main: ∀(n off len:Nat) (a:Option Addr) (cap:Nat),(len≠0→a=some ⟨n,off*i.size,none⟩)→Oe σ i.size ys n off len k→Cj Λ σ w k kp ((Builtin.copy_ #[t,u] ty #[.slice a len cap,.slice base ys.length c2]).run P w):=fun n off len a cap ha hk=>by
  unfold Oe at hk;split at hk
  ·rename_i s es c hs
   obtain⟨rfl,hle,hk⟩:=hk;obtain⟨cur,et,h3,h4,h5,h6,h7⟩:=FA G hs;have hsz:sizeOf e=(do pure (←typeInfo e).size:Sem Nat):=rfl;have hmin:Nat.min ys.length len=min ys.length len:=rfl;have hmL:min ys.length len≤Aj:=by omega
   have hrng: ∀H,Ai H (.i .i64 (min ys.length len:Nat)) (goInt (min ys.length len:Nat)):=fun H=>⟨rfl,IC hmL⟩
   by_cases h0:min ys.length len=0
   ·
    have hrun:(Builtin.copy_ #[t,u] ty #[.slice a len cap,.slice base ys.length c2]).run P w= .ok (goInt 0) w:=by
     have hm0:Nat.min ys.length len=0:=h0;cases a<;>cases base<;>simp[Builtin.copy_,run_underlying ht,sizeOf,typeInfo,hi,Builtin.lenOf,hm0,Builtin.firstCells,loadCells,loadCellsFrom,storeCells]
    rw[hrun];rw[h0]at hk;simp only[Nat.add_zero]at hk;have e1:es.take off++(ys.take 0++es.drop off)=es:=by simp
    rw[e1]at hk
    have e2:A5 σ n (.arr i.size es c)=σ:=by
     funext m;unfold A5;split
     ·rename_i e;rw[e,hs]
     ·rfl
    rw[e2]at hk;exact Ay G hk ⟨rfl,IC (n:=0) (by simp)⟩
   ·obtain⟨b,o,g,rfl,hg,hrow⟩:=hys.resolve_left (fun e=>by rw[e]at h0;simp at h0)
    obtain rfl:=ha (by omega);obtain⟨news,h8,h9,h10⟩:=Ji (Hk hrow (min ys.length len));have hcnt:(ys.take (min ys.length len)).length=min ys.length len:=by simp
    rw[hcnt]at h8;have hmul:(off+min ys.length len)*i.size≤c*i.size:=UN _ (by omega);rw[Nat.add_mul]at hmul
    have hn1: ∀u∈news,u.oneCell'=true:=fun u hu=>by
     obtain⟨j,hj⟩:=List.mem_iff_getElem?.1 hu;have hlt:j<(ys.take (min ys.length len)).length*i.size:=by rw[hcnt,←h8];exact(MK.1 hj).1
     obtain⟨h4,h5⟩:=TS hlt;obtain⟨h6,h7⟩:=BJ.1 h10 (j / i.size) _ (EN h4);obtain⟨c,hc,hr⟩:=Bm.1 h7 (j % i.size) _ (EN (by omega));have hdm:=Nat.div_add_mod' j i.size;rw[show 0+j / i.size*i.size+j % i.size=j by omega,hj]at hc;cases hc;exact Pa hr (hone _ (List.mem_of_mem_take (List.getElem_mem h4)) _ (List.getElem_mem _))
    have hrunF:=run_firstCells_some (P:=P) w i.size (min ys.length len) ⟨b,o,none⟩ ys.length c2 news h8 (fun j v hv=>by rw[Cy];exact hg _ _ (h9 j v hv));have hst:=Cz (P:=P) news w cur (off*i.size) 0 h3 (by omega) hn1;simp only[Nat.add_zero]at hst
    have hrun:(Builtin.copy_ #[t,u] ty #[.slice (some ⟨n,off*i.size,none⟩) len cap,.slice (some ⟨b,o,none⟩) ys.length c2]).run P w= .ok (goInt (min ys.length len:Nat)) (Cb w n (.cells (DF cur (off*i.size) news) et (0,0))):=by
     simp[Builtin.copy_,run_underlying ht,sizeOf,typeInfo,hi,Builtin.lenOf,hmin,hrunF,hst]
    rw[hrun];refine⟨_,_,hk,hrng _,JV G hs ⟨_,et,rfl,by rw[D8];exact h4,by simp;omega,by simp;omega,?_⟩,G3 hs _ _⟩;have hol:off≤es.length:=by omega
    refine G4 (Eg (Hk h7 off) fun j hj=>?_) (G4 (Eg h10 fun j hj=>?_) (Eg (Mz h7 (off+min ys.length len)) fun j hj=>?_))
    ·rw[Ny,Nat.min_eq_left hol]at hj
     exact DW _ _ _ _ (by omega)
    ·rw[hcnt]at hj
     rw[Ny,Nat.min_eq_left hol];simp only[G7];exact GQ _ _ _ _ (by omega) (by omega)
    ·rw[Ny,Nat.min_eq_left hol,hcnt,G7,G7,Nat.add_mul]
     exact DW _ _ _ _ (by omega)
  ·exact hk.elim
 cases vx
 case sl n len cap=>
  obtain⟨rfl,_⟩:=hx;exact main n 0 len _ cap (fun _=>by simp) h
 case sv n s off len=>
  obtain⟨rfl,h⟩:=h;obtain⟨a,cap,rfl,_,h6⟩:=hx;exact main n off len a cap h6 h
 all_goals exact h.elim
def eg (P:Program):Op→Option GA
 | .call c=>match c.callee,c.args.toList,c.argTypes.toList with
   | .builtin .copy,[x,y],[t,_]=>match P.underlying t with
     | some (.slice e)=>match BX x,BX y,P.info? e with
       | some x,some y,some i=>some (.copy i.size x y)
       | _,_,_=>none
     | _=>none
   | _,_,_=>none
 | _=>none
def WZ {env:Env} {a:Act} {o:Oper} {ao:GA} (ho:eg P o.op=some ao) (h:Fi P ao env σ k kp) (he:CT (Hh Λ σ w) env a.tmps) (G:Rel Λ σ w) :
    Good P Λ σ w k kp ((execOp a.eval o).run P w):=by
 unfold eg at ho;split at ho
 rotate_left
 ·cases ho
 rename_i c hop;split at ho
 rotate_left
 ·cases ho
 rename_i x y t u hc hargs htys;split at ho
 rotate_left
 ·cases ho
 rename_i e hu;split at ho
 rotate_left
 ·cases ho
 rename_i x' y' i hx hy hi;cases ho;obtain⟨vx,h1,g⟩:=Am h;obtain⟨vy,h2,g⟩:=Am g;have ea:c.args= #[x,y]:=by apply Array.ext';simpa using hargs
 have et:c.argTypes= #[t,u]:=by apply Array.ext';simpa using htys
 unfold execOp;simp only[hop,resolve,hc,ea,et,DZ,E2,Gr,invoke,builtin,List.map_toArray,Ct,List.map_nil];exact Ei (YU (P:=P) (kp:=kp) o.type hu hi G (As he hx h1) (As he hy h2) g)
def eF (P:Program) (o:Op):Option GA:=match qB P o with|some a=>some a|none=>match qC P o with|some a=>some a|none=>match qD P o with|some a=>some a|none=>eg P o
def YE {env:Env} {a:Act} {o:Oper} {ao:GA} (ho:eF P o.op=some ao) (h:Fi P ao env σ k kp) (he:CT (Hh Λ σ w) env a.tmps) (G:Rel Λ σ w) :
    Good P Λ σ w k kp ((execOp a.eval o).run P w):=by
 unfold eF at ho;split at ho
 ·rename_i h';cases ho;exact YF h' h he G
 ·split at ho
  ·rename_i h';cases ho;exact YG h' h he G
  ·split at ho
   ·rename_i h';cases ho;exact YH h' h he G
   ·exact WZ ho h he G
end Go.Gl
namespace Go.Gl
variable {P:Program} {Λ:Nat→Prop}
def emp:AH:=fun _=>none
def Pure (P:Program) (f:FuncId) (args:List V) (v:V):Prop:=A7 P f args emp fun r σ'=>r= .ret v∧σ'=emp
def ZV {w:World} (Λ:Nat→Prop) (h: ∀n,Λ n→n<w.heap.size):Rel Λ emp w:=⟨fun n o ho=>(by cases ho),h⟩
def Tv {σ:AH} {w w':World} {Λ':Nat→Prop} (h:B8 Λ' emp w emp w'):B8 Λ σ w σ w':=
 ⟨fun n hn _=>h.frame n hn rfl,h.size,h.os,h.tape,h.output,fun _ h0 _=>h0⟩
def Rj {σ:AH} {w w':World} {Λ':Nat→Prop} (G:Rel Λ σ w) (h:B8 Λ' emp w emp w'):Rel Λ σ w':=
 G.step (Tv h) fun n _ hn=> .inl ⟨hn,h.frame n (G.lt hn) rfl⟩
def Pure.use {f:FuncId} {args:List V} {v:V} (h:Pure P f args v) {σ:AH} {k kp:V→AH→Prop} (hk:k v σ):A7 P f args σ (qk k kp):=by
 refine⟨h.1,fun Λ w cs G hv=>?_⟩
 have hH: ∀w:World,(Hh (fun n=>Λ n∨σ n≠none) emp w)=Hh Λ σ w:=fun w=>by
  funext b o;unfold Hh;by_cases hb:Λ b∨(σ b).isSome=true
  ·rw[if_pos hb,if_pos]
   rcases hb with hb|hb
   ·exact .inl (.inl hb)
   ·exact .inl (.inr (by intro e;rw[e]at hb;cases hb))
  ·rw[if_neg hb,if_neg]
   rintro((h|h)|h)
   ·exact hb (.inl h)
   ·exact hb (.inr (by cases hs:σ b with|none=>exact absurd hs h|some o=>rfl))
   ·cases h
 refine Calls.mono (h.2 (fun n=>Λ n∨σ n≠none) w cs (ZV _ fun n hn=>?_) (by rw[hH];exact hv)) fun e w' ⟨r,σ',⟨hr,hs⟩,h1,h2,h3⟩=>?_
 ·rcases hn with hn|hn
  ·exact G.lock n hn
  ·cases hs:σ n with
   | none=>exact absurd hs hn
   | some o=>exact G.lt hs
 ·subst hr
  subst hs;rw[hH]at h1;exact⟨.ret v,σ,hk,h1,Rj G h3,Tv h3⟩
def A7.mono {f:FuncId} {args:List V} {σ:AH} {Q Q':R→AH→Prop} (h:A7 P f args σ Q) (hq: ∀r σ',Q r σ'→Q' r σ'):A7 P f args σ Q':=
 ⟨h.1,fun Λ w cs G hv=>Calls.mono (h.2 Λ w cs G hv) fun _ _ ⟨r,σ',h1,h2⟩=>⟨r,σ',hq _ _ h1,h2⟩⟩
def N7.mono {l:Nat} {args:List V} {σ:AH} {Q Q':R→AH→Prop} (h:N7 P l args σ Q) (hq: ∀r σ',Q r σ'→Q' r σ'):N7 P l args σ Q':=
 fun Λ w cs G hv=>let⟨f,tmps,assign,body,h1,h2⟩:=h Λ w cs G hv;⟨f,tmps,assign,body,h1,h2.mono fun e w' ⟨r,σ',h3,h4⟩=>⟨r,σ',hq _ _ h3,h4⟩⟩
def Aw.mono {x:V} {args:List V} {σ:AH} {Q Q':R→AH→Prop} (h:Aw P x args σ Q) (hq: ∀r σ',Q r σ'→Q' r σ'):Aw P x args σ Q':=by
 unfold Aw at *;split at h
 ·exact A7.mono h hq
 ·exact N7.mono h hq
 ·exact h.elim
def A1.mono {tab:List (TypeId×FuncId)} {x:V} {args:List V} {σ:AH} {Q Q':R→AH→Prop} (h:A1 P tab x args σ Q) (hq: ∀r σ',Q r σ'→Q' r σ'):A1 P tab x args σ Q':=by
 unfold A1 at *;split at h
 ·split at h
  ·exact A7.mono h hq
  ·exact h.elim
 ·exact h.elim
def rd:Bt→List Nat| .t n=>[n]| .c _=>[]
def yG:Option Bt→List Nat|some x=>rd x|none=>[]
def dg (l:List Bt):List Nat:=l.flatMap rd
def reads:GA→List Nat
 | .mv x| .kU x| .not x| .neg _ x| .conv _ x| .box x| .Qv x| .load _ x| .Gw _ x| .field _ _ x| .len x| .Sj x| .str x| .extract _ x| .IY x| .NT _ x| .dd _ _ _ x| .panic x| .dj _ _ x=>rd x
 | .pick a b c=>rd a++rd b++rd c
 | .UW x y| .bin _ x y| .kg _ x y| .ke _ _ x y| .store _ x y| .LF _ _ x y| .index _ _ _ x y| .append _ _ x y| .Qw _ _ x y| .copy _ x y| .UZ x y| .UY x y| .GJ _ _ _ x y| .lookup _ _ _ x y=>rd x++rd y
 | .alloc _| .NS=>[]
 | .build _ ps=>dg (ps.map fun p=>p.2.2)
 | .HH _ _ _ ps=>dg (ps.map fun p=>p.2)
 | .slice _ x a b c=>rd x++yG a++yG b++yG c
 | .dh _ a b=>dg a++dg b
 | .E6 _ m k v=>rd m++rd k++rd v
 | .call _ as| .LI _ as=>dg as
 | .JA x as| .Xp x as| .inv _ x as=>rd x++dg as
variable {env env':Env}
def Ac {x:Bt} (h: ∀s∈rd x,get s env'=get s env):ev env' x=ev env x:=by
 cases x with
 | t n=>exact h n (by simp[rd])
 | c v=>rfl
def Fa: ∀ {l:List Bt},(∀s∈dg l,get s env'=get s env)→UM env' l=UM env l
 | [],_=>rfl
 | x::r,h=>by
   simp only[dg,List.flatMap_cons,FK]at h;simp only[UM,Ac (fun s hs=>h s (.inl hs)),Fa (l:=r) (fun s hs=>h s (.inr hs))]
def JM {x:Option Bt} (h: ∀s∈yG x,get s env'=get s env):HV env' x=HV env x:=by
 cases x with
 | none=>rfl
 | some x=>simp only[HV,Ac (x:=x) h]
def Nq: ∀ {ps:List (Nat×Nat×Bt)} {cs:List V},(∀s∈dg (ps.map fun p=>p.2.2),get s env'=get s env)→J6 env' cs ps=J6 env cs ps
 | [],_,_=>rfl
 | (off,sz,x)::r,cs,h=>by
   simp only[dg,Ct,List.flatMap_cons,FK]at h;simp only[J6,Ac (fun s hs=>h s (.inl hs))];split<;>try rfl
   split<;>try rfl
   cases hb:(Nat.beq _ sz&&Nat.ble (off+sz) cs.length)<;>simp only[cond_true,cond_false]
   exact Nq (ps:=r) fun s hs=>h s (.inr hs)
def Nr {sz:Nat}: ∀ {ps:List (Nat×Bt)} {es:List (List V)},(∀s∈dg (ps.map fun p=>p.2),get s env'=get s env)→I7 env' sz es ps=I7 env sz es ps
 | [],_,_=>rfl
 | (i,x)::r,es,h=>by
   simp only[dg,Ct,List.flatMap_cons,FK]at h;simp only[I7,Ac (fun s hs=>h s (.inl hs))];split<;>try rfl
   split<;>try rfl
   cases hb:(Nat.beq _ sz&&Nat.blt i es.length)<;>simp only[cond_true,cond_false]
   exact Nr (ps:=r) fun s hs=>h s (.inr hs)
def SV {o:GA} {σ:AH} {k kp:V→AH→Prop} (h: ∀s∈reads o,get s env'=get s env):Fi P o env' σ k kp=Fi P o env σ k kp:=by
 cases o<;>simp only[reads,FK,or_imp,forall_and]at h<;>simp only[Fi]
 case mv x=>rw[Ac h]
 case kU x=>rw[Ac h]
 case pick a b c=>rw[Ac h.1.1,Ac h.1.2,Ac h.2]
 case bin op x y=>rw[Ac h.1,Ac h.2]
 case kg n x y=>rw[Ac h.1,Ac h.2]
 case ke q n x y=>rw[Ac h.1,Ac h.2]
 case dj q n x=>rw[Ac h]
 case lookup a b c x y=>rw[Ac h.1,Ac h.2]
 case E6 a x y z=>rw[Ac h.1.1,Ac h.1.2,Ac h.2]
 case GJ a b c x y=>rw[Ac h.1,Ac h.2]
 case not x=>rw[Ac h]
 case neg n x=>rw[Ac h]
 case conv n x=>rw[Ac h]
 case box x=>rw[Ac h]
 case Qv x=>rw[Ac h]
 case Qw a b x y=>rw[Ac h.1,Ac h.2]
 case build z ps=>rw[Nq h]
 case HH a b c ps=>rw[Nr h]
 case load a x=>rw[Ac h]
 case store a x y=>rw[Ac h.1,Ac h.2]
 case Gw a x=>rw[Ac h]
 case field a b x=>rw[Ac h]
 case LF a b x y=>rw[Ac h.1,Ac h.2]
 case index a b c x y=>rw[Ac h.1,Ac h.2]
 case slice s x a b c=>rw[Ac h.1.1.1,JM h.1.1.2,JM h.1.2,JM h.2]
 case len x=>rw[Ac h]
 case Sj x=>rw[Ac h]
 case str x=>rw[Ac h]
 case UW x y=>rw[Ac h.1,Ac h.2]
 case append a b x y=>rw[Ac h.1,Ac h.2]
 case copy a x y=>rw[Ac h.1,Ac h.2]
 case inv tab x as=>rw[Ac h.1,Fa h.2]
 case UZ x y=>rw[Ac h.1,Ac h.2]
 case UY x y=>rw[Ac h.1,Ac h.2]
 case extract i x=>rw[Ac h]
 case IY x=>rw[Ac h]
 case dh f a b=>rw[Fa h.1,Fa h.2]
 case NT t x=>rw[Ac h]
 case dd a b c x=>rw[Ac h]
 case panic x=>rw[Ac h]
 case call f as=>rw[Fa h]
 case LI f as=>rw[Fa h]
 case JA x as=>rw[Ac h.1,Fa h.2]
end Go.Gl
namespace Go.Gl
variable {P:Program} {Λ:Nat→Prop} {env env':Env} {σ:AH}
def Aq (AE:(V→Prop)→Prop):Prop:= ∀k,AE k→ ∃v,k v∧ ∀k':V→Prop,k' v→AE k'
def Aq.one (v:V):Aq fun k=>k v:=fun _ h=>⟨v,h,fun _ h=>h⟩
def Aq.no:Aq fun _=>False:=fun _ h=>h.elim
def Aq.and {p:Prop} {AE:(V→Prop)→Prop} (h:Aq AE):Aq fun k=>p∧AE k:=fun k ⟨hp,hF⟩=>let⟨v,h1,h2⟩:=h k hF;⟨v,h1,fun k' hk=>⟨hp,h2 k' hk⟩⟩
def Aq.wv {o:Option V} {AE:V→(V→Prop)→Prop} (h: ∀v,Aq (AE v)):Aq fun k=>wv o fun v=>AE v k:=by
 cases o with
 | none=>exact Aq.no
 | some v=>exact h v
def Aq.ws {o:Option (List V)} {AE:List V→(V→Prop)→Prop} (h: ∀v,Aq (AE v)):Aq fun k=>ws o fun v=>AE v k:=by
 cases o with
 | none=>exact Aq.no
 | some v=>exact h v
def Aq.wr {o:Option (List (List V))} {AE:List (List V)→(V→Prop)→Prop} (h: ∀v,Aq (AE v)):Aq fun k=>wr o fun v=>AE v k:=by
 cases o with
 | none=>exact Aq.no
 | some v=>exact h v
def Aq.wo {o:Option (Option V)} {AE:Option V→(V→Prop)→Prop} (h: ∀v,Aq (AE v)):Aq fun k=>wo o fun v=>AE v k:=by
 cases o with
 | none=>exact Aq.no
 | some v=>exact h v
def jh (op:BinOp) (x y:V):Aq (Uc op x y):=by
 unfold Uc;cases x<;>cases y<;>first|exact Aq.no|skip
 cases op<;>simp only<;>first|exact(Aq.one _).and|exact(Aq.one _).and.and
def LZ (agg:Option Nat) (cs:List V) (off:Nat):Aq (cut agg cs off):=by
 unfold cut;cases agg with
 | none=>cases cs[off]? with
   | none=>exact Aq.no
   | some v=>exact Aq.one _
 | some n=>exact(Aq.one _).and
def dE (σ:AH) (agg:Option Nat) (x:V):Aq (AX σ agg x):=by
 unfold AX Ou Ov;cases x<;>first|exact Aq.no|skip
 case p n off=>
  simp only;cases σ n with
  | none=>exact Aq.no
  | some o=>cases o<;>first|exact Aq.no|exact LZ _ _ _
 case rp cs=>exact LZ _ _ _
 case pe n sz i off=>
  simp only;cases σ n with
  | none=>exact Aq.no
  | some o=>
    cases o<;>first|exact Aq.no|skip
    simp only;refine Aq.and ?_;rename_i es _;cases es[i]? with
    | none=>exact Aq.no
    | some e=>exact LZ _ _ _
def cM {σ σ':AH} (hs:Sub σ σ') {agg:Option Nat} {x:V} {k:V→Prop} (h:AX σ agg x k):AX σ' agg x k:=by
 unfold AX Ou Ov at *;cases x<;>first|exact h|skip
 case p n off=>
  simp only at *;cases hn:σ n with
  | none=>rw[hn]at h;exact h.elim
  | some o=>rw[hs n o hn];rw[hn]at h;exact h
 case pe n sz i off=>
  simp only at *;cases hn:σ n with
  | none=>rw[hn]at h;exact h.elim
  | some o=>rw[hs n o hn];rw[hn]at h;exact h
def Yg (off:Nat) (x:V):Aq (KW off x):=by
 unfold KW;cases x<;>first|exact Aq.no|exact Aq.one _
def Yf (sz:Nat) (arr:Option Nat) (x i:V):Aq (AT sz arr x i):=by
 unfold AT;cases i<;>first|exact Aq.no|skip
 cases arr<;>cases x<;>first|exact Aq.no|exact(Aq.one _).and.and|exact(Aq.one _).and.and.and|skip
 intro k ⟨h0,e,h1,h2,h3⟩;exact⟨_,h3,fun k' hk=>⟨h0,e,h1,h2,hk⟩⟩
def Ye (len sz:Nat) (agg:Option Nat) (x i:V):Aq (KV len sz agg x i):=by
 unfold KV;cases x<;>first|exact Aq.no|skip
 cases i<;>first|exact Aq.no|skip
 exact(LZ _ _ _).and.and
def dD (x i:V):Aq (Ox x i):=by
 unfold Ox;cases x<;>first|exact Aq.no|skip
 cases i<;>first|exact Aq.no|skip
 refine Aq.and ?_;rename_i b _ j;cases b.data.toList[j.toNat]? with
 | none=>exact Aq.no
 | some c=>exact Aq.one _
def jg (x:V):Aq (Az x):=by
 unfold Az;cases x<;>first|exact Aq.no|exact Aq.one _|exact(Aq.one _).and
def dF (σ:AH) (x:V):Aq (J1 σ x):=by
 unfold J1;cases x<;>first|exact Aq.no|exact Aq.one _|skip
 case m n=>
  simp only;cases σ n with
  | none=>exact Aq.no
  | some o=>cases o<;>first|exact Aq.no|exact(Aq.one _).and
def cN {σ σ':AH} (hs:Sub σ σ') {x:V} {k:V→Prop} (h:J1 σ x k):J1 σ' x k:=by
 unfold J1 at *;cases x<;>first|exact h|skip
 case m n=>
  simp only at *;cases hn:σ n with
  | none=>rw[hn]at h;exact h.elim
  | some o=>rw[hs n o hn];rw[hn]at h;exact h
def JZ {o:Option V} {d:Int} {k:Int→Prop} (h:Ql o d k): ∃v,k v∧ ∀k':Int→Prop,k' v→Ql o d k':=by
 unfold Ql at *;split at h
 ·exact⟨_,h,fun _ h=>h⟩
 ·exact⟨_,h,fun _ h=>h⟩
 ·exact h.elim
def Yd {sz:Nat} {x:V} {a b:Option V} {k:V→AH→Prop} (h:AS σ sz x a b none k): ∃v,k v σ∧ ∀σ' (k':V→AH→Prop),k' v σ'→AS σ' sz x a b none k':=by
 unfold AS at *;cases x<;>first|exact h.elim|skip
 ·simp only at *
  obtain⟨h0,h⟩:=h;obtain⟨hh,h,g1⟩:=JZ h;obtain⟨l,h,g2⟩:=JZ h;exact⟨_,h.2.2.2,fun σ' k' hk=>⟨h0,g1 _ (g2 _ ⟨h.1,h.2.1,h.2.2.1,hk⟩)⟩⟩
 ·simp only at *
  obtain⟨hh,h,g1⟩:=JZ h;obtain⟨l,h,g2⟩:=JZ h;exact⟨_,h.2.2.2,fun σ' k' hk=>g1 _ (g2 _ ⟨h.1,h.2.1,h.2.2.1,hk⟩)⟩
 ·simp only at *
  obtain⟨hh,h,g1⟩:=JZ h;obtain⟨l,h,g2⟩:=JZ h;exact⟨_,h.2.2.2.2.2,fun σ' k' hk=>g1 _ (g2 _ ⟨h.1,h.2.1,h.2.2.1,h.2.2.2.1,trivial,hk⟩)⟩
def P6 {sz:Nat} {y:V} {k:List (List V)→Prop} (h:rowsOf σ sz y k): ∃ys,k ys∧ ∀σ' (k':List (List V)→Prop),Sub σ σ'→k' ys→rowsOf σ' sz y k':=by
 unfold rowsOf at *;cases y<;>first|exact h.elim|skip
 ·exact⟨_,h.2,fun _ _ _ hk=>⟨h.1,hk⟩⟩
 ·rename_i m len cap
  simp only at *;cases hm:σ m with
  | none=>rw[hm]at h;exact h.elim
  | some o=>
    rw[hm]at h;cases o<;>first|exact h.elim|skip
    exact⟨_,h.2.2,fun σ' k' hs hk=>by rw[hs m _ hm];exact⟨h.1,h.2.1,hk⟩⟩
 ·rename_i m s off len
  simp only at *;cases hm:σ m with
  | none=>rw[hm]at h;exact h.elim
  | some o=>
    rw[hm]at h;cases o<;>first|exact h.elim|skip
    exact⟨_,h.2.2.2,fun σ' k' hs hk=>by rw[hs m _ hm];exact⟨h.1,h.2.1,h.2.2.1,hk⟩⟩
def jM {x:V} {k:V→Prop} (h:eN σ x k): ∃v,k v∧ ∀σ' (k':V→Prop),Sub σ σ'→k' v→eN σ' x k':=by
 obtain⟨ys,h1,h2⟩:=P6 h;cases hn:FW ys with
 | none=>rw[hn]at h1;exact h1.elim
 | some ns=>
   rw[hn]at h1;exact⟨_,h1,fun σ' k' hs hk=>h2 σ' _ hs (by rw[hn];exact hk)⟩
def dG {b sz:Nat} {x y:V} {k:V→Prop} (h:Ae b σ sz x y k): ∃v,k v∧ ∀σ' (k':V→Prop),Sub σ σ'→k' v→Ae b σ' sz x y k':=by
 unfold Ae at *;obtain⟨ys,⟨h1,h2⟩,h3⟩:=P6 h;cases x<;>first|exact h2.elim|skip
 exact⟨_,h2.2.2.2,fun σ' k' hs hk=>h3 σ' _ hs ⟨h1,h2.1,h2.2.1,h2.2.2.1,hk⟩⟩
def Wu {ks:KS} {z:V} {ok:Bool} {vm vk:V} {k:V→Prop} (h:AO σ ks z ok vm vk k): ∃v,k v∧ ∀σ' (k':V→Prop),Sub σ σ'→k' v→AO σ' ks z ok vm vk k':=by
 unfold AO at *;obtain⟨h0,h⟩:=h;cases vm<;>first|exact h.elim|skip
 ·rename_i n
  simp only at *;cases hn:σ n with
  | none=>rw[hn]at h;exact h.elim
  | some o=>
    rw[hn]at h;cases o<;>first|exact h.elim|skip
    exact⟨_,h.2,fun σ' k' hs hk=>⟨h0,by rw[hs n _ hn];exact⟨h.1,hk⟩⟩⟩
 ·exact⟨_,h,fun σ' k' hs hk=>⟨h0,hk⟩⟩
inductive Kd where
 | P|N|A|AB|H
 deriving DecidableEq,Repr
def kd:GA→Kd
 | .load _ _=> .N
 | .Sj _=> .N
 | .str _=> .N
 | .Qw _ _ _ _=> .N
 | .box _=> .A
 | .append _ _ x _=>match x with| .c (.l [] true)=> .A|_=> .H
 | .alloc _=> .AB
 | .slice _ _ _ _ mx=>match mx with|none=> .N|some _=> .H
 | .store _ _ _| .copy _ _ _| .E6 _ _ _ _| .panic _| .call _ _| .JA _ _| .Xp _ _| .inv _ _ _| .NS| .GJ _ _ _ _ _| .dj _ _ _| .kU _=> .H
 | .lookup _ _ _ _ _=> .N
 | _=> .P
def xm {o:GA} (hk:kd o= .P): ∃AE:(V→Prop)→Prop,Aq AE∧ ∀σ (k kp:V→AH→Prop),Fi P o env σ k kp=AE (fun v=>k v σ):=by
 cases o<;>first|(simp[kd]at hk;done)|skip
 case mv x=>exact⟨fun k=>wv (ev env x) k,Aq.wv fun v=>Aq.one v,fun _ _ _=>rfl⟩
 case pick c a b=>
  refine⟨fun k=>wv (ev env c) fun vc=>wv (ev env a) fun va=>wv (ev env b) fun vb=>match vc with| .b t=>(match va,vb with| .b x,.b y=>k (.b (bif t then x else y))|_,_=>k (bif t then va else vb))|_=>False,?_,fun _ _ _=>rfl⟩;refine Aq.wv fun vc=>Aq.wv fun va=>Aq.wv fun vb=>?_
  cases vc<;>first|exact Aq.no|skip
  cases va<;>first|exact Aq.one _|skip
  cases vb<;>exact Aq.one _
 case bin op x y=>exact⟨fun k=>wv (ev env x) fun vx=>wv (ev env y) fun vy=>Uc op vx vy k,Aq.wv fun _=>Aq.wv fun _=>jh _ _ _,fun _ _ _=>rfl⟩
 case kg n x y=>
  refine⟨fun k=>wv (ev env x) fun vx=>wv (ev env y) fun vy=>match vx,vy with| .b p,.b q=>k (.b (bif n then p != q else p==q))|_,_=>False,?_,fun _ _ _=>rfl⟩;refine Aq.wv fun vx=>Aq.wv fun vy=>?_
  cases vx<;>cases vy<;>first|exact Aq.no|exact Aq.one _
 case ke q n x y=>
  refine⟨fun k=>wv (ev env x) fun vx=>wv (ev env y) fun vy=>Sk q n vx vy k,Aq.wv fun vx=>Aq.wv fun vy=>?_,fun _ _ _=>rfl⟩;unfold Sk;cases vx<;>first|exact Aq.no|skip
  cases vy<;>first|exact Aq.no|skip
  simp only;split<;>first|exact Aq.no|exact Aq.one _
 case not x=>
  refine⟨fun k=>wv (ev env x) fun vx=>match vx with| .b p=>k (.b (!p))|_=>False,Aq.wv fun vx=>?_,fun _ _ _=>rfl⟩;cases vx<;>first|exact Aq.no|exact Aq.one _
 case neg xor x=>
  refine⟨fun k=>wv (ev env x) fun vx=>match vx with| .i ka a=>k (.i ka (bif xor then bits .xor ka (bif ka.signed then -1 else ka.max) a else ka.wrap (0 - a)))|_=>False,Aq.wv fun vx=>?_,fun _ _ _=>rfl⟩;cases vx<;>first|exact Aq.no|exact Aq.one _
 case conv ka x=>
  refine⟨fun k=>wv (ev env x) fun vx=>match vx with| .i _ a=>k (.i ka (ka.wrap a))|_=>False,Aq.wv fun vx=>?_,fun _ _ _=>rfl⟩;cases vx<;>first|exact Aq.no|exact Aq.one _
 case Qv x=>
  refine⟨fun k=>wv (ev env x) fun vx=>match cellsOf vx with|some cs=>k (.rp cs)|none=>False,Aq.wv fun vx=>?_,fun _ _ _=>rfl⟩;cases cellsOf vx<;>first|exact Aq.no|exact Aq.one _
 case build z ps=>exact⟨fun k=>ws (J6 env z ps) fun cs=>k (.a cs),Aq.ws fun _=>Aq.one _,fun _ _ _=>rfl⟩
 case HH sz len z ps=>exact⟨fun k=>wr (I7 env z.length (List.replicate len z) ps) fun es=>k (.l es true),Aq.wr fun _=>Aq.one _,fun _ _ _=>rfl⟩
 case Gw off x=>exact⟨fun k=>wv (ev env x) fun vx=>KW off vx k,Aq.wv fun _=>Yg _ _,fun _ _ _=>rfl⟩
 case field agg off x=>
  refine⟨fun k=>wv (ev env x) fun vx=>match vx with| .a cs=>cut agg cs off k|_=>False,Aq.wv fun vx=>?_,fun _ _ _=>rfl⟩;cases vx<;>first|exact Aq.no|exact LZ _ _ _
 case LF sz arr x i=>exact⟨fun k=>wv (ev env x) fun vx=>wv (ev env i) fun vi=>AT sz arr vx vi k,Aq.wv fun _=>Aq.wv fun _=>Yf _ _ _ _,fun _ _ _=>rfl⟩
 case UW x i=>exact⟨fun k=>wv (ev env x) fun vx=>wv (ev env i) fun vi=>Ox vx vi k,Aq.wv fun _=>Aq.wv fun _=>dD _ _,fun _ _ _=>rfl⟩
 case index len sz agg x i=>exact⟨fun k=>wv (ev env x) fun vx=>wv (ev env i) fun vi=>KV len sz agg vx vi k,Aq.wv fun _=>Aq.wv fun _=>Ye _ _ _ _ _,fun _ _ _=>rfl⟩
 case len x=>exact⟨fun k=>wv (ev env x) fun vx=>Az vx k,Aq.wv fun _=>jg _,fun _ _ _=>rfl⟩
 case UZ x y=>
  refine⟨fun k=>wv (ev env x) fun vx=>wv (ev env y) fun vy=>match vx,vy with| .i ka a,.i kb b=>ka=kb∧k (.i ka (if b > a then b else a))|_,_=>False,?_,fun _ _ _=>rfl⟩;refine Aq.wv fun vx=>Aq.wv fun vy=>?_
  cases vx<;>cases vy<;>first|exact Aq.no|exact(Aq.one _).and
 case UY x y=>
  refine⟨fun k=>wv (ev env x) fun vx=>wv (ev env y) fun vy=>match vx,vy with| .i ka a,.i kb b=>ka=kb∧k (.i ka (if b<a then b else a))|_,_=>False,?_,fun _ _ _=>rfl⟩;refine Aq.wv fun vx=>Aq.wv fun vy=>?_
  cases vx<;>cases vy<;>first|exact Aq.no|exact(Aq.one _).and
 case extract i x=>
  refine⟨fun k=>wv (ev env x) fun vx=>match vx with| .t vs=>(match vs[i]? with|some v=>k v|none=>False)|_=>False,Aq.wv fun vx=>?_,fun _ _ _=>rfl⟩;cases vx<;>first|exact Aq.no|skip
  rename_i vs;simp only;cases vs[i]? <;>first|exact Aq.no|exact Aq.one _
 case IY x=>
  refine⟨fun k=>wv (ev env x) fun vx=>match vx with
   | .p n off=>k (.p n off)
   | .rp cs=>k (.rp cs)
   | .pe n sz i off=>k (.pe n sz i off)
   | .f (.func f) first cap=>k (.f (.func f) first cap)
   | .f (.yield l) first cap=>k (.f (.yield l) first cap)
   | _=>False,Aq.wv fun vx=>?_,fun _ _ _=>rfl⟩
  cases vx<;>first|exact Aq.no|exact Aq.one _|skip
  rename_i f a b;cases f<;>first|exact Aq.no|exact Aq.one _
 case dh f a b=>exact⟨fun k=>ws (UM env a) fun vf=>ws (UM env b) fun vc=>k (.f f vf vc),Aq.ws fun _=>Aq.ws fun _=>Aq.one _,fun _ _ _=>rfl⟩
 case NT t x=>exact⟨fun k=>wv (ev env x) fun vx=>k (.FJ t vx),Aq.wv fun _=>Aq.one _,fun _ _ _=>rfl⟩
 case dd t z ok x=>
  refine⟨fun k=>wv (ev env x) fun vx=>match vx with
   | .FJ t' v=>(t'=t→k (bif ok then .t [v,.b true]else v))∧(t'≠t→ok=true∧k (.t [z,.b false]))
   | .Dv=>ok=true∧k (.t [z,.b false])
   | _=>False,Aq.wv fun vx=>?_,fun _ _ _=>rfl⟩
  cases vx<;>first|exact Aq.no|exact(Aq.one _).and|skip
  rename_i t' v;simp only;by_cases ht:t'=t
  ·simpa[ht]using Aq.one _
  ·simpa[ht]using(Aq.one (.t [z,.b false])).and
 case LI f as=>
  refine⟨fun k=>ws (UM env as) fun vs=> ∃v,A7 P f vs (fun _=>none) (fun r σ'=>r= .ret v∧σ'=fun _=>none)∧k v,Aq.ws fun vs=>?_,fun _ _ _=>rfl⟩;intro k ⟨v,h1,h2⟩;exact⟨v,h2,fun k' hk=>⟨v,h1,hk⟩⟩
 case slice s x a b c=>
  exfalso;simp only[kd]at hk;split at hk<;>cases hk
 case append a b x y=>
  exfalso;simp only[kd]at hk;split at hk<;>cases hk
 all_goals exact⟨fun _=>False,Aq.no,fun _ _ _=>rfl⟩
def still (o:GA):Bool:=match kd o with| .P=>true| .N=>true|_=>false
def Hp {o : GA} (hs:still o=true) {k kp:V→AH→Prop} (h:Fi P o env σ k kp) :
    ∃v,k v σ∧ ∀σ' (k' kp':V→AH→Prop),(kd o= .P∨Sub σ σ')→k' v σ'→Fi P o env σ' k' kp':=by
 unfold still at hs;cases hk:kd o<;>rw[hk]at hs<;>first|(cases hs;done)|skip
 ·obtain⟨AE,h1,h2⟩:=xm (P:=P) (env:=env) hk
  rw[h2]at h;obtain⟨v,h3,h4⟩:=h1 _ h;exact⟨v,h3,fun σ' k' kp' _ hv=>by rw[h2];exact h4 _ hv⟩
 ·cases o <;>first|(simp[kd]at hk;done)|skip
  case load agg x=>
   simp only[Fi]at *;cases hx:ev env x with
   | none=>rw[hx]at h;exact h.elim
   | some vx=>
     rw[hx]at h;obtain⟨v,h3,h4⟩:=dE σ agg vx _ h;refine⟨v,h3,fun σ' k' kp' hs hv=>cM (hs.resolve_left (by simp)) (h4 _ hv)⟩
  case Sj x=>
   simp only[Fi]at *;cases hx:ev env x with
   | none=>rw[hx]at h;exact h.elim
   | some vx=>
     rw[hx]at h
     try simp only[E8]at h ⊢
     obtain⟨v,h3,h4⟩:=dF σ vx _ h;refine⟨v,h3,fun σ' k' kp' hs hv=>cN (hs.resolve_left (by simp)) (h4 _ hv)⟩
  case str x=>
   simp only[Fi]at *;cases hx:ev env x with
   | none=>rw[hx]at h;exact h.elim
   | some vx=>
     rw[hx]at h
     try simp only[E8]at h ⊢
     obtain⟨v,h3,h4⟩:=jM h;exact⟨v,h3,fun σ' k' kp' hs hv=>h4 _ _ (hs.resolve_left (by simp)) hv⟩
  case lookup ks z ok x y=>
   simp only[Fi]at *;cases hx:ev env x with
   | none=>rw[hx]at h;exact h.elim
   | some vx=>
     rw[hx]at h
     try simp only[E8]at h ⊢
     cases hy:ev env y with
     | none=>rw[hy]at h;exact h.elim
     | some vy=>
       rw[hy]at h
       try simp only[E8]at h ⊢
       obtain⟨v,h1,h2⟩:=Wu h;exact⟨v,h1,fun σ' k' kp' hs hk'=>h2 σ' _ (hs.resolve_left (by simp)) hk'⟩
  case Qw a b x y=>
   simp only[Fi]at *;cases hx:ev env x with
   | none=>rw[hx]at h;exact h.elim
   | some vx=>
     rw[hx]at h
     try simp only[E8]at h ⊢
     cases hy:ev env y with
     | none=>rw[hy]at h;exact h.elim
     | some vy=>
       rw[hy]at h
       try simp only[E8]at h ⊢
       obtain⟨v,h1,h2⟩:=dG h;exact⟨v,h1,fun σ' k' kp' hs hk'=>h2 σ' _ (hs.resolve_left (by simp)) hk'⟩
  case slice s x a b c=>
   cases c with
   | some c=>simp[kd]at hk
   | none=>
     simp only[Fi]at *;cases hx:ev env x with
     | none=>rw[hx]at h;exact h.elim
     | some vx=>
       rw[hx]at h
       try simp only[E8]at h ⊢
       cases ha:HV env a with
       | none=>rw[ha]at h;exact h.elim
       | some va=>
         rw[ha]at h
         try simp only[ZH]at h ⊢
         cases hb:HV env b with
         | none=>rw[hb]at h;exact h.elim
         | some vb=>
           rw[hb]at h;simp only[ZH,HV]at h ⊢;obtain⟨v,h1,h2⟩:=Yd h;exact⟨v,h1,fun σ' k' kp' _ hk'=>h2 σ' k' hk'⟩
  case append a b x y=>
   exfalso;simp only[kd]at hk;split at hk<;>cases hk
end Go.Gl
namespace Go.Gl
variable {P:Program} {Λ:Nat→Prop} {σ:AH}
def Gv (σ:AH) (D:Nat→Prop):AH:=fun n=>open Classical in if D n then σ n else none
def Dd {D:Nat→Prop} {n:Nat} (h:D n):Gv σ D n=σ n:=by unfold Gv;rw[if_pos h]
def Dj {D:Nat→Prop} {n:Nat} (h: ¬D n):Gv σ D n=none:=by unfold Gv;rw[if_neg h]
def join (σ τ:AH):AH:=fun n=>match σ n with|some o=>some o|none=>τ n
def A7.frame {f:FuncId} {args:List V} {Q:R→AH→Prop} (D:Nat→Prop) (h:A7 P f args (Gv σ D) Q) :
    A7 P f args σ fun r σ'=> ∃σ1,Q r σ1∧(∀n,¬D n→σ n≠none→σ1 n=none)∧σ'=join σ1 (Gv σ fun n=> ¬D n):=by
 refine⟨h.1,fun Λ w cs G hv=>?_⟩
 have hH:(Hh (fun n=>Λ n∨(¬D n∧σ n≠none)) (Gv σ D) w)=Hh Λ σ w:=by
  funext b o;unfold Hh;by_cases hb:Λ b∨(σ b).isSome=true
  ·rw[if_pos hb,if_pos]
   rcases hb with hb|hb
   ·exact .inl (.inl hb)
   ·by_cases hd:D b
    ·exact .inr (by rw[Dd hd];exact hb)
    ·exact .inl (.inr ⟨hd,by intro e;rw[e]at hb;cases hb⟩)
  ·rw[if_neg hb,if_neg]
   rintro((h|h)|h)
   ·exact hb (.inl h)
   ·exact hb (.inr (by cases hs:σ b with|none=>exact absurd hs h.2|some o=>rfl))
   ·by_cases hd:D b
    ·rw[Dd hd]at h;exact hb (.inr h)
    ·rw[Dj hd]at h;cases h
 have hR1:Rel (fun n=>Λ n∨(¬D n∧σ n≠none)) (Gv σ D) w:=by
  refine⟨fun n o ho=>?_,fun n hn=>?_⟩
  ·by_cases hd:D n
   ·rw[Dd hd]at ho
    obtain⟨h1,ob,h2,h3⟩:=G.own n o ho;refine⟨?_,ob,h2,by rw[hH];exact h3⟩;rintro(h|h)
    ·exact h1 h
    ·exact h.1 hd
   ·rw[Dj hd]at ho;cases ho
  ·rcases hn with hn|hn
   ·exact G.lock n hn
   ·cases hs:σ n with
    | none=>exact absurd hs hn.2
    | some o=>exact G.lt hs
 refine Calls.mono (h.2 _ w cs hR1 (by rw[hH];exact hv)) fun e w' ⟨r,σ1,hq,h1,h2,h3⟩=>?_
 have hfr: ∀n,¬D n→σ n≠none→σ1 n=none:=fun n hd hn=>by
  cases hs:σ1 n with
  | none=>rfl
  | some o=>exact absurd (.inr ⟨hd,hn⟩) (h2.own n o hs).1
 have hle:Yx (Hh (fun n=>Λ n∨(¬D n∧σ n≠none)) σ1 w') (Hh Λ (join σ1 (Gv σ fun n=> ¬D n)) w'):=by
  intro b o c hc;obtain⟨k1,k2,k3⟩:=GL hc;rw[Nb (fun h=>k1 (.inl h)) ?_]
  ·exact k3
  ·simp only[join,k2]
   by_cases hd:D b
   ·exact Dj (fun h=>h hd)
   ·rw[Dd hd]
    cases hs:σ b with
    | none=>rfl
    | some o=>exact absurd (.inr ⟨hd,by rw[hs];simp⟩) k1
 have Y:B8 Λ σ w (join σ1 (Gv σ fun n=> ¬D n)) w':=by
  refine⟨fun n hn h0=>h3.frame n hn ?_,h3.size,h3.os,h3.tape,h3.output,fun n h0 hn=>?_⟩
  ·by_cases hd:D n
   ·rw[Dd hd];exact h0
   ·exact Dj hd
  ·have:σ1 n=none:=h3.names n (by
    by_cases hd:D n
    ·rw[Dd hd];exact h0
    ·exact Dj hd) hn
   simp only[join,this];by_cases hd:D n
   ·exact Dj (fun h=>h hd)
   ·rw[Dd hd];exact h0
 refine⟨r,_,⟨σ1,hq,hfr,rfl⟩,?_,⟨fun n o ho=>?_,fun n hn=>h2.lock n (.inl hn)⟩,Y⟩
 ·cases r with
  | ret v=>obtain⟨c,rfl,hv⟩:=h1;exact⟨c,rfl,hv.mono hle⟩
  | Bo v=>obtain⟨c,rfl,hv⟩:=h1;exact⟨c,rfl,hv.mono hle⟩
 ·simp only[join]at ho
  cases hs:σ1 n with
  | some o1=>
    rw[hs]at ho;simp only[IU]at ho;subst ho;obtain⟨k1,ob,k2,k3⟩:=h2.own n _ hs;exact⟨fun h=>k1 (.inl h),ob,k2,k3.mono hle⟩
  | none=>
    rw[hs]at ho;simp only at ho;by_cases hd:D n
    ·rw[Dj (fun h=>h hd)]at ho;cases ho
    ·rw[Dd hd]at ho
     obtain⟨k1,ob,k2,k3⟩:=G.own n o ho;refine⟨k1,ob,(h3.frame n (G.lt ho) (Dj hd)).trans k2,k3.mono ?_⟩;exact Y.hle
end Go.Gl
namespace Go.Gl
variable {P:Program} {Λ:Nat→Prop} {env env':Env} {σ:AH}
def Bv {o:Option V} {k k':V→Prop} (h:wv o k) (hm: ∀v,k v→k' v):wv o k':=by
 cases o with
 | none=>exact h
 | some v=>exact hm v h
def LM {o:Option (List V)} {k k':List V→Prop} (h:ws o k) (hm: ∀v,k v→k' v):ws o k':=by
 cases o with
 | none=>exact h
 | some v=>exact hm v h
def TL {o:Option (Option V)} {k k':Option V→Prop} (h:wo o k) (hm: ∀v,k v→k' v):wo o k':=by
 cases o with
 | none=>exact h
 | some v=>exact hm v h
def Wh {sz:Nat} {a x:V} {k k':AH→Prop} (h:AU σ sz a x k) (hm: ∀σ',k σ'→k' σ'):AU σ sz a x k':=by
 unfold AU at *;split at h
 ·rename_i vc hc
  obtain⟨h1,h2,h3⟩:=h;refine⟨h1,h2,?_⟩;cases a<;>first|exact h3.elim|skip
  ·simp only at *
   split at h3
   ·exact⟨h3.1,hm _ h3.2⟩
   ·exact h3.elim
  ·simp only at *
   split at h3
   ·refine⟨h3.1,?_⟩
    have h4:=h3.2;split at h4
    ·exact⟨h4.1,hm _ h4.2⟩
    ·exact h4.elim
   ·exact h3.elim
 ·exact h.elim
def F4 {sz:Nat} {y:V} {k k':List (List V)→Prop} (h:rowsOf σ sz y k) (hm: ∀v,k v→k' v):rowsOf σ sz y k':=by
 unfold rowsOf at *;cases y<;>first|exact h.elim|skip
 ·exact⟨h.1,hm _ h.2⟩
 ·simp only at *
  split at h
  ·exact⟨h.1,h.2.1,hm _ h.2.2⟩
  ·exact h.elim
 ·simp only at *
  split at h
  ·exact⟨h.1,h.2.1,h.2.2.1,hm _ h.2.2.2⟩
  ·exact h.elim
def L8 {b sz:Nat} {x y:V} {k k':V→AH→Prop} (h:AM b σ sz x y k) (hm: ∀v σ',k v σ'→k' v σ'):AM b σ sz x y k':=by
 unfold AM at *;refine F4 h fun ys ⟨h1,h2⟩=>⟨h1,?_⟩
 cases x<;>first|exact h2.elim|skip
 ·simp only at *
  exact⟨h2.1,h2.2.1,fun e=>hm _ _ (h2.2.2.1 e),fun e=>⟨(h2.2.2.2 e).1,fun n cap h3 h4=>hm _ _ ((h2.2.2.2 e).2 n cap h3 h4)⟩⟩
 ·simp only at *
  split at h2
  ·exact⟨h2.1,h2.2.1,h2.2.2.1,h2.2.2.2.1,fun n cap h3 h4=>hm _ _ (h2.2.2.2.2 n cap h3 h4)⟩
  ·exact h2.elim
def Hj {o:Option V} {d:Int} {k k':Int→Prop} (h:Ql o d k) (hm: ∀v,k v→k' v):Ql o d k':=by
 unfold Ql at *;split at h
 ·exact hm _ h
 ·exact hm _ h
 ·exact h.elim
def Wj {sz:Nat} {x:V} {a b c:Option V} {k k':V→AH→Prop} (h:AS σ sz x a b c k) (hm: ∀v σ',k v σ'→k' v σ'):AS σ sz x a b c k':=by
 unfold AS at *;cases x<;>first|exact h.elim|skip
 ·simp only at *
  refine⟨h.1,Hj h.2 fun hh h2=>Hj h2 fun l h3=>⟨h3.1,h3.2.1,h3.2.2.1,?_⟩⟩;have h4:=h3.2.2.2;split at h4
  ·exact hm _ _ h4
  ·exact⟨h4.1,hm _ _ h4.2⟩
  ·exact h4.elim
 ·simp only at *
  refine Hj h fun hh h2=>Hj h2 fun l h3=>⟨h3.1,h3.2.1,h3.2.2.1,?_⟩
  have h4:=h3.2.2.2;split at h4
  ·exact hm _ _ h4
  ·refine⟨h4.1,h4.2.1,h4.2.2.1,?_⟩
   have h5:=h4.2.2.2;split at h5
   ·exact⟨h5.1,h5.2.1,h5.2.2.1,h5.2.2.2.elim (fun h=> .inl (hm _ _ h)) fun h=> .inr (hm _ _ h)⟩
   ·exact h5.elim
  ·exact h4.elim
 ·simp only at *
  exact Hj h fun hh h2=>Hj h2 fun l h3=>⟨h3.1,h3.2.1,h3.2.2.1,h3.2.2.2.1,h3.2.2.2.2.1,hm _ _ h3.2.2.2.2.2⟩
def Rz {sz:Nat} {ys:List (List V)} {n off len:Nat} {k k':V→AH→Prop} (h:Oe σ sz ys n off len k) (hm: ∀v σ',k v σ'→k' v σ'):Oe σ sz ys n off len k':=by
 unfold Oe at *;split at h
 ·exact⟨h.1,h.2.1,hm _ _ h.2.2⟩
 ·exact h.elim
def YO {sz:Nat} {x y:V} {k k':V→AH→Prop} (h:Ad σ sz x y k) (hm: ∀v σ',k v σ'→k' v σ'):Ad σ sz x y k':=by
 refine F4 h fun ys h=>⟨h.1,?_⟩
 have h:=h.2;split at h
 ·exact Rz h hm
 ·exact⟨h.1,Rz h.2 hm⟩
 ·exact h.elim
def Pu {o:GA} {k k' kp kp':V→AH→Prop} (h:Fi P o env σ k kp) (hm: ∀v σ',k v σ'→k' v σ') (hp: ∀v σ',kp v σ'→kp' v σ'):Fi P o env σ k' kp':=by
 by_cases hs:still o=true
 ·obtain⟨v,h1,h2⟩:=Hp hs h
  exact h2 σ k' kp' (.inr fun _ _ h=>h) (hm _ _ h1)
 ·cases o<;>first|(exact absurd rfl hs)|skip
  all_goals simp only[Fi]at *
  case box x=>
   refine Bv h fun v h=>?_
   split at h
   ·exact fun n hn=>hm _ _ (h n hn)
   ·exact h.elim
  case alloc z=>exact fun n hn=>hm _ _ (h n hn)
  case kU x=>exact Bv h fun v ⟨vf,σ2,h1,h2,h3⟩=>⟨vf,σ2,h1,h2,hm _ _ h3⟩
  case NS=>exact fun n hn=>hm _ _ (h n hn)
  case E6 ks x y z=>
   refine Bv h fun vm h=>Bv h fun vk h=>Bv h fun vx h=>?_
   unfold AP at *;obtain⟨h0,h⟩:=h;cases vm<;>first|exact h.elim|skip
   simp only at *;split at h
   ·exact⟨h0,h.1,hm _ _ h.2⟩
   ·exact h.elim
  case dj q n x=>
   refine Bv h fun vx h=>?_
   unfold Iz at *;split at h<;>first|exact h.elim|exact hm _ _ h|exact⟨fun e t=>hm _ _ (h.1 e t),fun e=>hm _ _ (h.2 e)⟩
  case GJ a b c x y=>
   refine Bv h fun vx h=>Bv h fun vy h=>?_
   unfold AL at *;split at h
   ·exact⟨h.1,h.2.1,h.2.2.1,fun id hn=>hm _ _ (h.2.2.2 id hn)⟩
   ·exact h.elim
  case store sz a x=>exact Bv h fun va h=>Bv h fun vx h=>Wh h fun σ' h=>hm _ _ h
  case slice sz x a b c=>exact Bv h fun vx h=>TL h fun l h=>TL h fun hh h=>TL h fun m h=>Wj h hm
  case append sz b x y=>exact Bv h fun vx h=>Bv h fun vy h=>L8 h hm
  case copy sz x y=>exact Bv h fun vx h=>Bv h fun vy h=>YO h hm
  case inv tab x as=>exact Bv h fun vx h=>LM h fun vs h=>h.mono fun r σ' h=>by cases r<;>first|exact hm _ _ h|exact hp _ _ h
  case panic x=>
   refine Bv h fun vx h=>?_
   split at h
   ·exact hp _ _ h
   ·exact h.elim
  case call f as=>exact LM h fun vs h=>h.mono fun r σ' h=>by cases r<;>first|exact hm _ _ h|exact hp _ _ h
  case JA x as=>
   exact Bv h fun vx h=>LM h fun vs h=>h.mono fun r σ' h=>by cases r<;>first|exact hm _ _ h|exact hp _ _ h
def G0 {n:Nat} {o:O} (hn:σ n=none):Sub σ (A5 σ n o):=fun m p hp=>by
 unfold A5;split
 ·rename_i e
  subst e;rw[hn]at hp;cases hp
 ·exact hp
def calm (o:GA):Bool:=match kd o with| .H=>false|_=>true
def No {b sz:Nat} {y:V} {k:V→AH→Prop}:AM b σ sz (.l [] true) y k=rowsOf σ sz y fun ys=>(∀e∈ys,∀v∈e,CO v=true)∧(ys.length≤Aj∧ys.length*b≤140737488355328)∧(ys= []→k (.l [] true) σ)∧
 (ys≠[]→ ∀n cap,σ n=none→ys.length≤cap→k (.sl n ys.length cap) (A5 σ n (.arr sz ys cap))):=by
 simp[AM]
def Nd {s:Nat} {x:Bt} {a b c:Option Bt} (h:calm (.slice s x a b c)=true):still (.slice s x a b c)=true:=by
 cases c with
 | none=>rfl
 | some c=>cases h
def Ry {a b:Nat} {x y:Bt} (h:kd (.append a b x y)≠ .H):x= .c (.l [] true):=by
 simp only[kd]at h;split at h
 ·rfl
 ·exact absurd rfl h
def ar {o:GA} (hc:calm o=true) {k kp:V→AH→Prop} (h:Fi P o env σ k kp):Fi P o env σ (fun v σ'=>k v σ'∧Sub σ σ') kp:=by
 by_cases hs:still o=true
 ·obtain⟨v,h1,h2⟩:=Hp hs h
  exact h2 σ _ kp (.inr fun _ _ h=>h) ⟨h1,fun _ _ h=>h⟩
 ·cases o<;>first|(exact absurd rfl hs)|(cases hc;done)|skip
  all_goals simp only[Fi]at *
  case slice s x a b c=>exact absurd (Nd hc) hs
  case box x=>
   refine Bv h fun v h=>?_
   split at h
   ·exact fun n hn=>⟨h n hn,G0 hn⟩
   ·exact h.elim
  case alloc z=>exact fun n hn=>⟨h n hn,G0 hn⟩
  case append sz b x y=>
   have hx:x= .c (.l [] true):=Ry (b:=b) (a:=sz) (y:=y) (by intro e;simp[calm,e]at hc);subst hx;change wv (ev env y) _ at h;change wv (ev env y) _;refine Bv h fun vy h=>?_
   rw[No]at *;exact F4 h fun ys h=>⟨h.1,h.2.1,fun e=>⟨h.2.2.1 e,fun _ _ h=>h⟩,fun e n cap h3 h4=>⟨h.2.2.2 e n cap h3 h4,G0 h3⟩⟩
def PS {n m:Nat} (h:n≠m) (a b:O):A5 (A5 σ n a) m b=A5 (A5 σ m b) n a:=by
 funext k;unfold A5;by_cases h1:k=m
 ·have h2:k≠n:=fun e=>h (e.symm.trans h1)
  rw[if_pos h1,if_neg h2,if_pos h1]
 ·rw[if_neg h1,if_neg h1]
def KK {n m:Nat} (h:n≠m) {a:O}:A5 σ n a m=σ m:=by
 unfold A5;rw[if_neg (fun e=>h e.symm)]
def MY {n:Nat} {a:O}:A5 σ n a n=some a:=by simp[A5]
def X8 {σ':AH} (hs:Sub σ σ') {sz:Nat} {y:V} {k:List (List V)→Prop} (h:rowsOf σ sz y k):rowsOf σ' sz y k:=by
 unfold rowsOf at *;cases y<;>first|exact h.elim|exact h|skip
 ·rename_i m len cap
  simp only at *;cases hm:σ m with
  | none=>rw[hm]at h;exact h.elim
  | some o=>rw[hm]at h;rw[hs m o hm];exact h
 ·rename_i m s off len
  simp only at *;cases hm:σ m with
  | none=>rw[hm]at h;exact h.elim
  | some o=>rw[hm]at h;rw[hs m o hm];exact h
def WK {o:GA} (hc:calm o=true) {k kp:V→AH→Prop} (h:Fi P o env σ k kp) {m:Nat} {z:O} (hm:σ m=none) :
    Fi P o env (A5 σ m z) (fun v σ2=> ∃σ1,k v σ1∧σ1 m=none∧σ2=A5 σ1 m z) kp:=by
 by_cases hs:still o=true
 ·obtain⟨v,h1,h2⟩:=Hp hs h
  exact h2 _ _ kp (.inr (G0 hm)) ⟨σ,h1,hm,rfl⟩
 ·have hne: ∀n,A5 σ m z n=none→σ n=none∧n≠m:=fun n hn=>by
   have:n≠m:=fun e=>by rw[e,MY]at hn;cases hn
   exact⟨by rwa [KK this.symm]at hn,this⟩
  cases o<;>first|(exact absurd rfl hs)|(cases hc;done)|skip
  all_goals simp only[Fi]at *
  case slice s x a b c=>exact absurd (Nd hc) hs
  case box x=>
   refine Bv h fun v h=>?_
   split at h
   ·exact fun n hn=>⟨_,h n (hne n hn).1,by rw[KK (hne n hn).2];exact hm,PS (hne n hn).2.symm _ _⟩
   ·exact h.elim
  case alloc z'=>exact fun n hn=>⟨_,h n (hne n hn).1,by rw[KK (hne n hn).2];exact hm,PS (hne n hn).2.symm _ _⟩
  case append sz b x y=>
   have hx:x= .c (.l [] true):=Ry (b:=b) (a:=sz) (y:=y) (by intro e;simp[calm,e]at hc);subst hx;change wv (ev env y) _ at h;change wv (ev env y) _;refine Bv h fun vy h=>?_
   rw[No]at *;refine F4 (X8 (G0 hm) h) fun ys h=>⟨h.1,h.2.1,fun e=>⟨σ,h.2.2.1 e,hm,rfl⟩,fun e n cap h3 h4=>?_⟩
   exact⟨_,h.2.2.2 e n cap (hne n h3).1 h4,by rw[KK (hne n h3).2];exact hm,PS (hne n h3).2.symm _ _⟩
def Xe:GA→Bool| .call _ _=>true|_=>false
def WL {o:GA} (hc:Xe o=true) {k kp:V→AH→Prop} (hU: ∀v σ m z,σ m=none→kp v σ→kp v (A5 σ m z)) (h:Fi P o env σ k kp) {m:Nat} {z:O} (hm:σ m=none) :
    Fi P o env (A5 σ m z) (fun v σ2=> ∃σ1,k v σ1∧σ1 m=none∧σ2=A5 σ1 m z) kp:=by
 cases o<;>first|(cases hc;done)|skip
 rename_i f args;simp only[Fi]at *;refine LM h fun vs h=>?_
 have hr:Gv (A5 σ m z) (fun n=>n≠m)=σ:=by
  funext n;by_cases hn:n=m
  ·subst hn;rw[Dj (fun h=>h rfl),hm]
  ·rw[Dd hn];simp[A5,hn]
 have h':A7 P f vs (Gv (A5 σ m z) fun n=>n≠m) (qk k kp):=by rw[hr];exact h
 refine A7.mono (A7.frame (fun n=>n≠m) h') fun r σ' ⟨σ1,hq,hfr,he⟩=>?_
 have h1:σ1 m=none:=hfr m (fun h=>h rfl) (by rw[MY];simp)
 have h2:σ'=A5 σ1 m z:=by
  rw[he];funext n;simp only[join];by_cases hn:n=m
  ·subst hn
   rw[h1];simp only;rw[Dd (fun h=>h rfl),MY,MY]
  ·rw[Dj (fun h=>h hn)]
   cases hs:σ1 n with
   | none=>simp[A5,hn,hs]
   | some o=>simp[A5,hn,hs]
 cases r with
 | ret v=>exact⟨σ1,hq,h1,h2⟩
 | Bo v=>rw[h2];exact hU _ _ _ _ h1 hq
structure Av where
 dst:Option Nat
 op:GA
 guard:Option (Nat×Bool)
 deriving Inhabited
def put (d:Option Nat) (v:V) (env:Env):Env:=match d with|some d=>(d,v)::env|none=>env
def Hw (P:Program) (o:Av) (env:Env) (σ:AH) (k kp:V→AH→Prop):Prop:=
 match o.guard with
 | none=>Fi P o.op env σ k kp
 | some (g,b)=>match get g env with
   | some (.b t)=>(t=b→Fi P o.op env σ k kp)∧(t= !b→k (.t []) σ)
   | some (.t [])=>k (.t []) σ
   | _=>False
def looks (o:Av):List Nat:=reads o.op++(match o.guard with|some (g,_)=>[g]|none=>[])
def GR {o:Av} {k kp:V→AH→Prop} (h: ∀s∈looks o,get s env'=get s env):Hw P o env' σ k kp=Hw P o env σ k kp:=by
 unfold Hw;unfold looks at h;cases hg:o.guard with
 | none=>exact SV fun s hs=>h s (Sa _ hs)
 | some p=>
   obtain⟨g,b⟩:=p;simp only;rw[h g (by rw[hg];simp),SV fun s hs=>h s (Sa _ hs)]
def CK {o:Av} {k k' kp kp':V→AH→Prop} (h:Hw P o env σ k kp) (hm: ∀v σ',k v σ'→k' v σ') (hp: ∀v σ',kp v σ'→kp' v σ'):Hw P o env σ k' kp':=by
 unfold Hw at *;split at h
 ·exact Pu h hm hp
 ·split at h
  ·exact⟨fun e=>Pu (h.1 e) hm hp,fun e=>hm _ _ (h.2 e)⟩
  ·exact hm _ _ h
  ·exact h.elim
def SW {o:Av} (hs:still o.op=true) {k kp:V→AH→Prop} (h:Hw P o env σ k kp) :
    ∃v,k v σ∧ ∀σ' (k' kp':V→AH→Prop),(kd o.op= .P∨Sub σ σ')→k' v σ'→Hw P o env σ' k' kp':=by
 unfold Hw at *;split at h
 ·obtain⟨v,h1,h2⟩:=Hp hs h
  exact⟨v,h1,fun σ' k' kp' hσ hk=>h2 σ' k' kp' hσ hk⟩
 ·rename_i g b hg
  split at h
  ·rename_i t ht
   skip
   by_cases htb:t=b
   ·obtain⟨v,h1,h2⟩:=Hp hs (h.1 htb)
    refine⟨v,h1,fun σ' k' kp' hσ hk=>?_⟩;exact⟨fun _=>h2 σ' k' kp' hσ hk,fun e=>absurd (htb.symm.trans e) (by cases b<;>simp)⟩
   ·refine⟨.t [],h.2 (by cases t<;>cases b<;>simp_all),fun σ' k' kp' hσ hk=>?_⟩
    exact⟨fun e=>absurd e htb,fun _=>hk⟩
  ·exact⟨.t [],h,fun σ' k' kp' hσ hk=>hk⟩
  ·exact h.elim
def au {o:Av} (hc:calm o.op=true) {k kp:V→AH→Prop} (h:Hw P o env σ k kp):Hw P o env σ (fun v σ'=>k v σ'∧Sub σ σ') kp:=by
 unfold Hw at *;split at h
 ·exact ar hc h
 ·split at h
  ·exact⟨fun e=>ar hc (h.1 e),fun e=>⟨h.2 e,fun _ _ h=>h⟩⟩
  ·exact⟨h,fun _ _ h=>h⟩
  ·exact h.elim
def kK {o:Av} (hc:calm o.op=true) {k kp:V→AH→Prop} (h:Hw P o env σ k kp) {m:Nat} {z:O} (hm:σ m=none) :
    Hw P o env (A5 σ m z) (fun v σ2=> ∃σ1,k v σ1∧σ1 m=none∧σ2=A5 σ1 m z) kp:=by
 unfold Hw at *;split at h
 ·exact WK hc h hm
 ·split at h
  ·exact⟨fun e=>WK hc (h.1 e) hm,fun e=>⟨σ,h.2 e,hm,rfl⟩⟩
  ·exact⟨σ,h,hm,rfl⟩
  ·exact h.elim
def Y4 (o:GA):Bool:=calm o||Xe o
def dY {o:Av} (hc:Y4 o.op=true) {k kp:V→AH→Prop} (hU: ∀v σ m z,σ m=none→kp v σ→kp v (A5 σ m z)) (h:Hw P o env σ k kp) {m:Nat} {z:O} (hm:σ m=none) :
    Hw P o env (A5 σ m z) (fun v σ2=> ∃σ1,k v σ1∧σ1 m=none∧σ2=A5 σ1 m z) kp:=by
 cases hc':calm o.op with
 | true=>exact kK hc' h hm
 | false=>
   have hc2:Xe o.op=true:=by simpa[Y4,hc']using hc
   unfold Hw at *;split at h
   ·exact WL hc2 hU h hm
   ·split at h
    ·exact⟨fun e=>WL hc2 hU (h.1 e) hm,fun e=>⟨σ,h.2 e,hm,rfl⟩⟩
    ·exact⟨σ,h,hm,rfl⟩
    ·exact h.elim
end Go.Gl
namespace Go.Gl
variable {P:Program} {Λ:Nat→Prop} {env env':Env} {σ:AH}
structure Cv where
 i:Nat
 o:Av
 ph:List Nat
 re:List Av
 deriving Inhabited
def AK (x:Av):List Nat:=(match x.dst with|some d=>[d]|none=>[])++looks x
def HZ (P:Program) (x:Av) (env:Env) (σ:AH):Prop:=Hw P x env σ (fun u _=> ∀s,x.dst=some s→get s env=some u) (fun _ _=>False)
def Ed (P:Program):List Av→Env→AH→Prop
 | [],_,_=>True
 | x::r,env,σ=>HZ P x env σ∧Ed P r env σ
def Ed.mem: ∀ {l:List Av},Ed P l env σ→ ∀x∈l,HZ P x env σ
 | _::_,h,_,.head _=>h.1
 | _::_,h,x,.tail _ hx=>Ed.mem h.2 x hx
def Dc (P:Program):List Cv→(Env→AH→Prop)→(V→AH→Prop)→Env→AH→Prop
 | [],K,_,env,σ=>K env σ
 | d::r,K,kp,env,σ=>Hw P d.o env σ (fun v σ'=>Ed P d.re (put d.o.dst v env) σ'∧Dc P r K kp (put d.o.dst v env) σ') kp
def kS (env env':Env):Prop:= ∀s,get s env=get s env'
def Cc {s:Nat} {d:Option Nat} {v:V} (h:d≠some s):get s (put d v env)=get s env:=by
 cases d with
 | none=>rfl
 | some d=>
   simp only[put,get];cases hb:Nat.beq d s with
   | false=>rfl
   | true=>exact absurd (by rw[UC hb]) h
def Ej {s:Nat} {v:V}:get s (put (some s) v env)=some v:=by simp[put,get]
def kS.put {d:Option Nat} {v:V} (h:kS env env'):kS (Gl.put d v env) (Gl.put d v env'):=fun s=>by
 by_cases hd:d=some s
 ·subst hd
  rw[Ej,Ej]
 ·rw[Cc hd,Cc hd,h]
def jV {d e:Option Nat} {v u:V} (h: ∀s,d=some s→e≠some s):kS (Gl.put d v (Gl.put e u env)) (Gl.put e u (Gl.put d v env)):=fun s=>by
 by_cases hd:d=some s
 ·subst hd
  rw[Ej,Cc (h s rfl),Ej]
 ·rw[Cc hd]
  by_cases he:e=some s
  ·subst he
   rw[Ej,Ej]
  ·rw[Cc he,Cc he,Cc hd]
def Nw {x:Av} (h: ∀s∈AK x,get s env'=get s env) (hr:HZ P x env σ):HZ P x env' σ:=by
 unfold HZ at *;rw[GR (env:=env) fun s hs=>h s (UO _ hs)];refine CK hr (fun v σ' hv s hs=>?_) fun _ _ h=>h
 rw[h s (Sa _ (by rw[hs];simp))];exact hv s hs
def ME: ∀ {l:List Av},(∀s,get s env'=get s env)→Ed P l env σ→Ed P l env' σ
 | [],_,_=>trivial
 | _::_,h,hr=>⟨Nw (fun s _=>h s) hr.1,ME h hr.2⟩
section
variable {K:Env→AH→Prop} {kp:V→AH→Prop}
def Jr (U: ∀env env' σ,kS env env'→K env σ→K env' σ): ∀ {l:List Cv} {env env':Env} {σ:AH},kS env env'→Dc P l K kp env σ→Dc P l K kp env' σ
 | [],_,_,_,hg,h=>U _ _ _ hg h
 | d::r,env,env',σ,hg,h=>by
   simp only[Dc]at *;rw[GR (env:=env) fun s _=>(hg s).symm];exact CK h (fun v σ' ⟨h1,h2⟩=>⟨ME (fun s=>(hg.put s).symm) h1,Jr U hg.put h2⟩) fun _ _ h=>h
def pY (x y:Av):Prop:=(∀d,x.dst=some d→d∉looks y∧y.dst≠some d)∧ ∀d,y.dst=some d→d∉looks x
def fresh (y x:Av):Prop:= ∀d,y.dst=some d→d∉AK x
def yc (x y:Cv):Prop:=x.re= []∧pY x.o y.o∧
 ((still x.o.op=true∧calm y.o.op=true)∨kd x.o.op= .P∨(still x.o.op=true∧x.o∈y.re∧ ∀d,x.o.dst=some d→d∉looks x.o)∨(Y4 x.o.op=true∧y.re= []∧y.o.guard=none∧ ∃z,y.o.op= .alloc z))
def gk (hU: ∀v σ m z,σ m=none→kp v σ→kp v (A5 σ m z)) (U: ∀env env' σ,kS env env'→K env σ→K env' σ) {i:Cv} {ys:List Cv}: ∀ {xs:List Cv},(∀x∈xs,yc x i)→xs.Pairwise (fun x y=>kd x.o.op= .N→fresh y.o x.o)→
    ∀ {env:Env} {σ:AH},Dc P (xs++i::ys) K kp env σ→
    Hw P i.o env σ (fun u σ'=>(∀r∈i.re,(∀x∈xs,fresh x.o r)→HZ P r (put i.o.dst u env) σ')∧Dc P (xs++ys) K kp (put i.o.dst u env) σ') kp
 | [],_,_,env,σ,h=>CK h (fun u σ' ⟨h1,h2⟩=>⟨fun r hr _=>h1.mem r hr,h2⟩) fun _ _ h=>h
 | x ::xs,hok,hpw,env,σ,h=>by
   simp only[List.cons_append,Dc]at h;obtain⟨hpw1,hpw2⟩:=List.pairwise_cons.1 hpw;obtain⟨hre,⟨ha1,ha2⟩,hk⟩:=hok x (.head _)
   have h':Hw P x.o env σ (fun v σ1=>Hw P i.o (put x.o.dst v env) σ1 (fun u σ'=>(∀r∈i.re,(∀x∈xs,fresh x.o r)→HZ P r (put i.o.dst u (put x.o.dst v env)) σ')∧Dc P (xs++ys) K kp (put i.o.dst u (put x.o.dst v env)) σ') kp) kp:=
    CK h (fun v σ1 hh=>gk hU U (fun y hy=>hok y (.tail _ hy)) hpw2 hh.2) fun _ _ h=>h
   have agx: ∀v,∀s∈looks i.o,get s (put x.o.dst v env)=get s env:=fun v s hs=>Cc fun e=>(ha1 s e).1 hs
   have agi: ∀(env:Env) u,∀s∈looks x.o,get s (put i.o.dst u env)=get s env:=fun env u s hs=>Cc fun e=>ha2 s e hs
   have hcm: ∀v u,kS (put i.o.dst u (put x.o.dst v env)) (put x.o.dst v (put i.o.dst u env)):=fun v u=>jV fun s hs hx=>(ha1 s hx).2 hs
   have hRE: ∀v u σ',(∀r∈i.re,(∀x∈xs,fresh x.o r)→HZ P r (put i.o.dst u (put x.o.dst v env)) σ')→ ∀r∈i.re,(∀y∈x::xs,fresh y.o r)→HZ P r (put i.o.dst u env) σ':=fun v u σ' hh r hr hf=>by
    refine Nw (fun s hs=>?_) (hh r hr fun y hy=>hf y (.tail _ hy));rw[hcm v u s,Cc fun e=>hf x (.head _) s e hs]
   by_cases hst:still x.o.op=true
   ·obtain⟨v,hi,hd⟩:=SW hst h'
    have fin: ∀u σ',(kd x.o.op= .P∨Sub σ σ')→(∀r∈i.re,(∀x∈xs,fresh x.o r)→HZ P r (put i.o.dst u (put x.o.dst v env)) σ')→Dc P (xs++ys) K kp (put i.o.dst u (put x.o.dst v env)) σ'→
     (∀r∈i.re,(∀y∈x::xs,fresh y.o r)→HZ P r (put i.o.dst u env) σ')∧Dc P (x::xs++ys) K kp (put i.o.dst u env) σ':=fun u σ' hs h1 h2=>by
     refine⟨hRE v u σ' h1,?_⟩;simp only[List.cons_append,Dc];rw[GR (env:=env) (agi env u)];exact hd σ' _ _ hs ⟨by rw[hre];trivial,Jr U (hcm v u) h2⟩
    rw[GR (env:=env) (agx v)]at hi;rcases hk with⟨_,hc⟩|F|⟨_,hm,hself⟩|⟨_,_,hg,z,hz⟩
    ·exact CK (au hc hi) (fun u σ' ⟨⟨h1,h2⟩,hs⟩=>fin u σ' (.inr hs) h1 h2) fun _ _ h=>h
    ·exact CK hi (fun u σ' ⟨h1,h2⟩=>fin u σ' (.inl F) h1 h2) fun _ _ h=>h
    ·by_cases F:kd x.o.op= .P
     ·exact CK hi (fun u σ' ⟨h1,h2⟩=>fin u σ' (.inl F) h1 h2) fun _ _ h=>h
     have hN:kd x.o.op= .N:=by
      unfold still at hst;cases hkk:kd x.o.op<;>rw[hkk]at hst<;>simp_all
     refine CK hi (fun u σ' ⟨h1,h2⟩=>⟨hRE v u σ' h1,?_⟩) fun _ _ h=>h
     have hr:=h1 x.o hm fun y hy=>hpw1 y hy hN
     unfold HZ at hr;obtain⟨v',hv',hd'⟩:=SW hst hr;simp only[List.cons_append,Dc]
     have hsame: ∀s∈looks x.o,get s (put i.o.dst u env)=get s (put i.o.dst u (put x.o.dst v env)):=fun s hs=>by
      rw[agi env u s hs,agi _ u s hs];by_cases hxs:x.o.dst=some s
      ·exact absurd hs (hself s hxs)
      ·rw[Cc hxs]
     rw[GR (env:=put i.o.dst u (put x.o.dst v env)) hsame];refine hd' σ' _ kp (.inr fun _ _ h=>h) ⟨by rw[hre];trivial,?_⟩
     have hvv:put x.o.dst v' (put i.o.dst u env)=put x.o.dst v (put i.o.dst u env):=by
      cases hxd:x.o.dst with
      | none=>rfl
      | some s=>
        have e:=hv' s hxd;rw[Cc (ha1 s hxd).2,hxd,Ej]at e;cases e;rfl
     rw[hvv];exact Jr U (hcm v u) h2
    ·have hc:calm i.o.op=true:=by rw[hz];rfl
     exact CK (au hc hi) (fun u σ' ⟨⟨h1,h2⟩,hs⟩=>fin u σ' (.inr hs) h1 h2) fun _ _ h=>h
   ·rcases hk with⟨hst',_⟩|F|⟨hst',_,_⟩|⟨hcx,hir,hg,z,hz⟩
    ·exact absurd hst' hst
    ·exact absurd (by unfold still;rw[F]) hst
    ·exact absurd hst' hst
    ·unfold Hw
     rw[hg];simp only[hz,Fi];intro m hm;refine⟨fun r hr=>(by rw[hir]at hr;exact absurd hr (by simp)),?_⟩;simp only[List.cons_append,Dc];rw[GR (env:=env) (agi env _)];refine CK (dY hcx hU h' (z:= .cs z) hm) (fun v σ2 ⟨σ1,hh,h1,h2⟩=>?_) fun _ _ h=>h
     unfold Hw at hh;rw[hg]at hh;simp only[hz,Fi]at hh;subst h2;exact⟨by rw[hre];trivial,Jr U (hcm v _) (hh m h1).2⟩
end
end Go.Gl
