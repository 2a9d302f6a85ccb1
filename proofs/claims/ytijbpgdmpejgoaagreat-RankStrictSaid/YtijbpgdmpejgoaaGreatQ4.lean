import Derived.DeepKeys3
import Derived.StringKeys
import Derived.Test.YtijbpgdmpejgoaaGreatQ3
set_option linter.all false
set_option linter.unusedVariables false
set_option linter.unusedSimpArgs false
namespace Go.Gl
variable {P:Program} {Λ:Nat→Prop} {σ:AG} {w:World} {k kp:V→AG→Prop}
structure KL (P:Program) (kt:TypeId) (ok:Value→Prop):Prop where
 check: ∀(w:World) (em:Bool) {v:Value},ok v→(Instr.checkKey em 10000 kt v).run P w= .ok () w
 find: ∀(w:World) {x:Value},ok x→ ∀es:List MapEntry,(∀e∈es,ok e.key)→
  ((Instr.findKey kt x es).run P w= .ok none w∧ ∀e∈es,e.key≠x)∨ ∃j e,(Instr.findKey kt x es).run P w= .ok (some (j,e.val)) w∧es[j]? =some e∧e.key=x
 stays: ∀(w:World) {v:Value},ok v→(Instr.keyThatStays v v).run P w= .ok v w
theorem KL.of_law {kt:TypeId} (K:WideMaps.KeyLaw P kt):KL P kt fun v=> ∃l,keyOf P kt v=some l where
 check w em _ h:=let⟨_,h⟩:=h;K.check w em h
 find w _ h es hes:=let⟨_,h⟩:=h;K.find w h es hes
 stays w _ h:=let⟨_,h⟩:=h;K.stays w h
theorem MC {q:IntKind} {ki:IntKind} (a:Int): ∀(es:List MapEntry) (i:Nat),(∀e∈es,∃b,e.key= .int ki b)→
 (Instr.findNow (.int q) (.int ki a) es i=some none∧ ∀e∈es,e.key≠ .int ki a)∨ ∃j e,Instr.findNow (.int q) (.int ki a) es i=some (some (i+j,e.val))∧es[j]? =some e∧e.key= .int ki a
 | [],i,_=> .inl ⟨rfl,by simp⟩
 | e ::es,i,h=>by
   obtain⟨b,hb⟩:=h e (.head _);simp only[Instr.findNow,hb,Instr.sameNow,if_true];by_cases hab:a=b
   ·subst hab
    refine .inr ⟨0,e,by simp,rfl,hb⟩
   ·have:(a==b)=false:=by simpa using hab
    rw[this];rcases MC a es (i+1) (fun e he=>h e (.tail _ he))with⟨h1,h2⟩|⟨j,e',h1,h2,h3⟩
    ·refine .inl ⟨h1,fun e' he'=>?_⟩
     rcases G3.1 he' with rfl|he'
     ·rw[hb];intro e;cases e;exact hab rfl
     ·exact h2 e' he'
    ·exact .inr ⟨j+1,e',by rw[h1,show i+1+j=i+(j+1) by omega],h2,h3⟩
theorem Yq {kt:TypeId} {q:IntKind} (hu:P.underlying kt=some (.int q)) (em:Bool) (n:Nat) (ki:IntKind) (b:Int):(Instr.checkKey em (n+1) kt (.int ki b)).run P w= .ok () w:=by
 simp only[Instr.checkKey,Sem.run_bind,A9 hu,Result.andThen_ok,Sem.run_pure]
theorem KL.int {kt:TypeId} {q:IntKind} (hu:P.underlying kt=some (.int q)) (ki:IntKind):KL P kt fun v=> ∃b,v= .int ki b where
 check w em v h:=by
  obtain⟨b,rfl⟩:=h;exact Yq hu em 9999 ki b
 find w x h es hes:=by
  obtain⟨b,rfl⟩:=h;unfold Instr.findKey;simp only[Sem.run_bind,A9 hu,Result.andThen_ok];rcases MC (q:=q) b es 0 hes with⟨h1,h2⟩|⟨j,e,h1,h2,h3⟩
  ·exact .inl ⟨by rw[h1];rfl,h2⟩
  ·exact .inr ⟨j,e,by rw[h1,Nat.zero_add];rfl,h2,h3⟩
 stays w v h:=by
  obtain⟨b,rfl⟩:=h;unfold Instr.keyThatStays;have:Instr.sameBits 10000 (.int ki b) (.int ki b)=true:=by simp[Instr.sameBits]
  rw[this];rfl
def Ints (cs cs':List Value):Prop:=cs.length=cs'.length∧ ∀(i:Nat) (a:Value),cs[i]? =some a→ ∃(q:IntKind) (n m:Int),a=Value.int q n∧cs'[i]? =some (Value.int q m)∧(Lit.int q m).wf=true
theorem Ints.part {cs cs':List Value} (h:Ints cs cs') (o n:Nat):Ints ((cs.drop o).take n) ((cs'.drop o).take n):=by
 refine⟨by simp[h.1],fun i a ha=>?_⟩;rw[List.getElem?_take]at ha ⊢;split at ha
 ·rename_i hi
  rw[if_pos hi];rw[wF]at ha ⊢;exact h.2 _ _ ha
 ·cases ha
theorem Q8 {α β:Type} {f g:α→Option β}: ∀ {l:List α} {ys:List β},(∀x∈l,∀y,f x=some y→ ∃y',g x=some y')→l.mapM f=some ys→ ∃ys',l.mapM g=some ys'
 | [],_,_,_=>⟨[],by simp⟩
 | x::l,ys,h,hm=>by
   rw[List.mapM_cons]at hm;simp only[bind,Option.bind_eq_some_iff,pure,Ha]at hm;obtain⟨y,h1,ys',h2,rfl⟩:=hm;obtain⟨y',h3⟩:=h x (.head _) y h1;obtain⟨ys'',h4⟩:=Q8 (fun x hx=>h x (.tail _ hx)) h2;exact⟨y'::ys'',by rw[List.mapM_cons];simp[h3,h4]⟩
theorem Jb: ∀(D:Nat) (t:TypeId) {cs cs':List Value} {l:List Lit},Ints cs cs'→P.keyLits D t cs=some l→ ∃l',P.keyLits D t cs'=some l'
 | 0,_,_,_,_,_,h=>by simp[Program.keyLits]at h
 | D + 1,t,cs,cs',l,hi,h=>by
   unfold Program.keyLits at h ⊢;split at h
   ·rename_i b _
    obtain⟨q,n,m,e,_⟩:=hi.2 0 _ rfl;cases e
   ·rename_i q q' n hu
    obtain⟨q2,n2,m,e,e2,e3⟩:=hi.2 0 _ rfl;cases e;have hl:cs'.length=1:=hi.1.symm
    match cs',hl,e2 with
    | [c],_,e2=>
      simp only[qu,Ha]at e2;subst e2;split at h
      ·rename_i hq
       obtain⟨rfl,_⟩:=hq;simp only[hu];exact⟨_,if_pos ⟨trivial,e3⟩⟩
      ·cases h
   ·obtain⟨q,n,m,e,_⟩:=hi.2 0 _ rfl
    cases e
   ·rename_i n e hu
    simp only[hu];split at h
    ·rename_i hl
     rw[if_pos (by rw[←hi.1];exact hl)];obtain⟨ys,h1,_⟩:=Ag h;obtain⟨ys',h2⟩:=Q8 (g:=fun i=>P.keyLits D e ((cs'.drop (i*P.cellsOf e)).take (P.cellsOf e))) (fun i _ y hy=>Jb D e (hi.part _ _) hy) h1;exact⟨_,by rw[h2];rfl⟩
    ·cases h
   ·rename_i fs hu
    simp only[hu];split at h
    ·rename_i hl
     rw[if_pos (by rw[←hi.1];exact hl)];obtain⟨ys,h1,_⟩:=Ag h;obtain⟨ys',h2⟩:=Q8 (g:=fun f=>P.keyLits D f.type ((cs'.drop f.offset).take (P.cellsOf f.type))) (fun f _ y hy=>Jb D f.type (hi.part _ _) hy) h1;exact⟨_,by rw[h2];rfl⟩
    ·cases h
   ·cases h
def sg:V→Option IntKind| .i q _=>some q|_=>none
def RD:List V→Option (List IntKind)
 | []=>some []
 | c::cs=>match sg c,RD cs with|some q,some l=>some (q::l)|_,_=>none
def R2 (P:Program) (kt:TypeId):Option KS:=
 match P.underlying kt with
 | some (.int k)=>some (.i k)
 | some .string=>some .s
 | some (.array _ _)|some (.struct _)=>match zeroOf P kt with
   | some (.a cs)=>match RD cs with
     | some l=>if P.keyType kt&&P.keyTypeAt 6 kt&&P.tiled 6 kt&&(P.keyLits (P.types.size+1) kt (l.map fun q=> .int q 0)).isSome&&Nat.beq l.length (P.cellsOf kt)then some (.a l)else none
     | none=>none
   | _=>none
 | _=>none
theorem HK {H:Nat→Nat→Option Value} {g:Nat→Option Value}: ∀ {l:List IntKind} {cs:List V} {o:Nat},DP l cs=true→BV H g o cs→
 cs.length=l.length∧ ∀(i:Nat) (q:IntKind),l[i]? =some q→ ∃m:Int,cs[i]? =some (.i q m)∧g (o+i)=some (.int q m)∧q.min≤m∧m≤q.max
 | [],[],_,_,_=>⟨rfl,by simp⟩
 | [],_::_,_,h,_=>by simp[DP]at h
 | q::l,[],_,h,_=>by simp[DP]at h
 | q ::l,c::cs,o,h,hv=>by
   cases c<;>simp only[DP,Ls]at h
   rename_i q' n;simp only[BO,DU]at h;obtain⟨rfl,h⟩:=h;obtain⟨⟨c,h1,⟨rfl,h2⟩⟩,h3⟩:=hv;obtain⟨h4,h5⟩:=HK h h3;refine⟨by simp[h4],fun i q' hq=>?_⟩;cases i with
   | zero=>simp only[qu,Ha]at hq;subst hq;exact⟨n,rfl,h1,h2⟩
   | succ i=>
     obtain⟨m,h6,h7,h8⟩:=h5 i q' (by simpa using hq);exact⟨m,by simpa using h6,by rw[←h7];congr 1;omega,h8⟩
theorem kr {kt:TypeId} {ks:KS} (h:R2 P kt=some ks): ∃ok,KL P kt ok∧ ∀(H:Nat→Nat→Option Value) (v:V) (c:Value),BM ks v=true→AZ H v c→ok c:=by
 unfold R2 at h
 have agg: ∀(hw:(match P.underlying kt with|some (.array _ _)|some (.struct _)=>true|_=>false)=true),(match zeroOf P kt with
  | some (.a cs)=>match RD cs with
    | some l=>if P.keyType kt&&P.keyTypeAt 6 kt&&P.tiled 6 kt&&(P.keyLits (P.types.size+1) kt (l.map fun q=>Value.int q 0)).isSome&&Nat.beq l.length (P.cellsOf kt)then some (.a l)else none
    | none=>none
  | _=>none)=some ks→ ∃ok,KL P kt ok∧ ∀(H:Nat→Nat→Option Value) (v:V) (c:Value),BM ks v=true→AZ H v c→ok c:=fun hw h=>by
  split at h
  ·split at h
   ·rename_i l _
    split at h
    ·rename_i hc
     cases h;simp only[BO]at hc;obtain⟨⟨⟨⟨c1,c2⟩,c3⟩,c4⟩,c5⟩:=hc;refine⟨_,KL.of_law (deep_law (m:=6) (by omega) c2 c3 hw),fun H v c hv hr=>?_⟩;cases v<;>simp only[BM,Ls]at hv
     rename_i cs;obtain⟨c',rfl,h1,h2⟩:=hr;obtain⟨h3,h4⟩:=HK hv h2;have hsz:c'.size=P.cellsOf kt:=by rw[h1,h3];exact Nat.eq_of_beq_eq_true c5
     obtain⟨L,hL⟩:=Option.isSome_iff_exists.1 c4
     obtain⟨L',hL'⟩:=Jb (P:=P) (P.types.size+1) kt (cs:=l.map fun q=>Value.int q 0) (cs':=c'.toList) ⟨by simp[h1,h3],fun i a ha=>by
      rw[Rv]at ha;obtain⟨q,hq,rfl⟩:=Ag ha;obtain⟨m,_,h6,h7⟩:=h4 i q hq
      refine⟨q,0,m,rfl,by simpa using h6,by simpa[Lit.wf]using h7⟩⟩ hL
     have hf:(Value.agg c').formed P kt=true:=by
      unfold Value.formed;split at hw<;>simp_all
     refine⟨.string (keyBytes L'),?_⟩;unfold keyOf;split at hw
     ·rename_i hu;simp only[hu,c1,hf,Bool.and_self,if_true];show Option.map _ (P.keyLits _ kt c'.toList)=_;rw[hL'];rfl
     ·rename_i hu;simp only[hu,c1,hf,Bool.and_self,if_true];show Option.map _ (P.keyLits _ kt c'.toList)=_;rw[hL'];rfl
     ·cases hw
    ·cases h
   ·cases h
  ·cases h
 split at h
 ·rename_i q0 hu
  cases h;refine⟨_,KL.int hu q0,fun H v c hv hr=>?_⟩;cases v<;>simp only[BM,Ls]at hv
  rename_i q n;obtain⟨rfl,_⟩:=hr;have:=of_decide_eq_true hv;subst this;exact⟨n,rfl⟩
 ·rename_i hu
  cases h;refine⟨_,KL.of_law (WideMaps.string_law hu),fun H v c hv hr=>?_⟩;cases v<;>simp only[BM,Ls]at hv
  have hr':c= .string _:=hr;subst hr';exact⟨_,WideMaps.keyOf_string_mk hu (Nat.le_trans (Nat.le_of_ble_eq_true hv) (by decide))⟩
 ·rename_i hu;exact agg (by rw[hu]) h
 ·rename_i hu;exact agg (by rw[hu]) h
 ·cases h
theorem OQ: ∀ {l:List IntKind} {cs ds:List V},DP l cs=true→DP l ds=true→ ∃r,Bn cs ds=some r∧(r=true↔cs=ds)
 | [],[],[],_,_=>⟨true,rfl,by simp⟩
 | [],_::_,_,h,_=>by simp[DP]at h
 | [],[],_::_,_,h=>by simp[DP]at h
 | _::_,[],_,h,_=>by simp[DP]at h
 | _::_,_::_,[],_,h=>by simp[DP]at h
 | q ::l,c::cs,d::ds,h,h'=>by
   cases c<;>simp only[DP,Ls]at h
   cases d<;>simp only[DP,Ls]at h'
   rename_i k a k' b;simp only[BO,DU]at h h';obtain⟨rfl,h⟩:=h;obtain⟨rfl,h'⟩:=h';obtain⟨r,h1,h2⟩:=OQ h h';refine⟨(a==b)&&r,by simp[Bn,h1],?_⟩;rw[BO,h2];constructor
   ·rintro⟨h3,rfl⟩
    rw[show a=b by simpa using h3]
   ·intro e
    cases e;exact⟨by simp,rfl⟩
theorem Py {ks:KS} {H:Nat→Nat→Option Value} {x y:V} {c d:Value} (hx:BM ks x=true) (hy:BM ks y=true) (hc:AZ H x c) (hd:AZ H y d):DX x y=true↔c=d:=by
 cases ks with
 | i q=>
   cases x<;>simp only[BM,Ls]at hx
   cases y<;>simp only[BM,Ls]at hy
   rename_i k a k' b;obtain⟨rfl,_⟩:=hc;obtain⟨rfl,_⟩:=hd;have h1:=of_decide_eq_true hx;have h2:=of_decide_eq_true hy;subst h1;subst h2;simp[DX]
 | s=>
   cases x<;>simp only[BM,Ls]at hx
   cases y<;>simp only[BM,Ls]at hy
   have h1:c= .string _:=hc;have h2:d= .string _:=hd;subst h1;subst h2;simp[DX]
 | a l =>
   cases x<;>simp only[BM,Ls]at hx
   cases y<;>simp only[BM,Ls]at hy
   rename_i cs ds;obtain⟨c',rfl,h1,h2⟩:=hc;obtain⟨d',rfl,h3,h4⟩:=hd;obtain⟨r,h5,h6⟩:=OQ hx hy;obtain⟨g1,g2⟩:=HK hx h2;obtain⟨g3,g4⟩:=HK hy h4;simp only[DX,h5,Option.getD_some,h6,Value.agg.injEq];constructor
   ·rintro rfl
    refine Array.ext (by omega) fun i hi hj=>?_
    obtain⟨m,a1,a2,_⟩:=g2 i l[i] (Fs (by omega));obtain⟨m',b1,b2,_⟩:=g4 i l[i] (Fs (by omega));rw[a1]at b1;cases b1;simp only[Nat.zero_add,Array.getElem?_eq_getElem hi,Array.getElem?_eq_getElem hj,Ha]at a2 b2;rw[a2,b2]
   ·rintro rfl
    refine List.ext_getElem? fun i=>?_
    by_cases hi:i<l.length
    ·obtain⟨m,a1,a2,_⟩:=g2 i l[i] (Fs hi)
     obtain⟨m',b1,b2,_⟩:=g4 i l[i] (Fs hi);rw[a2]at b2;cases b2;rw[a1,b1]
    ·rw[List.getElem?_eq_none (by omega),List.getElem?_eq_none (by omega)]
theorem RC {ks:KS} {H:Nat→Nat→Option Value} {key:V} {c x:Value} {val:V} (hk:BM ks key=true) (hc:AZ H key c) (hx:AZ H val x) (clk:Nat): ∀ {kvs:List (V×V)} {es:List MapEntry},Ev H kvs es→(∀kv∈kvs,BM ks kv.1=true)→(∀e∈es,e.key≠c)→
 CR key kvs=none∧Ev H (DW key val kvs) (es++[{key:=c,val:=x,born:=clk}])
 | [],[],_,_,_=>⟨rfl,hc,hx,trivial⟩
 | [],_::_,h,_,_=>h.elim
 | _::_,[],h,_,_=>h.elim
 | (k,v)::r,e::es,h,hks,hne=>by
   obtain⟨h1,h2,h3⟩:=h
   have hf:DX key k=false:=by
    cases hb:DX key k with
    | false=>rfl
    | true=>exact absurd ((Py hk (hks _ (.head _)) hc h1).1 hb).symm (hne e (.head _))
   obtain⟨h4,h5⟩:=RC hk hc hx clk h3 (fun kv hkv=>hks kv (.tail _ hkv)) (fun e he=>hne e (.tail _ he));simp only[CR,DW,hf,cond_false];exact⟨h4,h1,h2,h5⟩
theorem RA {ks:KS} {H:Nat→Nat→Option Value} {key:V} {c x:Value} {val:V} (hk:BM ks key=true) (hc:AZ H key c) (hx:AZ H val x): ∀ {kvs:List (V×V)} {es:List MapEntry} {j:Nat} {e:MapEntry},Ev H kvs es→(∀kv∈kvs,BM ks kv.1=true)→
 es.Pairwise (fun a b=>a.key≠b.key)→es[j]? =some e→e.key=c→
 ∃v,CR key kvs=some v∧AZ H v e.val∧Ev H (DW key val kvs) (es.modify j fun e=>{e with key:=c,val:=x})
 | [],[],j,_,_,_,_,hj,_=>by simp at hj
 | [],_::_,_,_,h,_,_,_,_=>h.elim
 | _::_,[],_,_,h,_,_,_,_=>h.elim
 | (k, v)::r,e0::es,j,e,h,hks,hd,hj,he=>by
   obtain⟨h1,h2,h3⟩:=h;obtain⟨hd1,hd2⟩:=List.pairwise_cons.1 hd;have hiff:=Py hk (hks _ (.head _)) hc h1;cases j with
   | zero=>
     simp only[qu,Ha]at hj;subst hj;have hb:DX key k=true:=hiff.2 he.symm;simp only[CR,DW,hb,cond_true];exact⟨v,rfl,h2,hc,hx,h3⟩
   | succ j=>
     simp only[wQ]at hj
     have hb:DX key k=false:=by
      cases hb:DX key k with
      | false=>rfl
      | true=>
        have:=hiff.1 hb;exact absurd (this.symm.trans he.symm) (hd1 e (Fo hj))
     obtain⟨v',h4,h5,h6⟩:=RA hk hc hx h3 (fun kv hkv=>hks kv (.tail _ hkv)) hd2 hj he;simp only[CR,DW,hb,cond_false];exact⟨v',h4,h5,h1,h2,h6⟩
theorem Zj {ok:Value→Prop} {ks:KS} {H:Nat→Nat→Option Value} (hok: ∀(H:Nat→Nat→Option Value) (v:V) (c:Value),BM ks v=true→AZ H v c→ok c): ∀ {kvs:List (V×V)} {es:List MapEntry},Ev H kvs es→(∀kv∈kvs,BM ks kv.1=true)→ ∀e∈es,ok e.key
 | (k,v)::r,e0::es,h,hks,e,he=>by
   obtain⟨h1,h2,h3⟩:=h;rcases G3.1 he with rfl|he
   ·exact hok H k _ (hks _ (.head _)) h1
   ·exact Zj hok h3 (fun kv hkv=>hks kv (.tail _ hkv)) e he
 | [],[],_,_,_,he=>by cases he
 | [],_::_,h,_,_,_=>h.elim
 | _::_,[],h,_,_,_=>h.elim
theorem S4 (G:Rel Λ σ w) {n:Nat} {kvs:List (V×V)} (h:σ n=some (.map kvs)): ∃es clk,w.heap[n]? =some (.map es clk)∧Ev (Hh Λ σ w) kvs es.toList∧es.toList.Pairwise (fun a b=>a.key≠b.key):=by
 obtain⟨_,ob,h2,es,clk,rfl,h4⟩:=G.own n _ h;exact⟨es,clk,h2,h4⟩
theorem Ri {t kt e:TypeId} {ks:KS} {z:V} {ok:Bool} (hu:P.underlying t=some (.map kt e)) (hks:R2 P kt=some ks) (hz:zeroOf P e=some z) (G:Rel Λ σ w) {vm vk:V} {cm ck:Value}
 (hm:AZ (Hh Λ σ w) vm cm) (hk:AZ (Hh Λ σ w) vk ck) (h:AW σ ks z ok vm vk fun v=>k v σ):CM Λ σ w k kp ((Instr.lookup t cm ck ok).run P w):=by
 obtain⟨h0,h⟩:=h;obtain⟨okk,K,hok⟩:=kr hks;have hck:=hok _ _ _ h0 hk;obtain⟨zc,hz1,hz2⟩:=Dy hz w;have hzr:AZ (Hh Λ σ w) z zc:=Fx hz2;have hch: ∀em,(Instr.checkKey em 10000 kt ck).run P w= .ok () w:=fun em=>K.check w em hck
 unfold Instr.lookup;simp only[Sem.run_bind,A9 hu,Result.andThen_ok]
 have fin: ∀ {o:Option V} {x:Value} {b:Bool},(match o with|some v=>b=true∧AZ (Hh Λ σ w) v x|none=>b=false∧x=zc)→k (found z ok o) σ→CM Λ σ w k kp (Result.ok (if ok=true then Value.tuple #[x,.bool b]else x) w):=fun {o x b} ho hk=>by
  have tup: ∀ {v:V} {x:Value} {b:Bool},AZ (Hh Λ σ w) v x→AZ (Hh Λ σ w) (.t [v,.b b]) (.tuple #[x,.bool b]):=fun hv=>⟨_,rfl,rfl,⟨_,rfl,hv⟩,⟨_,rfl,rfl⟩,trivial⟩
  cases o with
  | some v=>
    obtain⟨rfl,hv⟩:=ho;cases ok
    ·exact Ap G hk hv
    ·exact Ap G hk (tup hv)
  | none=>
    obtain⟨rfl,rfl⟩:=ho;cases ok
    ·exact Ap G hk hzr
    ·exact Ap G hk (tup hzr)
 cases vm<;>first|exact h.elim|skip
 ·rename_i n
  simp only at h;split at h
  ·rename_i kvs hn
   obtain⟨h1,h2⟩:=h;simp only[AZ]at hm;subst hm;obtain⟨es,clk,h3,h4,h5⟩:=S4 G hn;have hg:(getObj n).run P w= .ok (.map es clk) w:=by simp[getObj,Sem.run,h3]
   simp only[Sem.run_bind,hg,Result.andThen_ok,Sem.run_pure,hch];rcases K.find w hck es.toList (Zj hok h4 h1)with⟨h6,h7⟩|⟨j,e',h6,h7,h8⟩
   ·obtain⟨h9,_⟩:=RC h0 hk hk 0 h4 h1 h7
    simp only[h6,Result.andThen_ok,Sem.run_bind,hz1,Sem.run_pure];rw[h9]at h2;exact fin (o:=none) ⟨rfl,rfl⟩ h2
   ·obtain⟨v,h9,h10,_⟩:=RA h0 hk hk h4 h1 h5 h7 h8
    simp only[h6,Result.andThen_ok,Sem.run_pure];rw[h9]at h2;exact fin (o:=some v) ⟨rfl,h10⟩ h2
  ·exact h.elim
 ·simp only[AZ]at hm
  subst hm;simp only[Sem.run_bind,Sem.run_pure,Result.andThen_ok,hch];rcases K.find w hck [] (fun e he=>by cases he)with⟨h6,_⟩|⟨j,e',_,h7,_⟩
  ·simp only[h6,Result.andThen_ok,Sem.run_bind,hz1,Sem.run_pure]
   exact fin (o:=none) ⟨rfl,rfl⟩ h
  ·simp at h7
theorem N6 {n:Nat} {ob:Obj} {es:Array MapEntry} {clk:Nat} (h:w.heap[n]? =some (.map es clk)):(setObj n ob).run P w= .ok () (CH w n ob):=by
 simp[setObj,Sem.run,h,CH]
theorem HZ {c x:Value}: ∀ {es:List MapEntry} {j:Nat} {e:MapEntry},es[j]? =some e→e.key=c→es.Pairwise (fun a b=>a.key≠b.key)→(es.modify j fun e=>{e with key:=c,val:=x}).Pairwise (fun a b=>a.key≠b.key)
 | [],_,_,h,_,_=>by simp at h
 | e0::es,0,e,h,he,hp=>by
   simp only[qu,Ha]at h;subst h;obtain⟨h1,h2⟩:=List.pairwise_cons.1 hp;exact List.pairwise_cons.2 ⟨fun a ha=>by simpa only[←he]using h1 a ha,h2⟩
 | e0::es,j+1,e,h,he,hp=>by
   simp only[wQ]at h;obtain⟨h1,h2⟩:=List.pairwise_cons.1 hp;refine List.pairwise_cons.2 ⟨fun a ha=>?_,HZ h he h2⟩;have ha:a∈es.modify j fun e=>{e with key:=c,val:=x}:=ha
   obtain⟨i,hi⟩:=List.mem_iff_getElem?.1 ha;rw[List.getElem?_modify]at hi;cases hb:es[i]? with
   | none=>rw[hb]at hi;cases hi
   | some b=>
     rw[hb]at hi;simp only[Option.map_eq_map,ZB,Ha]at hi;split at hi
     ·rename_i hji
      subst hi;subst hji;rw[h]at hb;cases hb;simpa only[←he]using h1 e (Fo h)
     ·subst hi
      exact h1 b (Fo hb)
theorem Rh {t kt e:TypeId} {ks:KS} (hu:P.underlying t=some (.map kt e)) (hks:R2 P kt=some ks) (G:Rel Λ σ w) {vm vk vx:V} {cm ck cx:Value}
 (hm:AZ (Hh Λ σ w) vm cm) (hk:AZ (Hh Λ σ w) vk ck) (hx:AZ (Hh Λ σ w) vx cx) (h:Aa σ ks vm vk vx fun σ'=>k (.t []) σ') :
 ∃σ' w',(Instr.mapUpdate t cm ck cx).run P w= .ok () w'∧k (.t []) σ'∧Rel Λ σ' w'∧B5 Λ σ w σ' w':=by
 obtain⟨h0,h⟩:=h;obtain⟨okk,K,hok⟩:=kr hks;have hck:=hok _ _ _ h0 hk;have hch: ∀em,(Instr.checkKey em 10000 kt ck).run P w= .ok () w:=fun em=>K.check w em hck
 cases vm<;>first|exact h.elim|skip
 rename_i n;simp only at h;split at h
 ·rename_i kvs hn
  obtain⟨h1,h2⟩:=h;simp only[AZ]at hm;subst hm;obtain⟨es,clk,h3,h4,h5⟩:=S4 G hn;have hg:(getObj n).run P w= .ok (.map es clk) w:=by simp[getObj,Sem.run,h3]
  unfold Instr.mapUpdate;simp only[Sem.run_bind,A9 hu,Result.andThen_ok,hg,hch];rcases K.find w hck es.toList (Zj hok h4 h1)with⟨h6,h7⟩|⟨j,e',h6,h7,h8⟩
  ·obtain⟨_,h9⟩:=RC h0 hk hx clk h4 h1 h7
   refine⟨_,CH w n (.map (es.push {key:=ck,val:=cx,born:=clk}) (clk+1)),?_,h2,H7 G hn ⟨_,_,rfl,?_,?_⟩,F1 hn _ _⟩
   ·simp only[h6,Result.andThen_ok]
    exact N6 h3
   ·simpa using h9
   ·rw[Array.toList_push,List.pairwise_append]
    exact⟨h5,by simp,fun a ha b hb=>by simp at hb;subst hb;exact h7 a ha⟩
  ·obtain⟨v,_,_,h9⟩:=RA h0 hk hx h4 h1 h5 h7 h8
   have hj:es[j]? =some e':=by rw[←h7];simp
   refine⟨_,CH w n (.map (es.modify j fun e=>{e with key:=ck,val:=cx}) clk),?_,h2,H7 G hn ⟨_,_,rfl,?_,?_⟩,F1 hn _ _⟩
   ·simp only[h6,Result.andThen_ok,Sem.run_bind,hj,ZB,Option.getD_some,h8,K.stays w hck]
    exact N6 h3
   ·simpa using h9
   ·simpa using HZ (x:=cx) h7 h8 h5
 ·exact h.elim
def rD (P:Program):Op→Option EW
 | .makeMap t r=>match r,P.underlying t with
   | none,_=>some .Fw
   | some _,_=>none
 | .lookup t x i ok=>match P.underlying t with
   | some (.map kt e)=>match R2 P kt,zeroOf P e,BR x,BR i with
     | some ks,some z,some x,some i=>some (.lookup ks z ok x i)
     | _,_,_,_=>none
   | _=>none
 | .mapUpdate t m i x=>match P.underlying t with
   | some (.map kt _)=>match R2 P kt,BR m,BR i,BR x with
     | some ks,some m,some i,some x=>some (.Cw ks m i x)
     | _,_,_,_=>none
   | _=>none
 | .insert t m i x=>match P.underlying t with
   | some (.map kt _)=>match R2 P kt,BR m,BR i,BR x with
     | some ks,some m,some i,some x=>some (.Cw ks m i x)
     | _,_,_,_=>none
   | _=>none
 | _=>none
theorem VS {env:Env} {a:Act} {o:Oper} {ao:EW} (ho:rD P o.op=some ao) (h:Ei P ao env σ k kp) (he:CQ (Hh Λ σ w) env a.tmps) (G:Rel Λ σ w) :
 Good P Λ σ w k kp ((execOp a.eval o).run P w):=by
 have put: ∀ {t:TypeId} {m i x:Operand},(match P.underlying t with
  | some (.map kt _)=>match R2 P kt,BR m,BR i,BR x with
    | some ks,some m,some i,some x=>some (EW.Cw ks m i x)
    | _,_,_,_=>none
  | _=>none)=some ao→Good P Λ σ w k kp ((do Instr.mapUpdate t (a.eval m) (a.eval i) (a.eval x);pure Next.skip:Sem Next).run P w):=fun {t m i x} ho=>by
  split at ho
  ·rename_i kt e hu
   split at ho
   ·rename_i ks m' i' x' hks hm hi hx
    cases ho;obtain⟨vm,h1,g⟩:=Ah h;obtain⟨vi,h2,g⟩:=Ah g;obtain⟨vx,h3,g⟩:=Ah g;obtain⟨σ',w',e1,e2,e3,e4⟩:=Rh hu hks G (Al he hm h1) (Al he hi h2) (Al he hx h3) g;simp only[Sem.run_bind,e1,Result.andThen_ok,Sem.run_pure];exact⟨σ',e2,e3,e4⟩
   ·cases ho
  ·cases ho
 unfold execOp;unfold rD at ho;split at ho
 ·rename_i t r hop
  rw[hop];dsimp only;split at ho
  ·cases ho
   refine As ?_;simp only[Ei]at h;exact⟨_,_,h w.heap.size G.new,rfl,Gu G (o:= .map []) ⟨#[],0,rfl,trivial,by simp⟩,Di _ _⟩
  ·cases ho
 ·rename_i t x i ok hop
  rw[hop];dsimp only;split at ho
  ·rename_i kt e hu
   split at ho
   ·rename_i ks z x' i' hks hz hx hi
    cases ho;obtain⟨vx,h1,g⟩:=Ah h;obtain⟨vi,h2,g⟩:=Ah g;exact As (Ri hu hks hz G (Al he hx h1) (Al he hi h2) g)
   ·cases ho
  ·cases ho
 ·rename_i t m i x hop
  rw[hop];exact put ho
 ·rename_i t m i x hop
  rw[hop];exact put ho
 ·cases ho
def Ux (P:Program) (name:String):List (TypeId×FuncId):=(List.range P.types.size).filterMap fun t=>
 match P.info? t,P.underlying t with
 | some i,some d=>match i.methods.find? (·.name==name)with
   | some m=>if m.path.isEmpty then match m.func,d with
     | some (f,true),.pointer _=>some (t,f)
     | some (_,false),.pointer _=>none
     | some (f,false),_=>some (t,f)
     | _,_=>none
     else none
   | none=>none
 | _,_=>none
def rE (P:Program):Op→Option EW
 | .call c=>match c.callee with
   | .invoke x name=>match BR x,Ip c.args.toList with
     | some x,some as=>some (.inv (Ux P name) x as)
     | _,_=>none
   | _=>none
 | _=>none
theorem S5 {t:TypeId} {f:FuncId}: ∀ {l:List (TypeId×FuncId)},look t l=some f→(t,f)∈l
 | [],h=>by cases h
 | (u,g)::r,h=>by
   simp only[look]at h;cases hb:Nat.beq u t with
   | true=>
     rw[hb]at h;simp only[cond_true,Ha]at h;rw[Nat.eq_of_beq_eq_true hb,h];exact .head _
   | false=>
     rw[hb]at h;exact .tail _ (S5 h)
theorem VI {name:String} {t:TypeId} {f:FuncId} (h:(t,f)∈Ux P name) (c:Value):(method (P.types.size+Made.depth) t c name).run P w= .ok (f,c) w:=by
 unfold Ux at h;rw[List.mem_filterMap]at h;obtain⟨u,hu,h⟩:=h;rw[List.mem_range]at hu;split at h
 rotate_left
 ·cases h
 rename_i i d hi hd;split at h
 rotate_left
 ·cases h
 rename_i m hm;split at h
 rotate_left
 ·cases h
 rename_i hp
 have hpl:m.path.toList= []:=by
  have:m.path= #[]:=by simpa using hp
  rw[this]
 obtain⟨n,hn⟩: ∃n,P.types.size+Made.depth=n+1:=⟨P.types.size+Made.depth - 1,by omega⟩
 have key: ∀ptr,u=t→m.func=some (f,ptr)→(ptr=true→ ∃e,d= .pointer e)→(ptr=false→ ∀e,d≠ .pointer e)→(method (P.types.size+Made.depth) t c name).run P w= .ok (f,c) w:=fun ptr e1 e2 e3 e4=>by
  subst e1;rw[hn];unfold method;simp only[Sem.run_bind,run_typeInfo w hi,Result.andThen_ok,hm,hpl,follow,Sem.run_pure,e2,receiverAt,run_underlying hd];cases ptr with
  | true=>
    obtain⟨e,rfl⟩:=e3 rfl;simp[Place.get]
  | false=>
    have:=e4 rfl;cases d<;>first|exact absurd rfl (this _)|simp[Place.get]
 split at h
 ·rename_i f' e hfun
  cases h;exact key true rfl hfun (fun _=>⟨_,rfl⟩) (fun h=>by cases h)
 ·cases h
 ·rename_i f' hfun hne
  cases h;exact key false rfl hfun (fun h=>by cases h) (fun _ e he=>by subst he;exact hne e rfl)
 ·cases h
theorem Y1 {tab:List (TypeId×FuncId)} {x:V} {args:List V} {Q:R→AG→Prop} (h:Bf P tab x args σ Q): ∃t v f,x= .ET t v∧look t tab=some f∧BQ P f (v::args) σ Q:=by
 unfold Bf at h;split at h
 ·split at h
  ·exact⟨_,_,_,rfl,by assumption,h⟩
  ·exact h.elim
 ·exact h.elim
theorem VT {env:Env} {a:Act} {o:Oper} {ao:EW} (ho:rE P o.op=some ao) (h:Ei P ao env σ k kp) (he:CQ (Hh Λ σ w) env a.tmps) (G:Rel Λ σ w) :
 Good P Λ σ w k kp ((execOp a.eval o).run P w):=by
 unfold rE at ho;split at ho
 rotate_left
 ·cases ho
 rename_i c hop;split at ho
 rotate_left
 ·cases ho
 rename_i x name hc;split at ho
 rotate_left
 ·cases ho
 rename_i x' as hx has;cases ho;obtain⟨vx,h1,g⟩:=Ah h;obtain⟨vs,h2,g⟩:=HE g;obtain⟨t,v,f,rfl,hf,g⟩:=Y1 g;obtain⟨cv,hcv,hvr⟩:=Al he hx h1
 have hext:(#[Value.iface t cv]++c.args.map a.eval).extract 1 (#[Value.iface t cv]++c.args.map a.eval).size=c.args.map a.eval:=by
  apply Array.ext';simp[List.take_of_length_le]
 have h0:(#[Value.iface t cv]++c.args.map a.eval)[0]? =some (.iface t cv):=by rw[Array.getElem?_append_left (Nat.zero_lt_one)];rfl
 have hrun:(execOp a.eval o).run P w=(callFunc f (#[cv]++c.args.map a.eval)).run P w:=by
  unfold execOp;simp only[hop,resolve,hc,Sem.run_bind,Sem.run_pure,Result.andThen_ok,invoke,hcv,h0,hext,callMethod];have hprog:(program).run P w= .ok P w:=rfl;simp only[hprog,Result.andThen_ok,VI (S5 hf)]
 rw[hrun];refine Nl G ?_ g;have:=HJ (H:=Hh Λ σ w) (vs:=[v]) (cs:= #[cv]) ⟨rfl,⟨cv,rfl,hvr⟩,trivial⟩ (IB he has h2);simpa using this
set_option maxHeartbeats 1000000 in
theorem Vi {t u e:TypeId} {i:TypeInfo} (ty:TypeId) (ht:P.underlying t=some (.slice e)) (hi:P.info? e=some i) (G:Rel Λ σ w) {vx vy:V} {cx cy:Value} (hx:AZ (Hh Λ σ w) vx cx) (hy:AZ (Hh Λ σ w) vy cy)
 (h:Az σ i.size vx vy k):CM Λ σ w k kp ((Builtin.copy_ #[t,u] ty #[cx,cy]).run P w):=by
 have h':=JR G hy h;clear h;obtain⟨ys,base,c2,⟨hone,h⟩,rfl,hyl,hys⟩:=h'
 have main: ∀(n off len:Nat) (a:Option Addr) (cap:Nat),(len≠0→a=some ⟨n,off*i.size,none⟩)→M4 σ i.size ys n off len k→CM Λ σ w k kp ((Builtin.copy_ #[t,u] ty #[.slice a len cap,.slice base ys.length c2]).run P w):=fun n off len a cap ha hk=>by
  unfold M4 at hk;split at hk
  ·rename_i s es c hs
   obtain⟨rfl,hle,hk⟩:=hk;obtain⟨cur,et,h3,h4,h5,h6,h7⟩:=EL G hs;have hsz:sizeOf e=(do pure (←typeInfo e).size:Sem Nat):=rfl;have hmin:Nat.min ys.length len=min ys.length len:=rfl;have hmL:min ys.length len≤Ax:=by omega
   have hrng: ∀H,AZ H (.i .i64 (min ys.length len:Nat)) (goInt (min ys.length len:Nat)):=fun H=>⟨rfl,HH hmL⟩
   by_cases h0:min ys.length len=0
   ·
    have hrun:(Builtin.copy_ #[t,u] ty #[.slice a len cap,.slice base ys.length c2]).run P w= .ok (goInt 0) w:=by
     have hm0:Nat.min ys.length len=0:=h0;cases a<;>cases base<;>simp[Builtin.copy_,run_underlying ht,sizeOf,typeInfo,hi,Builtin.lenOf,hm0,Builtin.firstCells,loadCells,loadCellsFrom,storeCells]
    rw[hrun];rw[h0]at hk;simp only[Nat.add_zero]at hk;have e1:es.take off++(ys.take 0++es.drop off)=es:=by simp
    rw[e1]at hk
    have e2:BI σ n (.arr i.size es c)=σ:=by
     funext m;unfold BI;split
     ·rename_i e;rw[e,hs]
     ·rfl
    rw[e2]at hk;exact Ap G hk ⟨rfl,HH (n:=0) (by simp)⟩
   ·obtain⟨b,o,g,rfl,hg,hrow⟩:=hys.resolve_left (fun e=>by rw[e]at h0;simp at h0)
    obtain rfl:=ha (by omega);obtain⟨news,h8,h9,h10⟩:=IV (Gt hrow (min ys.length len));have hcnt:(ys.take (min ys.length len)).length=min ys.length len:=by simp
    rw[hcnt]at h8;have hmul:(off+min ys.length len)*i.size≤c*i.size:=Nat.mul_le_mul_right _ (by omega);rw[Nat.add_mul]at hmul
    have hn1: ∀u∈news,u.oneCell'=true:=fun u hu=>by
     obtain⟨j,hj⟩:=List.mem_iff_getElem?.1 hu;have hlt:j<(ys.take (min ys.length len)).length*i.size:=by rw[hcnt,←h8];exact(List.getElem?_eq_some_iff.1 hj).1
     obtain⟨h4,h5⟩:=Q2 hlt;obtain⟨h6,h7⟩:=A7.1 h10 (j / i.size) _ (Fs h4);obtain⟨c,hc,hr⟩:=Bb.1 h7 (j % i.size) _ (Fs (by omega));have hdm:=Nat.div_add_mod' j i.size;rw[show 0+j / i.size*i.size+j % i.size=j by omega,hj]at hc;cases hc;exact Ng hr (hone _ (List.mem_of_mem_take (List.getElem_mem h4)) _ (List.getElem_mem _))
    have hrunF:=run_firstCells_some (P:=P) w i.size (min ys.length len) ⟨b,o,none⟩ ys.length c2 news h8 (fun j v hv=>by rw[Ca];exact hg _ _ (h9 j v hv));have hst:=Cb (P:=P) news w cur (off*i.size) 0 h3 (by omega) hn1;simp only[Nat.add_zero]at hst
    have hrun:(Builtin.copy_ #[t,u] ty #[.slice (some ⟨n,off*i.size,none⟩) len cap,.slice (some ⟨b,o,none⟩) ys.length c2]).run P w= .ok (goInt (min ys.length len:Nat)) (CH w n (.cells (Co cur (off*i.size) news) et (0,0))):=by
     simp[Builtin.copy_,run_underlying ht,sizeOf,typeInfo,hi,Builtin.lenOf,hmin,hrunF,hst]
    rw[hrun];refine⟨_,_,hk,hrng _,H7 G hs ⟨_,et,rfl,by rw[Dd];exact h4,by simp;omega,by simp;omega,?_⟩,F1 hs _ _⟩;have hol:off≤es.length:=by omega
    refine F3 (Dz (Gt h7 off) fun j hj=>?_) (F3 (Dz h10 fun j hj=>?_) (Dz (LY h7 (off+min ys.length len)) fun j hj=>?_))
    ·rw[UD,Nat.min_eq_left hol]at hj
     exact C6 _ _ _ _ (by omega)
    ·rw[hcnt]at hj
     rw[UD,Nat.min_eq_left hol];simp only[Nat.zero_add];exact FW _ _ _ _ (by omega) (by omega)
    ·rw[UD,Nat.min_eq_left hol,hcnt,Nat.zero_add,Nat.zero_add,Nat.add_mul]
     exact C6 _ _ _ _ (by omega)
  ·exact hk.elim
 cases vx
 case sl n len cap=>
  obtain⟨rfl,_⟩:=hx;exact main n 0 len _ cap (fun _=>by simp) h
 case sv n s off len=>
  obtain⟨rfl,h⟩:=h;obtain⟨a,cap,rfl,_,h6⟩:=hx;exact main n off len a cap h6 h
 all_goals exact h.elim
def Zf (P:Program):Op→Option EW
 | .call c=>match c.callee,c.args.toList,c.argTypes.toList with
   | .builtin .copy,[x,y],[t,_]=>match P.underlying t with
     | some (.slice e)=>match BR x,BR y,P.info? e with
       | some x,some y,some i=>some (.copy i.size x y)
       | _,_,_=>none
     | _=>none
   | _,_,_=>none
 | _=>none
theorem Tm {env:Env} {a:Act} {o:Oper} {ao:EW} (ho:Zf P o.op=some ao) (h:Ei P ao env σ k kp) (he:CQ (Hh Λ σ w) env a.tmps) (G:Rel Λ σ w) :
 Good P Λ σ w k kp ((execOp a.eval o).run P w):=by
 unfold Zf at ho;split at ho
 rotate_left
 ·cases ho
 rename_i c hop;split at ho
 rotate_left
 ·cases ho
 rename_i x y t u hc hargs htys;split at ho
 rotate_left
 ·cases ho
 rename_i e hu;split at ho
 rotate_left
 ·cases ho
 rename_i x' y' i hx hy hi;cases ho;obtain⟨vx,h1,g⟩:=Ah h;obtain⟨vy,h2,g⟩:=Ah g;have ea:c.args= #[x,y]:=by apply Array.ext';simpa using hargs
 have et:c.argTypes= #[t,u]:=by apply Array.ext';simpa using htys
 unfold execOp;simp only[hop,resolve,hc,ea,et,Sem.run_bind,Sem.run_pure,Result.andThen_ok,invoke,builtin,List.map_toArray,List.map_cons,List.map_nil];exact D0 (Vi (P:=P) (kp:=kp) o.type hu hi G (Al he hx h1) (Al he hy h2) g)
def ZL (P:Program) (o:Op):Option EW:=match rC P o with|some a=>some a|none=>match rD P o with|some a=>some a|none=>match rE P o with|some a=>some a|none=>Zf P o
theorem VQ {env:Env} {a:Act} {o:Oper} {ao:EW} (ho:ZL P o.op=some ao) (h:Ei P ao env σ k kp) (he:CQ (Hh Λ σ w) env a.tmps) (G:Rel Λ σ w) :
 Good P Λ σ w k kp ((execOp a.eval o).run P w):=by
 unfold ZL at ho;split at ho
 ·rename_i h';cases ho;exact VR h' h he G
 ·split at ho
  ·rename_i h';cases ho;exact VS h' h he G
  ·split at ho
   ·rename_i h';cases ho;exact VT h' h he G
   ·exact Tm ho h he G
end Go.Gl
namespace Go.Gl
variable {P:Program} {Λ:Nat→Prop}
def emp:AG:=fun _=>none
def Pure (P:Program) (f:FuncId) (args:List V) (v:V):Prop:=BQ P f args emp fun r σ'=>r= .ret v∧σ'=emp
theorem Wb {w:World} (Λ:Nat→Prop) (h: ∀n,Λ n→n<w.heap.size):Rel Λ emp w:=⟨fun n o ho=>(by cases ho),h⟩
theorem RX {σ:AG} {w w':World} {Λ':Nat→Prop} (h:B5 Λ' emp w emp w'):B5 Λ σ w σ w':=
 ⟨fun n hn _=>h.frame n hn rfl,h.size,h.os,h.tape,h.output,fun _ h0 _=>h0⟩
theorem PX {σ:AG} {w w':World} {Λ':Nat→Prop} (G:Rel Λ σ w) (h:B5 Λ' emp w emp w'):Rel Λ σ w':=
 G.step (RX h) fun n _ hn=> .inl ⟨hn,h.frame n (G.lt hn) rfl⟩
theorem Pure.use {f:FuncId} {args:List V} {v:V} (h:Pure P f args v) {σ:AG} {k kp:V→AG→Prop} (hk:k v σ):BQ P f args σ (qk k kp):=by
 refine⟨h.1,fun Λ w cs G hv=>?_⟩
 have hH: ∀w:World,(Hh (fun n=>Λ n∨σ n≠none) emp w)=Hh Λ σ w:=fun w=>by
  funext b o;unfold Hh;by_cases hb:Λ b∨(σ b).isSome=true
  ·rw[if_pos hb,if_pos]
   rcases hb with hb|hb
   ·exact .inl (.inl hb)
   ·exact .inl (.inr (by intro e;rw[e]at hb;cases hb))
  ·rw[if_neg hb,if_neg]
   rintro((h|h)|h)
   ·exact hb (.inl h)
   ·exact hb (.inr (by cases hs:σ b with|none=>exact absurd hs h|some o=>rfl))
   ·cases h
 refine Calls.mono (h.2 (fun n=>Λ n∨σ n≠none) w cs (Wb _ fun n hn=>?_) (by rw[hH];exact hv)) fun e w' ⟨r,σ',⟨hr,hs⟩,h1,h2,h3⟩=>?_
 ·rcases hn with hn|hn
  ·exact G.lock n hn
  ·cases hs:σ n with
   | none=>exact absurd hs hn
   | some o=>exact G.lt hs
 ·subst hr
  subst hs;rw[hH]at h1;exact⟨.ret v,σ,hk,h1,PX G h3,RX h3⟩
theorem BQ.mono {f:FuncId} {args:List V} {σ:AG} {Q Q':R→AG→Prop} (h:BQ P f args σ Q) (hq: ∀r σ',Q r σ'→Q' r σ'):BQ P f args σ Q':=
 ⟨h.1,fun Λ w cs G hv=>Calls.mono (h.2 Λ w cs G hv) fun _ _ ⟨r,σ',h1,h2⟩=>⟨r,σ',hq _ _ h1,h2⟩⟩
theorem MV.mono {l:Nat} {args:List V} {σ:AG} {Q Q':R→AG→Prop} (h:MV P l args σ Q) (hq: ∀r σ',Q r σ'→Q' r σ'):MV P l args σ Q':=
 fun Λ w cs G hv=>let⟨f,tmps,assign,body,h1,h2⟩:=h Λ w cs G hv;⟨f,tmps,assign,body,h1,h2.mono fun e w' ⟨r,σ',h3,h4⟩=>⟨r,σ',hq _ _ h3,h4⟩⟩
theorem BT.mono {x:V} {args:List V} {σ:AG} {Q Q':R→AG→Prop} (h:BT P x args σ Q) (hq: ∀r σ',Q r σ'→Q' r σ'):BT P x args σ Q':=by
 unfold BT at *;split at h
 ·exact BQ.mono h hq
 ·exact MV.mono h hq
 ·exact h.elim
theorem Bf.mono {tab:List (TypeId×FuncId)} {x:V} {args:List V} {σ:AG} {Q Q':R→AG→Prop} (h:Bf P tab x args σ Q) (hq: ∀r σ',Q r σ'→Q' r σ'):Bf P tab x args σ Q':=by
 unfold Bf at *;split at h
 ·split at h
  ·exact BQ.mono h hq
  ·exact h.elim
 ·exact h.elim
def rd:Bj→List Nat| .t n=>[n]| .c _=>[]
def rdO:Option Bj→List Nat|some x=>rd x|none=>[]
def Y3 (l:List Bj):List Nat:=l.flatMap rd
def reads:EW→List Nat
 | .mv x| .ZF x| .not x| .neg _ x| .conv _ x| .box x| .MS x| .load _ x| .GZ _ x| .field _ _ x| .len x| .QP x| .str x| .extract _ x| .D5 x| .Ep _ x| .V2 _ _ _ x| .panic x| .UN _ _ x=>rd x
 | .pick a b c=>rd a++rd b++rd c
 | .Oj x y| .bin _ x y| .V5 _ x y| .ZG _ _ x y| .store _ x y| .BG _ _ x y| .index _ _ _ x y| .append _ _ x y| .Oq _ _ x y| .copy _ x y| .MP x y| .Om x y| .EK _ _ _ x y| .lookup _ _ _ x y=>rd x++rd y
 | .alloc _| .Fw=>[]
 | .build _ ps=>Y3 (ps.map fun p=>p.2.2)
 | .Am _ _ _ ps=>Y3 (ps.map fun p=>p.2)
 | .slice _ x a b c=>rd x++rdO a++rdO b++rdO c
 | .GN _ a b=>Y3 a++Y3 b
 | .Cw _ m k v=>rd m++rd k++rd v
 | .call _ as| .Iy _ as=>Y3 as
 | .Bs x as| .U6 x as| .inv _ x as=>rd x++Y3 as
variable {env env':Env}
theorem AX {x:Bj} (h: ∀s∈rd x,get s env'=get s env):ev env' x=ev env x:=by
 cases x with
 | t n=>exact h n (by simp[rd])
 | c v=>rfl
theorem Ec: ∀ {l:List Bj},(∀s∈Y3 l,get s env'=get s env)→Rt env' l=Rt env l
 | [],_=>rfl
 | x::r,h=>by
   simp only[Y3,List.flatMap_cons,FQ]at h;simp only[Rt,AX (fun s hs=>h s (.inl hs)),Ec (l:=r) (fun s hs=>h s (.inr hs))]
theorem H2 {x:Option Bj} (h: ∀s∈rdO x,get s env'=get s env):GV env' x=GV env x:=by
 cases x with
 | none=>rfl
 | some x=>simp only[GV,AX (x:=x) h]
theorem MD: ∀ {ps:List (Nat×Nat×Bj)} {cs:List V},(∀s∈Y3 (ps.map fun p=>p.2.2),get s env'=get s env)→Iw env' cs ps=Iw env cs ps
 | [],_,_=>rfl
 | (off,sz,x)::r,cs,h=>by
   simp only[Y3,List.map_cons,List.flatMap_cons,FQ]at h;simp only[Iw,AX (fun s hs=>h s (.inl hs))];split<;>try rfl
   split<;>try rfl
   cases hb:(Nat.beq _ sz&&Nat.ble (off+sz) cs.length)<;>simp only[cond_true,cond_false]
   exact MD (ps:=r) fun s hs=>h s (.inr hs)
theorem ME {sz:Nat}: ∀ {ps:List (Nat×Bj)} {es:List (List V)},(∀s∈Y3 (ps.map fun p=>p.2),get s env'=get s env)→Hn env' sz es ps=Hn env sz es ps
 | [],_,_=>rfl
 | (i,x)::r,es,h=>by
   simp only[Y3,List.map_cons,List.flatMap_cons,FQ]at h;simp only[Hn,AX (fun s hs=>h s (.inl hs))];split<;>try rfl
   split<;>try rfl
   cases hb:(Nat.beq _ sz&&Nat.blt i es.length)<;>simp only[cond_true,cond_false]
   exact ME (ps:=r) fun s hs=>h s (.inr hs)
theorem QB {o:EW} {σ:AG} {k kp:V→AG→Prop} (h: ∀s∈reads o,get s env'=get s env):Ei P o env' σ k kp=Ei P o env σ k kp:=by
 cases o<;>simp only[reads,FQ,or_imp,forall_and]at h<;>simp only[Ei]
 case mv x=>rw[AX h]
 case ZF x=>rw[AX h]
 case pick a b c=>rw[AX h.1.1,AX h.1.2,AX h.2]
 case bin op x y=>rw[AX h.1,AX h.2]
 case V5 n x y=>rw[AX h.1,AX h.2]
 case ZG q n x y=>rw[AX h.1,AX h.2]
 case UN q n x=>rw[AX h]
 case lookup a b c x y=>rw[AX h.1,AX h.2]
 case Cw a x y z=>rw[AX h.1.1,AX h.1.2,AX h.2]
 case EK a b c x y=>rw[AX h.1,AX h.2]
 case not x=>rw[AX h]
 case neg n x=>rw[AX h]
 case conv n x=>rw[AX h]
 case box x=>rw[AX h]
 case MS x=>rw[AX h]
 case Oq a b x y=>rw[AX h.1,AX h.2]
 case build z ps=>rw[MD h]
 case Am a b c ps=>rw[ME h]
 case load a x=>rw[AX h]
 case store a x y=>rw[AX h.1,AX h.2]
 case GZ a x=>rw[AX h]
 case field a b x=>rw[AX h]
 case BG a b x y=>rw[AX h.1,AX h.2]
 case index a b c x y=>rw[AX h.1,AX h.2]
 case slice s x a b c=>rw[AX h.1.1.1,H2 h.1.1.2,H2 h.1.2,H2 h.2]
 case len x=>rw[AX h]
 case QP x=>rw[AX h]
 case str x=>rw[AX h]
 case Oj x y=>rw[AX h.1,AX h.2]
 case append a b x y=>rw[AX h.1,AX h.2]
 case copy a x y=>rw[AX h.1,AX h.2]
 case inv tab x as=>rw[AX h.1,Ec h.2]
 case MP x y=>rw[AX h.1,AX h.2]
 case Om x y=>rw[AX h.1,AX h.2]
 case extract i x=>rw[AX h]
 case D5 x=>rw[AX h]
 case GN f a b=>rw[Ec h.1,Ec h.2]
 case Ep t x=>rw[AX h]
 case V2 a b c x=>rw[AX h]
 case panic x=>rw[AX h]
 case call f as=>rw[Ec h]
 case Iy f as=>rw[Ec h]
 case Bs x as=>rw[AX h.1,Ec h.2]
end Go.Gl
namespace Go.Gl
variable {P:Program} {Λ:Nat→Prop} {env env':Env} {σ:AG}
def Aj (AD:(V→Prop)→Prop):Prop:= ∀k,AD k→ ∃v,k v∧ ∀k':V→Prop,k' v→AD k'
theorem Aj.one (v:V):Aj fun k=>k v:=fun _ h=>⟨v,h,fun _ h=>h⟩
theorem Aj.no:Aj fun _=>False:=fun _ h=>h.elim
theorem Aj.and {p:Prop} {AD:(V→Prop)→Prop} (h:Aj AD):Aj fun k=>p∧AD k:=fun k ⟨hp,hF⟩=>let⟨v,h1,h2⟩:=h k hF;⟨v,h1,fun k' hk=>⟨hp,h2 k' hk⟩⟩
theorem Aj.wv {o:Option V} {AD:V→(V→Prop)→Prop} (h: ∀v,Aj (AD v)):Aj fun k=>wv o fun v=>AD v k:=by
 cases o with
 | none=>exact Aj.no
 | some v=>exact h v
theorem Aj.ws {o:Option (List V)} {AD:List V→(V→Prop)→Prop} (h: ∀v,Aj (AD v)):Aj fun k=>ws o fun v=>AD v k:=by
 cases o with
 | none=>exact Aj.no
 | some v=>exact h v
theorem Aj.wr {o:Option (List (List V))} {AD:List (List V)→(V→Prop)→Prop} (h: ∀v,Aj (AD v)):Aj fun k=>wr o fun v=>AD v k:=by
 cases o with
 | none=>exact Aj.no
 | some v=>exact h v
theorem Aj.wo {o:Option (Option V)} {AD:Option V→(V→Prop)→Prop} (h: ∀v,Aj (AD v)):Aj fun k=>wo o fun v=>AD v k:=by
 cases o with
 | none=>exact Aj.no
 | some v=>exact h v
theorem cJ (op:BinOp) (x y:V):Aj (R3 op x y):=by
 unfold R3;cases x<;>cases y<;>first|exact Aj.no|skip
 cases op<;>simp only<;>first|exact(Aj.one _).and|exact(Aj.one _).and.and
theorem J9 (agg:Option Nat) (cs:List V) (off:Nat):Aj (cut agg cs off):=by
 unfold cut;cases agg with
 | none=>cases cs[off]? with
   | none=>exact Aj.no
   | some v=>exact Aj.one _
 | some n=>exact(Aj.one _).and
theorem Yj (σ:AG) (agg:Option Nat) (x:V):Aj (An σ agg x):=by
 unfold An NG NH;cases x<;>first|exact Aj.no|skip
 case p n off=>
  simp only;cases σ n with
  | none=>exact Aj.no
  | some o=>cases o<;>first|exact Aj.no|exact J9 _ _ _
 case rp cs=>exact J9 _ _ _
 case pe n sz i off=>
  simp only;cases σ n with
  | none=>exact Aj.no
  | some o=>
    cases o<;>first|exact Aj.no|skip
    simp only;refine Aj.and ?_;rename_i es _;cases es[i]? with
    | none=>exact Aj.no
    | some e=>exact J9 _ _ _
theorem YI {σ σ':AG} (hs:Sub σ σ') {agg:Option Nat} {x:V} {k:V→Prop} (h:An σ agg x k):An σ' agg x k:=by
 unfold An NG NH at *;cases x<;>first|exact h|skip
 case p n off=>
  simp only at *;cases hn:σ n with
  | none=>rw[hn]at h;exact h.elim
  | some o=>rw[hs n o hn];rw[hn]at h;exact h
 case pe n sz i off=>
  simp only at *;cases hn:σ n with
  | none=>rw[hn]at h;exact h.elim
  | some o=>rw[hs n o hn];rw[hn]at h;exact h
theorem Vv (off:Nat) (x:V):Aj (JH off x):=by
 unfold JH;cases x<;>first|exact Aj.no|exact Aj.one _
theorem Vu (sz:Nat) (arr:Option Nat) (x i:V):Aj (Ab sz arr x i):=by
 unfold Ab;cases i<;>first|exact Aj.no|skip
 cases arr<;>cases x<;>first|exact Aj.no|exact(Aj.one _).and.and|exact(Aj.one _).and.and.and|skip
 intro k ⟨h0,e,h1,h2,h3⟩;exact⟨_,h3,fun k' hk=>⟨h0,e,h1,h2,hk⟩⟩
theorem Vt (len sz:Nat) (agg:Option Nat) (x i:V):Aj (JG len sz agg x i):=by
 unfold JG;cases x<;>first|exact Aj.no|skip
 cases i<;>first|exact Aj.no|skip
 exact(J9 _ _ _).and.and
theorem Yi (x i:V):Aj (NL x i):=by
 unfold NL;cases x<;>first|exact Aj.no|skip
 cases i<;>first|exact Aj.no|skip
 refine Aj.and ?_;rename_i b _ j;cases b.data.toList[j.toNat]? with
 | none=>exact Aj.no
 | some c=>exact Aj.one _
theorem cI (x:V):Aj (BZ x):=by
 unfold BZ;cases x<;>first|exact Aj.no|exact Aj.one _|exact(Aj.one _).and
theorem Yk (σ:AG) (x:V):Aj (It σ x):=by
 unfold It;cases x<;>first|exact Aj.no|exact Aj.one _|skip
 case m n=>
  simp only;cases σ n with
  | none=>exact Aj.no
  | some o=>cases o<;>first|exact Aj.no|exact(Aj.one _).and
theorem YJ {σ σ':AG} (hs:Sub σ σ') {x:V} {k:V→Prop} (h:It σ x k):It σ' x k:=by
 unfold It at *;cases x<;>first|exact h|skip
 case m n=>
  simp only at *;cases hn:σ n with
  | none=>rw[hn]at h;exact h.elim
  | some o=>rw[hs n o hn];rw[hn]at h;exact h
theorem ID {o:Option V} {d:Int} {k:Int→Prop} (h:Oh o d k): ∃v,k v∧ ∀k':Int→Prop,k' v→Oh o d k':=by
 unfold Oh at *;split at h
 ·exact⟨_,h,fun _ h=>h⟩
 ·exact⟨_,h,fun _ h=>h⟩
 ·exact h.elim
theorem Vs {sz:Nat} {x:V} {a b:Option V} {k:V→AG→Prop} (h:Ac σ sz x a b none k): ∃v,k v σ∧ ∀σ' (k':V→AG→Prop),k' v σ'→Ac σ' sz x a b none k':=by
 unfold Ac at *;cases x<;>first|exact h.elim|skip
 ·simp only at *
  obtain⟨h0,h⟩:=h;obtain⟨hh,h,g1⟩:=ID h;obtain⟨l,h,g2⟩:=ID h;exact⟨_,h.2.2.2,fun σ' k' hk=>⟨h0,g1 _ (g2 _ ⟨h.1,h.2.1,h.2.2.1,hk⟩)⟩⟩
 ·simp only at *
  obtain⟨hh,h,g1⟩:=ID h;obtain⟨l,h,g2⟩:=ID h;exact⟨_,h.2.2.2,fun σ' k' hk=>g1 _ (g2 _ ⟨h.1,h.2.1,h.2.2.1,hk⟩)⟩
 ·simp only at *
  obtain⟨hh,h,g1⟩:=ID h;obtain⟨l,h,g2⟩:=ID h;exact⟨_,h.2.2.2.2.2,fun σ' k' hk=>g1 _ (g2 _ ⟨h.1,h.2.1,h.2.2.1,h.2.2.2.1,trivial,hk⟩)⟩
theorem N7 {sz:Nat} {y:V} {k:List (List V)→Prop} (h:rowsOf σ sz y k): ∃ys,k ys∧ ∀σ' (k':List (List V)→Prop),Sub σ σ'→k' ys→rowsOf σ' sz y k':=by
 unfold rowsOf at *;cases y<;>first|exact h.elim|skip
 ·exact⟨_,h.2,fun _ _ _ hk=>⟨h.1,hk⟩⟩
 ·rename_i m len cap
  simp only at *;cases hm:σ m with
  | none=>rw[hm]at h;exact h.elim
  | some o=>
    rw[hm]at h;cases o<;>first|exact h.elim|skip
    exact⟨_,h.2.2,fun σ' k' hs hk=>by rw[hs m _ hm];exact⟨h.1,h.2.1,hk⟩⟩
 ·rename_i m s off len
  simp only at *;cases hm:σ m with
  | none=>rw[hm]at h;exact h.elim
  | some o=>
    rw[hm]at h;cases o<;>first|exact h.elim|skip
    exact⟨_,h.2.2.2,fun σ' k' hs hk=>by rw[hs m _ hm];exact⟨h.1,h.2.1,h.2.2.1,hk⟩⟩
theorem bw {x:V} {k:V→Prop} (h:ZU σ x k): ∃v,k v∧ ∀σ' (k':V→Prop),Sub σ σ'→k' v→ZU σ' x k':=by
 obtain⟨ys,h1,h2⟩:=N7 h;cases hn:Ea ys with
 | none=>rw[hn]at h1;exact h1.elim
 | some ns=>
   rw[hn]at h1;exact⟨_,h1,fun σ' k' hs hk=>h2 σ' _ hs (by rw[hn];exact hk)⟩
theorem Yl {b sz:Nat} {x y:V} {k:V→Prop} (h:A4 b σ sz x y k): ∃v,k v∧ ∀σ' (k':V→Prop),Sub σ σ'→k' v→A4 b σ' sz x y k':=by
 unfold A4 at *;obtain⟨ys,⟨h1,h2⟩,h3⟩:=N7 h;cases x<;>first|exact h2.elim|skip
 exact⟨_,h2.2.2.2,fun σ' k' hs hk=>h3 σ' _ hs ⟨h1,h2.1,h2.2.1,h2.2.2.1,hk⟩⟩
theorem T7 {ks:KS} {z:V} {ok:Bool} {vm vk:V} {k:V→Prop} (h:AW σ ks z ok vm vk k): ∃v,k v∧ ∀σ' (k':V→Prop),Sub σ σ'→k' v→AW σ' ks z ok vm vk k':=by
 unfold AW at *;obtain⟨h0,h⟩:=h;cases vm<;>first|exact h.elim|skip
 ·rename_i n
  simp only at *;cases hn:σ n with
  | none=>rw[hn]at h;exact h.elim
  | some o=>
    rw[hn]at h;cases o<;>first|exact h.elim|skip
    exact⟨_,h.2,fun σ' k' hs hk=>⟨h0,by rw[hs n _ hn];exact⟨h.1,hk⟩⟩⟩
 ·exact⟨_,h,fun σ' k' hs hk=>⟨h0,hk⟩⟩
inductive Kd where
 | P|N|A|AA|H
 deriving DecidableEq,Repr
def kd:EW→Kd
 | .load _ _=> .N
 | .QP _=> .N
 | .str _=> .N
 | .Oq _ _ _ _=> .N
 | .box _=> .A
 | .append _ _ x _=>match x with| .c (.l [] true)=> .A|_=> .H
 | .alloc _=> .AA
 | .slice _ _ _ _ mx=>match mx with|none=> .N|some _=> .H
 | .store _ _ _| .copy _ _ _| .Cw _ _ _ _| .panic _| .call _ _| .Bs _ _| .U6 _ _| .inv _ _ _| .Fw| .EK _ _ _ _ _| .UN _ _ _| .ZF _=> .H
 | .lookup _ _ _ _ _=> .N
 | _=> .P
theorem yV {o:EW} (hk:kd o= .P): ∃AD:(V→Prop)→Prop,Aj AD∧ ∀σ (k kp:V→AG→Prop),Ei P o env σ k kp=AD (fun v=>k v σ):=by
 cases o<;>first|(simp[kd]at hk;done)|skip
 case mv x=>exact⟨fun k=>wv (ev env x) k,Aj.wv fun v=>Aj.one v,fun _ _ _=>rfl⟩
 case pick c a b=>
  refine⟨fun k=>wv (ev env c) fun vc=>wv (ev env a) fun va=>wv (ev env b) fun vb=>match vc with| .b t=>(match va,vb with| .b x,.b y=>k (.b (bif t then x else y))|_,_=>k (bif t then va else vb))|_=>False,?_,fun _ _ _=>rfl⟩;refine Aj.wv fun vc=>Aj.wv fun va=>Aj.wv fun vb=>?_
  cases vc<;>first|exact Aj.no|skip
  cases va<;>first|exact Aj.one _|skip
  cases vb<;>exact Aj.one _
 case bin op x y=>exact⟨fun k=>wv (ev env x) fun vx=>wv (ev env y) fun vy=>R3 op vx vy k,Aj.wv fun _=>Aj.wv fun _=>cJ _ _ _,fun _ _ _=>rfl⟩
 case V5 n x y=>
  refine⟨fun k=>wv (ev env x) fun vx=>wv (ev env y) fun vy=>match vx,vy with| .b p,.b q=>k (.b (bif n then p != q else p==q))|_,_=>False,?_,fun _ _ _=>rfl⟩;refine Aj.wv fun vx=>Aj.wv fun vy=>?_
  cases vx<;>cases vy<;>first|exact Aj.no|exact Aj.one _
 case ZG q n x y=>
  refine⟨fun k=>wv (ev env x) fun vx=>wv (ev env y) fun vy=>QR q n vx vy k,Aj.wv fun vx=>Aj.wv fun vy=>?_,fun _ _ _=>rfl⟩;unfold QR;cases vx<;>first|exact Aj.no|skip
  cases vy<;>first|exact Aj.no|skip
  simp only;split<;>first|exact Aj.no|exact Aj.one _
 case not x=>
  refine⟨fun k=>wv (ev env x) fun vx=>match vx with| .b p=>k (.b (!p))|_=>False,Aj.wv fun vx=>?_,fun _ _ _=>rfl⟩;cases vx<;>first|exact Aj.no|exact Aj.one _
 case neg xor x=>
  refine⟨fun k=>wv (ev env x) fun vx=>match vx with| .i ka a=>k (.i ka (bif xor then bits .xor ka (bif ka.signed then -1 else ka.max) a else ka.wrap (0 - a)))|_=>False,Aj.wv fun vx=>?_,fun _ _ _=>rfl⟩;cases vx<;>first|exact Aj.no|exact Aj.one _
 case conv ka x=>
  refine⟨fun k=>wv (ev env x) fun vx=>match vx with| .i _ a=>k (.i ka (ka.wrap a))|_=>False,Aj.wv fun vx=>?_,fun _ _ _=>rfl⟩;cases vx<;>first|exact Aj.no|exact Aj.one _
 case MS x=>
  refine⟨fun k=>wv (ev env x) fun vx=>match cellsOf vx with|some cs=>k (.rp cs)|none=>False,Aj.wv fun vx=>?_,fun _ _ _=>rfl⟩;cases cellsOf vx<;>first|exact Aj.no|exact Aj.one _
 case build z ps=>exact⟨fun k=>ws (Iw env z ps) fun cs=>k (.a cs),Aj.ws fun _=>Aj.one _,fun _ _ _=>rfl⟩
 case Am sz len z ps=>exact⟨fun k=>wr (Hn env z.length (List.replicate len z) ps) fun es=>k (.l es true),Aj.wr fun _=>Aj.one _,fun _ _ _=>rfl⟩
 case GZ off x=>exact⟨fun k=>wv (ev env x) fun vx=>JH off vx k,Aj.wv fun _=>Vv _ _,fun _ _ _=>rfl⟩
 case field agg off x=>
  refine⟨fun k=>wv (ev env x) fun vx=>match vx with| .a cs=>cut agg cs off k|_=>False,Aj.wv fun vx=>?_,fun _ _ _=>rfl⟩;cases vx<;>first|exact Aj.no|exact J9 _ _ _
 case BG sz arr x i=>exact⟨fun k=>wv (ev env x) fun vx=>wv (ev env i) fun vi=>Ab sz arr vx vi k,Aj.wv fun _=>Aj.wv fun _=>Vu _ _ _ _,fun _ _ _=>rfl⟩
 case Oj x i=>exact⟨fun k=>wv (ev env x) fun vx=>wv (ev env i) fun vi=>NL vx vi k,Aj.wv fun _=>Aj.wv fun _=>Yi _ _,fun _ _ _=>rfl⟩
 case index len sz agg x i=>exact⟨fun k=>wv (ev env x) fun vx=>wv (ev env i) fun vi=>JG len sz agg vx vi k,Aj.wv fun _=>Aj.wv fun _=>Vt _ _ _ _ _,fun _ _ _=>rfl⟩
 case len x=>exact⟨fun k=>wv (ev env x) fun vx=>BZ vx k,Aj.wv fun _=>cI _,fun _ _ _=>rfl⟩
 case MP x y=>
  refine⟨fun k=>wv (ev env x) fun vx=>wv (ev env y) fun vy=>match vx,vy with| .i ka a,.i kb b=>ka=kb∧k (.i ka (if b > a then b else a))|_,_=>False,?_,fun _ _ _=>rfl⟩;refine Aj.wv fun vx=>Aj.wv fun vy=>?_
  cases vx<;>cases vy<;>first|exact Aj.no|exact(Aj.one _).and
 case Om x y=>
  refine⟨fun k=>wv (ev env x) fun vx=>wv (ev env y) fun vy=>match vx,vy with| .i ka a,.i kb b=>ka=kb∧k (.i ka (if b<a then b else a))|_,_=>False,?_,fun _ _ _=>rfl⟩;refine Aj.wv fun vx=>Aj.wv fun vy=>?_
  cases vx<;>cases vy<;>first|exact Aj.no|exact(Aj.one _).and
 case extract i x=>
  refine⟨fun k=>wv (ev env x) fun vx=>match vx with| .t vs=>(match vs[i]? with|some v=>k v|none=>False)|_=>False,Aj.wv fun vx=>?_,fun _ _ _=>rfl⟩;cases vx<;>first|exact Aj.no|skip
  rename_i vs;simp only;cases vs[i]? <;>first|exact Aj.no|exact Aj.one _
 case D5 x=>
  refine⟨fun k=>wv (ev env x) fun vx=>match vx with
   | .p n off=>k (.p n off)
   | .rp cs=>k (.rp cs)
   | .pe n sz i off=>k (.pe n sz i off)
   | .f (.func f) first cap=>k (.f (.func f) first cap)
   | .f (.yield l) first cap=>k (.f (.yield l) first cap)
   | _=>False,Aj.wv fun vx=>?_,fun _ _ _=>rfl⟩
  cases vx<;>first|exact Aj.no|exact Aj.one _|skip
  rename_i f a b;cases f<;>first|exact Aj.no|exact Aj.one _
 case GN f a b=>exact⟨fun k=>ws (Rt env a) fun vf=>ws (Rt env b) fun vc=>k (.f f vf vc),Aj.ws fun _=>Aj.ws fun _=>Aj.one _,fun _ _ _=>rfl⟩
 case Ep t x=>exact⟨fun k=>wv (ev env x) fun vx=>k (.ET t vx),Aj.wv fun _=>Aj.one _,fun _ _ _=>rfl⟩
 case V2 t z ok x=>
  refine⟨fun k=>wv (ev env x) fun vx=>match vx with
   | .ET t' v=>(t'=t→k (bif ok then .t [v,.b true]else v))∧(t'≠t→ok=true∧k (.t [z,.b false]))
   | .DN=>ok=true∧k (.t [z,.b false])
   | _=>False,Aj.wv fun vx=>?_,fun _ _ _=>rfl⟩
  cases vx<;>first|exact Aj.no|exact(Aj.one _).and|skip
  rename_i t' v;simp only;by_cases ht:t'=t
  ·simpa[ht]using Aj.one _
  ·simpa[ht]using(Aj.one (.t [z,.b false])).and
 case Iy f as=>
  refine⟨fun k=>ws (Rt env as) fun vs=> ∃v,BQ P f vs (fun _=>none) (fun r σ'=>r= .ret v∧σ'=fun _=>none)∧k v,Aj.ws fun vs=>?_,fun _ _ _=>rfl⟩;intro k ⟨v,h1,h2⟩;exact⟨v,h2,fun k' hk=>⟨v,h1,hk⟩⟩
 case slice s x a b c=>
  exfalso;simp only[kd]at hk;split at hk<;>cases hk
 case append a b x y=>
  exfalso;simp only[kd]at hk;split at hk<;>cases hk
 all_goals exact⟨fun _=>False,Aj.no,fun _ _ _=>rfl⟩
def still (o:EW):Bool:=match kd o with| .P=>true| .N=>true|_=>false
theorem G0 {o : EW} (hs:still o=true) {k kp:V→AG→Prop} (h:Ei P o env σ k kp) :
 ∃v,k v σ∧ ∀σ' (k' kp':V→AG→Prop),(kd o= .P∨Sub σ σ')→k' v σ'→Ei P o env σ' k' kp':=by
 unfold still at hs;cases hk:kd o<;>rw[hk]at hs<;>first|(cases hs;done)|skip
 ·obtain⟨AD,h1,h2⟩:=yV (P:=P) (env:=env) hk
  rw[h2]at h;obtain⟨v,h3,h4⟩:=h1 _ h;exact⟨v,h3,fun σ' k' kp' _ hv=>by rw[h2];exact h4 _ hv⟩
 ·cases o <;>first|(simp[kd]at hk;done)|skip
  case load agg x=>
   simp only[Ei]at *;cases hx:ev env x with
   | none=>rw[hx]at h;exact h.elim
   | some vx=>
     rw[hx]at h;obtain⟨v,h3,h4⟩:=Yj σ agg vx _ h;refine⟨v,h3,fun σ' k' kp' hs hv=>YI (hs.resolve_left (by simp)) (h4 _ hv)⟩
  case QP x=>
   simp only[Ei]at *;cases hx:ev env x with
   | none=>rw[hx]at h;exact h.elim
   | some vx=>
     rw[hx]at h
     try simp only[EJ]at h ⊢
     obtain⟨v,h3,h4⟩:=Yk σ vx _ h;refine⟨v,h3,fun σ' k' kp' hs hv=>YJ (hs.resolve_left (by simp)) (h4 _ hv)⟩
  case str x=>
   simp only[Ei]at *;cases hx:ev env x with
   | none=>rw[hx]at h;exact h.elim
   | some vx=>
     rw[hx]at h
     try simp only[EJ]at h ⊢
     obtain⟨v,h3,h4⟩:=bw h;exact⟨v,h3,fun σ' k' kp' hs hv=>h4 _ _ (hs.resolve_left (by simp)) hv⟩
  case lookup ks z ok x y=>
   simp only[Ei]at *;cases hx:ev env x with
   | none=>rw[hx]at h;exact h.elim
   | some vx=>
     rw[hx]at h
     try simp only[EJ]at h ⊢
     cases hy:ev env y with
     | none=>rw[hy]at h;exact h.elim
     | some vy=>
       rw[hy]at h
       try simp only[EJ]at h ⊢
       obtain⟨v,h1,h2⟩:=T7 h;exact⟨v,h1,fun σ' k' kp' hs hk'=>h2 σ' _ (hs.resolve_left (by simp)) hk'⟩
  case Oq a b x y=>
   simp only[Ei]at *;cases hx:ev env x with
   | none=>rw[hx]at h;exact h.elim
   | some vx=>
     rw[hx]at h
     try simp only[EJ]at h ⊢
     cases hy:ev env y with
     | none=>rw[hy]at h;exact h.elim
     | some vy=>
       rw[hy]at h
       try simp only[EJ]at h ⊢
       obtain⟨v,h1,h2⟩:=Yl h;exact⟨v,h1,fun σ' k' kp' hs hk'=>h2 σ' _ (hs.resolve_left (by simp)) hk'⟩
  case slice s x a b c=>
   cases c with
   | some c=>simp[kd]at hk
   | none=>
     simp only[Ei]at *;cases hx:ev env x with
     | none=>rw[hx]at h;exact h.elim
     | some vx=>
       rw[hx]at h
       try simp only[EJ]at h ⊢
       cases ha:GV env a with
       | none=>rw[ha]at h;exact h.elim
       | some va=>
         rw[ha]at h
         try simp only[WS]at h ⊢
         cases hb:GV env b with
         | none=>rw[hb]at h;exact h.elim
         | some vb=>
           rw[hb]at h;simp only[WS,GV]at h ⊢;obtain⟨v,h1,h2⟩:=Vs h;exact⟨v,h1,fun σ' k' kp' _ hk'=>h2 σ' k' hk'⟩
  case append a b x y=>
   exfalso;simp only[kd]at hk;split at hk<;>cases hk
end Go.Gl
namespace Go.Gl
variable {P:Program} {Λ:Nat→Prop} {σ:AG}
noncomputable def Fu (σ:AG) (D:Nat→Prop):AG:=fun n=>open Classical in if D n then σ n else none
theorem DF {D:Nat→Prop} {n:Nat} (h:D n):Fu σ D n=σ n:=by unfold Fu;rw[if_pos h]
theorem DM {D:Nat→Prop} {n:Nat} (h: ¬D n):Fu σ D n=none:=by unfold Fu;rw[if_neg h]
def join (σ τ:AG):AG:=fun n=>match σ n with|some o=>some o|none=>τ n
theorem BQ.frame {f:FuncId} {args:List V} {Q:R→AG→Prop} (D:Nat→Prop) (h:BQ P f args (Fu σ D) Q) :
 BQ P f args σ fun r σ'=> ∃σ1,Q r σ1∧(∀n,¬D n→σ n≠none→σ1 n=none)∧σ'=join σ1 (Fu σ fun n=> ¬D n):=by
 refine⟨h.1,fun Λ w cs G hv=>?_⟩
 have hH:(Hh (fun n=>Λ n∨(¬D n∧σ n≠none)) (Fu σ D) w)=Hh Λ σ w:=by
  funext b o;unfold Hh;by_cases hb:Λ b∨(σ b).isSome=true
  ·rw[if_pos hb,if_pos]
   rcases hb with hb|hb
   ·exact .inl (.inl hb)
   ·by_cases hd:D b
    ·exact .inr (by rw[DF hd];exact hb)
    ·exact .inl (.inr ⟨hd,by intro e;rw[e]at hb;cases hb⟩)
  ·rw[if_neg hb,if_neg]
   rintro((h|h)|h)
   ·exact hb (.inl h)
   ·exact hb (.inr (by cases hs:σ b with|none=>exact absurd hs h.2|some o=>rfl))
   ·by_cases hd:D b
    ·rw[DF hd]at h;exact hb (.inr h)
    ·rw[DM hd]at h;cases h
 have hR1:Rel (fun n=>Λ n∨(¬D n∧σ n≠none)) (Fu σ D) w:=by
  refine⟨fun n o ho=>?_,fun n hn=>?_⟩
  ·by_cases hd:D n
   ·rw[DF hd]at ho
    obtain⟨h1,ob,h2,h3⟩:=G.own n o ho;refine⟨?_,ob,h2,by rw[hH];exact h3⟩;rintro(h|h)
    ·exact h1 h
    ·exact h.1 hd
   ·rw[DM hd]at ho;cases ho
  ·rcases hn with hn|hn
   ·exact G.lock n hn
   ·cases hs:σ n with
    | none=>exact absurd hs hn.2
    | some o=>exact G.lt hs
 refine Calls.mono (h.2 _ w cs hR1 (by rw[hH];exact hv)) fun e w' ⟨r,σ1,hq,h1,h2,h3⟩=>?_
 have hfr: ∀n,¬D n→σ n≠none→σ1 n=none:=fun n hd hn=>by
  cases hs:σ1 n with
  | none=>rfl
  | some o=>exact absurd (.inr ⟨hd,hn⟩) (h2.own n o hs).1
 have hle:V7 (Hh (fun n=>Λ n∨(¬D n∧σ n≠none)) σ1 w') (Hh Λ (join σ1 (Fu σ fun n=> ¬D n)) w'):=by
  intro b o c hc;obtain⟨k1,k2,k3⟩:=FM hc;rw[L2 (fun h=>k1 (.inl h)) ?_]
  ·exact k3
  ·simp only[join,k2]
   by_cases hd:D b
   ·exact DM (fun h=>h hd)
   ·rw[DF hd]
    cases hs:σ b with
    | none=>rfl
    | some o=>exact absurd (.inr ⟨hd,by rw[hs];simp⟩) k1
 have Y:B5 Λ σ w (join σ1 (Fu σ fun n=> ¬D n)) w':=by
  refine⟨fun n hn h0=>h3.frame n hn ?_,h3.size,h3.os,h3.tape,h3.output,fun n h0 hn=>?_⟩
  ·by_cases hd:D n
   ·rw[DF hd];exact h0
   ·exact DM hd
  ·have:σ1 n=none:=h3.names n (by
    by_cases hd:D n
    ·rw[DF hd];exact h0
    ·exact DM hd) hn
   simp only[join,this];by_cases hd:D n
   ·exact DM (fun h=>h hd)
   ·rw[DF hd];exact h0
 refine⟨r,_,⟨σ1,hq,hfr,rfl⟩,?_,⟨fun n o ho=>?_,fun n hn=>h2.lock n (.inl hn)⟩,Y⟩
 ·cases r with
  | ret v=>obtain⟨c,rfl,hv⟩:=h1;exact⟨c,rfl,hv.mono hle⟩
  | Bi v=>obtain⟨c,rfl,hv⟩:=h1;exact⟨c,rfl,hv.mono hle⟩
 ·simp only[join]at ho
  cases hs:σ1 n with
  | some o1=>
    rw[hs]at ho;simp only[Ha]at ho;subst ho;obtain⟨k1,ob,k2,k3⟩:=h2.own n _ hs;exact⟨fun h=>k1 (.inl h),ob,k2,k3.mono hle⟩
  | none=>
    rw[hs]at ho;simp only at ho;by_cases hd:D n
    ·rw[DM (fun h=>h hd)]at ho;cases ho
    ·rw[DF hd]at ho
     obtain⟨k1,ob,k2,k3⟩:=G.own n o ho;refine⟨k1,ob,(h3.frame n (G.lt ho) (DM hd)).trans k2,k3.mono ?_⟩;exact Y.hle
end Go.Gl
