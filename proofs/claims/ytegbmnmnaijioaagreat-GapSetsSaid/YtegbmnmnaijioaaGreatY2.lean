import Derived.DeepKeys3
import Derived.StringKeys
import Derived.Scope
import Derived.OrdersIn
import Derived.RangeFuncWrites
import Derived.RangeFuncNested
import Derived.RangeFuncLeaves
import Derived.Laws.BitsLemmas
import Derived.Test.YtegbmnmnaijioaaGreatY1
set_option linter.all false
set_option linter.defProp false
set_option maxHeartbeats 8000000
noncomputable section
namespace Go.Gl
variable {P:Program} {F:Nat->Prop} {Z:AE} {w:World} {k kp:V->AE->Prop}
structure KL (P:Program) (kt:TypeId) (ok:Value->Prop):Prop where
 check: ∀(w:World) (em:Bool) {v:Value},ok v->(Instr.checkKey em 10000 kt v).run P w= .ok () w
 find: ∀(w:World) {x:Value},ok x-> ∀es:List MapEntry,(∀e∈es,ok e.key)->
  ((Instr.findKey kt x es).run P w= .ok none w/\ ∀e∈es,e.key≠x)\/ ∃j e,(Instr.findKey kt x es).run P w= .ok (some (j,e.val)) w/\es[j]? =some e/\e.key=x
 stays: ∀(w:World) {v:Value},ok v->(Instr.keyThatStays v v).run P w= .ok v w
def KL.of_law {kt:TypeId} (K:WideMaps.KeyLaw P kt):KL P kt fun v=> ∃l,keyOf P kt v=some l where
 check w em _ h:=let⟨_,h⟩:=h;K.check w em h
 find w _ h es hes:=let⟨_,h⟩:=h;K.find w h es hes
 stays w _ h:=let⟨_,h⟩:=h;K.stays w h
def PJ {q:IntKind} {ki:IntKind} (a:Int): ∀(es:List MapEntry) (i:Nat),(∀e∈es,∃b,e.key= .int ki b)->
    (Instr.findNow (.int q) (.int ki a) es i=some none/\ ∀e∈es,e.key≠ .int ki a)\/ ∃j e,Instr.findNow (.int q) (.int ki a) es i=some (some (i+j,e.val))/\es[j]? =some e/\e.key= .int ki a
 | [],i,_=> .inl ⟨rfl,by simp⟩
 | e ::es,i,h=>by
   obtain⟨b,hb⟩:=h e (.head _);simp only[Instr.findNow,hb,Instr.sameNow,if_true];by_cases hab:a=b
   .subst hab
    refine .inr ⟨0,e,by simp,rfl,hb⟩
   .have:(a==b)=false:=by simpa using hab
    rw[this];rcases PJ a es (i+1) (fun e he=>h e (.tail _ he))with⟨h1,h2⟩|⟨j,e',h1,h2,h3⟩
    .refine .inl ⟨h1,fun e' he'=>?_⟩
     rcases GM.1 he' with rfl|he'
     .rw[hb];intro e;cases e;exact hab rfl
     .exact h2 e' he'
    .exact .inr ⟨j+1,e',by rw[h1,show i+1+j=i+(j+1) by omega],h2,h3⟩
def fl {kt:TypeId} {q:IntKind} (hu:P.underlying kt=some (.int q)) (em:Bool) (n:Nat) (ki:IntKind) (b:Int):(Instr.checkKey em (n+1) kt (.int ki b)).run P w= .ok () w:=by
 simp only[Instr.checkKey,DU,BK hu,G9,FF]
def KL.int {kt:TypeId} {q:IntKind} (hu:P.underlying kt=some (.int q)) (ki:IntKind):KL P kt fun v=> ∃b,v= .int ki b where
 check w em v h:=by
  obtain⟨b,rfl⟩:=h;exact fl hu em 9999 ki b
 find w x h es hes:=by
  obtain⟨b,rfl⟩:=h;unfold Instr.findKey;simp only[DU,BK hu,G9];rcases PJ (q:=q) b es 0 hes with⟨h1,h2⟩|⟨j,e,h1,h2,h3⟩
  .exact .inl ⟨by rw[h1];rfl,h2⟩
  .exact .inr ⟨j,e,by rw[h1,HG];rfl,h2,h3⟩
 stays w v h:=by
  obtain⟨b,rfl⟩:=h;unfold Instr.keyThatStays;have:Instr.sameBits 10000 (.int ki b) (.int ki b)=true:=by simp[Instr.sameBits]
  rw[this];rfl
def Ints (cs cs':List Value):Prop:=cs.length=cs'.length/\ ∀(i:Nat) (a:Value),cs[i]? =some a-> ∃(q:IntKind) (n m:Int),a=Value.int q n/\cs'[i]? =some (Value.int q m)/\(Lit.int q m).wf=true
def Ints.part {cs cs':List Value} (h:Ints cs cs') (o n:Nat):Ints ((cs.drop o).take n) ((cs'.drop o).take n):=by
 refine⟨by simp[h.1],fun i a ha=>?_⟩;rw[List.getElem?_take]at ha ⊢;split at ha
 .rename_i hi
  rw[if_pos hi];rw[zZ]at ha ⊢;exact h.2 _ _ ha
 .cases ha
def VG {α β:Type} {f g:α->Option β}: ∀ {l:List α} {ys:List β},(∀x∈l,∀y,f x=some y-> ∃y',g x=some y')->l.mapM f=some ys-> ∃ys',l.mapM g=some ys'
 | [],_,_,_=>⟨[],by simp⟩
 | x::l,ys,h,hm=>by
   rw[List.mapM_cons]at hm;simp only[bind,Option.bind_eq_some_iff,pure,JM]at hm;obtain⟨y,h1,ys',h2,rfl⟩:=hm;obtain⟨y',h3⟩:=h x (.head _) y h1;obtain⟨ys'',h4⟩:=VG (fun x hx=>h x (.tail _ hx)) h2;exact⟨y'::ys'',by rw[List.mapM_cons];simp[h3,h4]⟩
def L3: ∀(D:Nat) (t:TypeId) {cs cs':List Value} {l:List Lit},Ints cs cs'->P.keyLits D t cs=some l-> ∃l',P.keyLits D t cs'=some l'
 | 0,_,_,_,_,_,h=>by simp[Program.keyLits]at h
 | D + 1,t,cs,cs',l,hi,h=>by
   unfold Program.keyLits at h ⊢;split at h
   .rename_i b _
    obtain⟨q,n,m,e,_⟩:=hi.2 0 _ rfl;cases e
   .rename_i q q' n hu
    obtain⟨q2,n2,m,e,e2,e3⟩:=hi.2 0 _ rfl;cases e;have hl:cs'.length=1:=hi.1.symm
    match cs',hl,e2 with
    | [c],_,e2=>
      simp only[sr,JM]at e2;subst e2;split at h
      .rename_i hq
       obtain⟨rfl,_⟩:=hq;simp only[hu];exact⟨_,if_pos ⟨trivial,e3⟩⟩
      .cases h
   .obtain⟨q,n,m,e,_⟩:=hi.2 0 _ rfl
    cases e
   .rename_i n e hu
    simp only[hu];split at h
    .rename_i hl
     rw[if_pos (by rw[<-hi.1];exact hl)];obtain⟨ys,h1,_⟩:=Aj h;obtain⟨ys',h2⟩:=VG (g:=fun i=>P.keyLits D e ((cs'.drop (i*P.cellsOf e)).take (P.cellsOf e))) (fun i _ y hy=>L3 D e (hi.part _ _) hy) h1;exact⟨_,by rw[h2];rfl⟩
    .cases h
   .rename_i fs hu
    simp only[hu];split at h
    .rename_i hl
     rw[if_pos (by rw[<-hi.1];exact hl)];obtain⟨ys,h1,_⟩:=Aj h;obtain⟨ys',h2⟩:=VG (g:=fun f=>P.keyLits D f.type ((cs'.drop f.offset).take (P.cellsOf f.type))) (fun f _ y hy=>L3 D f.type (hi.part _ _) hy) h1;exact⟨_,by rw[h2];rfl⟩
    .cases h
   .cases h
def ur:V->Option IntKind| .i q _=>some q|_=>none
def VK:List V->Option (List IntKind)
 | []=>some []
 | c::cs=>match ur c,VK cs with|some q,some l=>some (q::l)|_,_=>none
def V3 (P:Program) (kt:TypeId):Option KS:=
 match P.underlying kt with
 | some (.int k)=>some (.i k)
 | some .string=>some .s
 | some (.array _ _)|some (.struct _)=>match zeroOf P kt with
   | some (.a cs)=>match VK cs with
     | some l=>if P.keyType kt&&P.keyTypeAt 6 kt&&P.tiled 6 kt&&(P.keyLits (P.types.size+1) kt (l.map fun q=> .int q 0)).isSome&&Nat.beq l.length (P.cellsOf kt)then some (.a l)else none
     | none=>none
   | _=>none
 | _=>none
def JA {H:Nat->Nat->Option Value} {g:Nat->Option Value}: ∀ {l:List IntKind} {cs:List V} {o:Nat},Dp l cs=true->Ba H g o cs->
    cs.length=l.length/\ ∀(i:Nat) (q:IntKind),l[i]? =some q-> ∃m:Int,cs[i]? =some (.i q m)/\g (o+i)=some (.int q m)/\q.min<=m/\m<=q.max
 | [],[],_,_,_=>⟨rfl,by simp⟩
 | [],_::_,_,h,_=>by simp[Dp]at h
 | q::l,[],_,h,_=>by simp[Dp]at h
 | q ::l,c::cs,o,h,hv=>by
   cases c<;>simp only[Dp,ME]at h
   rename_i q' n;simp only[A9,Cp]at h;obtain⟨rfl,h⟩:=h;obtain⟨⟨c,h1,⟨rfl,h2⟩⟩,h3⟩:=hv;obtain⟨h4,h5⟩:=JA h h3;refine⟨by simp[h4],fun i q' hq=>?_⟩;cases i with
   | zero=>simp only[sr,JM]at hq;subst hq;exact⟨n,rfl,h1,h2⟩
   | succ i=>
     obtain⟨m,h6,h7,h8⟩:=h5 i q' (by simpa using hq);exact⟨m,by simpa using h6,by rw[<-h7];congr 1;omega,h8⟩
def sF {kt:TypeId} {ks:KS} (h:V3 P kt=some ks): ∃ok,KL P kt ok/\ ∀(H:Nat->Nat->Option Value) (v:V) (c:Value),BW ks v=true->Ah H v c->ok c:=by
 unfold V3 at h
 have agg: ∀(hw:(match P.underlying kt with|some (.array _ _)|some (.struct _)=>true|_=>false)=true),(match zeroOf P kt with
  | some (.a cs)=>match VK cs with
    | some l=>if P.keyType kt&&P.keyTypeAt 6 kt&&P.tiled 6 kt&&(P.keyLits (P.types.size+1) kt (l.map fun q=>Value.int q 0)).isSome&&Nat.beq l.length (P.cellsOf kt)then some (.a l)else none
    | none=>none
  | _=>none)=some ks-> ∃ok,KL P kt ok/\ ∀(H:Nat->Nat->Option Value) (v:V) (c:Value),BW ks v=true->Ah H v c->ok c:=fun hw h=>by
  split at h
  .split at h
   .rename_i l _
    split at h
    .rename_i hc
     cases h;simp only[A9]at hc;obtain⟨⟨⟨⟨c1,c2⟩,c3⟩,c4⟩,c5⟩:=hc;refine⟨_,KL.of_law (deep_law (m:=6) (by omega) c2 c3 hw),fun H v c hv hr=>?_⟩;cases v<;>simp only[BW,ME]at hv
     rename_i cs;obtain⟨c',rfl,h1,h2⟩:=hr;obtain⟨h3,h4⟩:=JA hv h2;have hsz:c'.size=P.cellsOf kt:=by rw[h1,h3];exact Vs c5
     obtain⟨L,hL⟩:=Option.isSome_iff_exists.1 c4
     obtain⟨L',hL'⟩:=L3 (P:=P) (P.types.size+1) kt (cs:=l.map fun q=>Value.int q 0) (cs':=c'.toList) ⟨by simp[h1,h3],fun i a ha=>by
      rw[Jm]at ha;obtain⟨q,hq,rfl⟩:=Aj ha;obtain⟨m,_,h6,h7⟩:=h4 i q hq
      refine⟨q,0,m,rfl,by simpa using h6,by simpa[Lit.wf]using h7⟩⟩ hL
     have hf:(Value.agg c').formed P kt=true:=by
      unfold Value.formed;split at hw<;>simp_all
     refine⟨.string (keyBytes L'),?_⟩;unfold keyOf;split at hw
     .rename_i hu;simp only[hu,c1,hf,Bool.and_self,if_true];show Option.map _ (P.keyLits _ kt c'.toList)=_;rw[hL'];rfl
     .rename_i hu;simp only[hu,c1,hf,Bool.and_self,if_true];show Option.map _ (P.keyLits _ kt c'.toList)=_;rw[hL'];rfl
     .cases hw
    .cases h
   .cases h
  .cases h
 split at h
 .rename_i q0 hu
  cases h;refine⟨_,KL.int hu q0,fun H v c hv hr=>?_⟩;cases v<;>simp only[BW,ME]at hv
  rename_i q n;obtain⟨rfl,_⟩:=hr;have:=of_decide_eq_true hv;subst this;exact⟨n,rfl⟩
 .rename_i hu
  cases h;refine⟨_,KL.of_law (WideMaps.string_law hu),fun H v c hv hr=>?_⟩;cases v<;>simp only[BW,ME]at hv
  have hr':c= .string _:=hr;subst hr';exact⟨_,WideMaps.keyOf_string_mk hu (Nat.le_trans (Nat.le_of_ble_eq_true hv) (by decide))⟩
 .rename_i hu;exact agg (by rw[hu]) h
 .rename_i hu;exact agg (by rw[hu]) h
 .cases h
def SC: ∀ {l:List IntKind} {cs ds:List V},Dp l cs=true->Dp l ds=true-> ∃r,Bz cs ds=some r/\(r=true↔cs=ds)
 | [],[],[],_,_=>⟨true,rfl,by simp⟩
 | [],_::_,_,h,_=>by simp[Dp]at h
 | [],[],_::_,_,h=>by simp[Dp]at h
 | _::_,[],_,h,_=>by simp[Dp]at h
 | _::_,_::_,[],_,h=>by simp[Dp]at h
 | q ::l,c::cs,d::ds,h,h'=>by
   cases c<;>simp only[Dp,ME]at h
   cases d<;>simp only[Dp,ME]at h'
   rename_i k a k' b;simp only[A9,Cp]at h h';obtain⟨rfl,h⟩:=h;obtain⟨rfl,h'⟩:=h';obtain⟨r,h1,h2⟩:=SC h h';refine⟨(a==b)&&r,by simp[Bz,h1],?_⟩;rw[A9,h2];constructor
   .rintro⟨h3,rfl⟩
    rw[show a=b by simpa using h3]
   .intro e
    cases e;exact⟨by simp,rfl⟩
def Ty {ks:KS} {H:Nat->Nat->Option Value} {x y:V} {c d:Value} (hx:BW ks x=true) (hy:BW ks y=true) (hc:Ah H x c) (hd:Ah H y d):D6 x y=true↔c=d:=by
 cases ks with
 | i q=>
   cases x<;>simp only[BW,ME]at hx
   cases y<;>simp only[BW,ME]at hy
   rename_i k a k' b;obtain⟨rfl,_⟩:=hc;obtain⟨rfl,_⟩:=hd;have h1:=of_decide_eq_true hx;have h2:=of_decide_eq_true hy;subst h1;subst h2;simp[D6]
 | s=>
   cases x<;>simp only[BW,ME]at hx
   cases y<;>simp only[BW,ME]at hy
   have h1:c= .string _:=hc;have h2:d= .string _:=hd;subst h1;subst h2;simp[D6]
 | a l =>
   cases x<;>simp only[BW,ME]at hx
   cases y<;>simp only[BW,ME]at hy
   rename_i cs ds;obtain⟨c',rfl,h1,h2⟩:=hc;obtain⟨d',rfl,h3,h4⟩:=hd;obtain⟨r,h5,h6⟩:=SC hx hy;obtain⟨g1,g2⟩:=JA hx h2;obtain⟨g3,g4⟩:=JA hy h4;simp only[D6,h5,Option.getD_some,h6,Value.agg.injEq];constructor
   .rintro rfl
    refine Array.ext (by omega) fun i hi hj=>?_
    obtain⟨m,a1,a2,_⟩:=g2 i l[i] (Cs (by omega));obtain⟨m',b1,b2,_⟩:=g4 i l[i] (Cs (by omega));rw[a1]at b1;cases b1;simp only[HG,Array.getElem?_eq_getElem hi,Array.getElem?_eq_getElem hj,JM]at a2 b2;rw[a2,b2]
   .rintro rfl
    refine List.ext_getElem? fun i=>?_
    by_cases hi:i<l.length
    .obtain⟨m,a1,a2,_⟩:=g2 i l[i] (Cs hi)
     obtain⟨m',b1,b2,_⟩:=g4 i l[i] (Cs hi);rw[a2]at b2;cases b2;rw[a1,b1]
    .rw[List.getElem?_eq_none (by omega),List.getElem?_eq_none (by omega)]
def VJ {ks:KS} {H:Nat->Nat->Option Value} {key:V} {c x:Value} {val:V} (hk:BW ks key=true) (hc:Ah H key c) (hx:Ah H val x) (clk:Nat): ∀ {kvs:List (V×V)} {es:List MapEntry},GA H kvs es->(∀kv∈kvs,BW ks kv.1=true)->(∀e∈es,e.key≠c)->
    Cn key kvs=none/\GA H (DZ key val kvs) (es++[{key:=c,val:=x,born:=clk}])
 | [],[],_,_,_=>⟨rfl,hc,hx,trivial⟩
 | [],_::_,h,_,_=>h.elim
 | _::_,[],h,_,_=>h.elim
 | (k,v)::r,e::es,h,hks,hne=>by
   obtain⟨h1,h2,h3⟩:=h
   have hf:D6 key k=false:=by
    cases hb:D6 key k with
    | false=>rfl
    | true=>exact absurd ((Ty hk (hks _ (.head _)) hc h1).1 hb).symm (hne e (.head _))
   obtain⟨h4,h5⟩:=VJ hk hc hx clk h3 (fun kv hkv=>hks kv (.tail _ hkv)) (fun e he=>hne e (.tail _ he));simp only[Cn,DZ,hf,cond_false];exact⟨h4,h1,h2,h5⟩
def VI {ks:KS} {H:Nat->Nat->Option Value} {key:V} {c x:Value} {val:V} (hk:BW ks key=true) (hc:Ah H key c) (hx:Ah H val x): ∀ {kvs:List (V×V)} {es:List MapEntry} {j:Nat} {e:MapEntry},GA H kvs es->(∀kv∈kvs,BW ks kv.1=true)->
    es.Pairwise (fun a b=>a.key≠b.key)->es[j]? =some e->e.key=c->
    ∃v,Cn key kvs=some v/\Ah H v e.val/\GA H (DZ key val kvs) (es.modify j fun e=>{e with key:=c,val:=x})
 | [],[],j,_,_,_,_,hj,_=>by simp at hj
 | [],_::_,_,_,h,_,_,_,_=>h.elim
 | _::_,[],_,_,h,_,_,_,_=>h.elim
 | (k, v)::r,e0::es,j,e,h,hks,hd,hj,he=>by
   obtain⟨h1,h2,h3⟩:=h;obtain⟨hd1,hd2⟩:=List.pairwise_cons.1 hd;have hiff:=Ty hk (hks _ (.head _)) hc h1;cases j with
   | zero=>
     simp only[sr,JM]at hj;subst hj;have hb:D6 key k=true:=hiff.2 he.symm;simp only[Cn,DZ,hb,cond_true];exact⟨v,rfl,h2,hc,hx,h3⟩
   | succ j=>
     simp only[zi]at hj
     have hb:D6 key k=false:=by
      cases hb:D6 key k with
      | false=>rfl
      | true=>
        have:=hiff.1 hb;exact absurd (this.symm.trans he.symm) (hd1 e (Bp hj))
     obtain⟨v',h4,h5,h6⟩:=VI hk hc hx h3 (fun kv hkv=>hks kv (.tail _ hkv)) hd2 hj he;simp only[Cn,DZ,hb,cond_false];exact⟨v',h4,h5,h1,h2,h6⟩
def iM {ok:Value->Prop} {ks:KS} {H:Nat->Nat->Option Value} (hok: ∀(H:Nat->Nat->Option Value) (v:V) (c:Value),BW ks v=true->Ah H v c->ok c): ∀ {kvs:List (V×V)} {es:List MapEntry},GA H kvs es->(∀kv∈kvs,BW ks kv.1=true)-> ∀e∈es,ok e.key
 | (k,v)::r,e0::es,h,hks,e,he=>by
   obtain⟨h1,h2,h3⟩:=h;rcases GM.1 he with rfl|he
   .exact hok H k _ (hks _ (.head _)) h1
   .exact iM hok h3 (fun kv hkv=>hks kv (.tail _ hkv)) e he
 | [],[],_,_,_,he=>by cases he
 | [],_::_,h,_,_,_=>h.elim
 | _::_,[],h,_,_,_=>h.elim
def XI (hR:Rel F Z w) {n:Nat} {kvs:List (V×V)} (h:Z n=some (.map kvs)): ∃es clk,w.heap[n]? =some (.map es clk)/\GA (Hh F Z w) kvs es.toList/\es.toList.Pairwise (fun a b=>a.key≠b.key):=by
 obtain⟨_,ob,h2,es,clk,rfl,h4⟩:=hR.own n _ h;exact⟨es,clk,h2,h4⟩
def Vk {t kt e:TypeId} {ks:KS} {z:V} {ok:Bool} (hu:P.underlying t=some (.map kt e)) (hks:V3 P kt=some ks) (hz:zeroOf P e=some z) (hR:Rel F Z w) {vm vk:V} {cm ck:Value}
    (hm:Ah (Hh F Z w) vm cm) (hk:Ah (Hh F Z w) vk ck) (h:AM Z ks z ok vm vk fun v=>k v Z):Cl F Z w k kp ((Instr.lookup t cm ck ok).run P w):=by
 obtain⟨h0,h⟩:=h;obtain⟨okk,K,hok⟩:=sF hks;have hck:=hok _ _ _ h0 hk;obtain⟨zc,hz1,hz2⟩:=Eu hz w;have hzr:Ah (Hh F Z w) z zc:=HN hz2;have hch: ∀em,(Instr.checkKey em 10000 kt ck).run P w= .ok () w:=fun em=>K.check w em hck
 unfold Instr.lookup;simp only[DU,BK hu,G9]
 have fin: ∀ {o:Option V} {x:Value} {b:Bool},(match o with|some v=>b=true/\Ah (Hh F Z w) v x|none=>b=false/\x=zc)->k (found z ok o) Z->Cl F Z w k kp (Result.ok (if ok=true then Value.tuple #[x,.bool b]else x) w):=fun {o x b} ho hk=>by
  have tup: ∀ {v:V} {x:Value} {b:Bool},Ah (Hh F Z w) v x->Ah (Hh F Z w) (.t [v,.b b]) (.tuple #[x,.bool b]):=fun hv=>⟨_,rfl,rfl,⟨_,rfl,hv⟩,⟨_,rfl,rfl⟩,trivial⟩
  cases o with
  | some v=>
    obtain⟨rfl,hv⟩:=ho;cases ok
    .exact Aw hR hk hv
    .exact Aw hR hk (tup hv)
  | none=>
    obtain⟨rfl,rfl⟩:=ho;cases ok
    .exact Aw hR hk hzr
    .exact Aw hR hk (tup hzr)
 cases vm<;>first|exact h.elim|skip
 .rename_i n
  simp only at h;split at h
  .rename_i kvs hn
   obtain⟨h1,h2⟩:=h;simp only[Ah]at hm;subst hm;obtain⟨es,clk,h3,h4,h5⟩:=XI hR hn;have hg:(getObj n).run P w= .ok (.map es clk) w:=by simp[getObj,Sem.run,h3]
   simp only[DU,hg,G9,FF,hch];rcases K.find w hck es.toList (iM hok h4 h1)with⟨h6,h7⟩|⟨j,e',h6,h7,h8⟩
   .obtain⟨h9,_⟩:=VJ h0 hk hk 0 h4 h1 h7
    simp only[h6,G9,DU,hz1,FF];rw[h9]at h2;exact fin (o:=none) ⟨rfl,rfl⟩ h2
   .obtain⟨v,h9,h10,_⟩:=VI h0 hk hk h4 h1 h5 h7 h8
    simp only[h6,G9,FF];rw[h9]at h2;exact fin (o:=some v) ⟨rfl,h10⟩ h2
  .exact h.elim
 .simp only[Ah]at hm
  subst hm;simp only[DU,FF,G9,hch];rcases K.find w hck [] (fun e he=>by cases he)with⟨h6,_⟩|⟨j,e',_,h7,_⟩
  .simp only[h6,G9,DU,hz1,FF]
   exact fin (o:=none) ⟨rfl,rfl⟩ h
  .simp at h7
def Rg {n:Nat} {ob:Obj} {es:Array MapEntry} {clk:Nat} (h:w.heap[n]? =some (.map es clk)):(setObj n ob).run P w= .ok () (Cf w n ob):=by
 simp[setObj,Sem.run,h,Cf]
def Jd {c x:Value}: ∀ {es:List MapEntry} {j:Nat} {e:MapEntry},es[j]? =some e->e.key=c->es.Pairwise (fun a b=>a.key≠b.key)->(es.modify j fun e=>{e with key:=c,val:=x}).Pairwise (fun a b=>a.key≠b.key)
 | [],_,_,h,_,_=>by simp at h
 | e0::es,0,e,h,he,hp=>by
   simp only[sr,JM]at h;subst h;obtain⟨h1,h2⟩:=List.pairwise_cons.1 hp;exact List.pairwise_cons.2 ⟨fun a ha=>by simpa only[<-he]using h1 a ha,h2⟩
 | e0::es,j+1,e,h,he,hp=>by
   simp only[zi]at h;obtain⟨h1,h2⟩:=List.pairwise_cons.1 hp;refine List.pairwise_cons.2 ⟨fun a ha=>?_,Jd h he h2⟩;have ha:a∈es.modify j fun e=>{e with key:=c,val:=x}:=ha
   obtain⟨i,hi⟩:=List.mem_iff_getElem?.1 ha;rw[List.getElem?_modify]at hi;cases hb:es[i]? with
   | none=>rw[hb]at hi;cases hi
   | some b=>
     rw[hb]at hi;simp only[Option.map_eq_map,Ya,JM]at hi;split at hi
     .rename_i hji
      subst hi;subst hji;rw[h]at hb;cases hb;simpa only[<-he]using h1 e (Bp h)
     .subst hi
      exact h1 b (Bp hb)
def Vj {t kt e:TypeId} {ks:KS} (hu:P.underlying t=some (.map kt e)) (hks:V3 P kt=some ks) (hR:Rel F Z w) {vm vk vx:V} {cm ck cx:Value}
    (hm:Ah (Hh F Z w) vm cm) (hk:Ah (Hh F Z w) vk ck) (hx:Ah (Hh F Z w) vx cx) (h:AO Z ks vm vk vx fun Z'=>k (.t []) Z') :
    ∃Z' w',(Instr.mapUpdate t cm ck cx).run P w= .ok () w'/\k (.t []) Z'/\Rel F Z' w'/\CD F Z w Z' w':=by
 obtain⟨h0,h⟩:=h;obtain⟨okk,K,hok⟩:=sF hks;have hck:=hok _ _ _ h0 hk;have hch: ∀em,(Instr.checkKey em 10000 kt ck).run P w= .ok () w:=fun em=>K.check w em hck
 cases vm<;>first|exact h.elim|skip
 rename_i n;simp only at h;split at h
 .rename_i kvs hn
  obtain⟨h1,h2⟩:=h;simp only[Ah]at hm;subst hm;obtain⟨es,clk,h3,h4,h5⟩:=XI hR hn;have hg:(getObj n).run P w= .ok (.map es clk) w:=by simp[getObj,Sem.run,h3]
  unfold Instr.mapUpdate;simp only[DU,BK hu,G9,hg,hch];rcases K.find w hck es.toList (iM hok h4 h1)with⟨h6,h7⟩|⟨j,e',h6,h7,h8⟩
  .obtain⟨_,h9⟩:=VJ h0 hk hx clk h4 h1 h7
   refine⟨_,Cf w n (.map (es.push {key:=ck,val:=cx,born:=clk}) (clk+1)),?_,h2,KZ hR hn ⟨_,_,rfl,?_,?_⟩,HV hn _ _⟩
   .simp only[h6,G9]
    exact Rg h3
   .simpa using h9
   .rw[Array.toList_push,List.pairwise_append]
    exact⟨h5,by simp,fun a ha b hb=>by simp at hb;subst hb;exact h7 a ha⟩
  .obtain⟨v,_,_,h9⟩:=VI h0 hk hx h4 h1 h5 h7 h8
   have hj:es[j]? =some e':=by rw[<-h7];simp
   refine⟨_,Cf w n (.map (es.modify j fun e=>{e with key:=ck,val:=cx}) clk),?_,h2,KZ hR hn ⟨_,_,rfl,?_,?_⟩,HV hn _ _⟩
   .simp only[h6,G9,DU,hj,Ya,Option.getD_some,h8,K.stays w hck]
    exact Rg h3
   .simpa using h9
   .simpa using Jd (x:=cx) h7 h8 h5
 .exact h.elim
def tJ (P:Program):Op->Option GO
 | .makeMap t r=>match r,P.underlying t with
   | none,_=>some .Oz
   | some _,_=>none
 | .lookup t x i ok=>match P.underlying t with
   | some (.map kt e)=>match V3 P kt,zeroOf P e,BY x,BY i with
     | some ks,some z,some x,some i=>some (.lookup ks z ok x i)
     | _,_,_,_=>none
   | _=>none
 | .mapUpdate t m i x=>match P.underlying t with
   | some (.map kt _)=>match V3 P kt,BY m,BY i,BY x with
     | some ks,some m,some i,some x=>some (.Em ks m i x)
     | _,_,_,_=>none
   | _=>none
 | .insert t m i x=>match P.underlying t with
   | some (.map kt _)=>match V3 P kt,BY m,BY i,BY x with
     | some ks,some m,some i,some x=>some (.Em ks m i x)
     | _,_,_,_=>none
   | _=>none
 | _=>none
def ZY {env:Env} {a:Act} {o:Oper} {ao:GO} (ho:tJ P o.op=some ao) (h:Fw P ao env Z k kp) (he:CY (Hh F Z w) env a.tmps) (hR:Rel F Z w) :
    Good P F Z w k kp ((execOp a.eval o).run P w):=by
 have put: ∀ {t:TypeId} {m i x:Operand},(match P.underlying t with
  | some (.map kt _)=>match V3 P kt,BY m,BY i,BY x with
    | some ks,some m,some i,some x=>some (GO.Em ks m i x)
    | _,_,_,_=>none
  | _=>none)=some ao->Good P F Z w k kp ((do Instr.mapUpdate t (a.eval m) (a.eval i) (a.eval x);pure Next.skip:Sem Next).run P w):=fun {t m i x} ho=>by
  split at ho
  .rename_i kt e hu
   split at ho
   .rename_i ks m' i' x' hks hm hi hx
    cases ho;obtain⟨vm,h1,g⟩:=Ak h;obtain⟨vi,h2,g⟩:=Ak g;obtain⟨vx,h3,g⟩:=Ak g;obtain⟨Z',w',e1,e2,e3,e4⟩:=Vj hu hks hR (Ap he hm h1) (Ap he hi h2) (Ap he hx h3) g;simp only[DU,e1,G9,FF];exact⟨Z',e2,e3,e4⟩
   .cases ho
  .cases ho
 unfold execOp;unfold tJ at ho;split at ho
 .rename_i t r hop
  rw[hop];dsimp only;split at ho
  .cases ho
   refine A6 ?_;simp only[Fw]at h;exact⟨_,_,h w.heap.size hR.new,rfl,IX hR (o:= .map []) ⟨#[],0,rfl,trivial,by simp⟩,EM _ _⟩
  .cases ho
 .rename_i t x i ok hop
  rw[hop];dsimp only;split at ho
  .rename_i kt e hu
   split at ho
   .rename_i ks z x' i' hks hz hx hi
    cases ho;obtain⟨vx,h1,g⟩:=Ak h;obtain⟨vi,h2,g⟩:=Ak g;exact A6 (Vk hu hks hz hR (Ap he hx h1) (Ap he hi h2) g)
   .cases ho
  .cases ho
 .rename_i t m i x hop
  rw[hop];exact put ho
 .rename_i t m i x hop
  rw[hop];exact put ho
 .cases ho
def Y0 (P:Program) (name:String):List (TypeId×FuncId):=(List.range P.types.size).filterMap fun t=>
 match P.info? t,P.underlying t with
 | some i,some d=>match i.methods.find? (·.name==name)with
   | some m=>if m.path.isEmpty then match m.func,d with
     | some (f,true),.pointer _=>some (t,f)
     | some (_,false),.pointer _=>none
     | some (f,false),_=>some (t,f)
     | _,_=>none
     else none
   | none=>none
 | _,_=>none
def tK (P:Program):Op->Option GO
 | .call c=>match c.callee with
   | .invoke x name=>match BY x,LG c.args.toList with
     | some x,some as=>some (.inv (Y0 P name) x as)
     | _,_=>none
   | _=>none
 | _=>none
def XJ {t:TypeId} {f:FuncId}: ∀ {l:List (TypeId×FuncId)},look t l=some f->(t,f)∈l
 | [],h=>by cases h
 | (u,g)::r,h=>by
   simp only[look]at h;cases hb:Nat.beq u t with
   | true=>
     rw[hb]at h;simp only[cond_true,JM]at h;rw[Vs hb,h];exact .head _
   | false=>
     rw[hb]at h;exact .tail _ (XJ h)
def ZP {name:String} {t:TypeId} {f:FuncId} (h:(t,f)∈Y0 P name) (c:Value):(method (P.types.size+Made.depth) t c name).run P w= .ok (f,c) w:=by
 unfold Y0 at h;rw[List.mem_filterMap]at h;obtain⟨u,hu,h⟩:=h;rw[List.mem_range]at hu;split at h
 rotate_left
 .cases h
 rename_i i d hi hd;split at h
 rotate_left
 .cases h
 rename_i m hm;split at h
 rotate_left
 .cases h
 rename_i hp
 have hpl:m.path.toList= []:=by
  have:m.path= #[]:=by simpa using hp
  rw[this]
 obtain⟨n,hn⟩: ∃n,P.types.size+Made.depth=n+1:=⟨P.types.size+Made.depth - 1,by omega⟩
 have key: ∀ptr,u=t->m.func=some (f,ptr)->(ptr=true-> ∃e,d= .pointer e)->(ptr=false-> ∀e,d≠ .pointer e)->(method (P.types.size+Made.depth) t c name).run P w= .ok (f,c) w:=fun ptr e1 e2 e3 e4=>by
  subst e1;rw[hn];unfold method;simp only[DU,run_typeInfo w hi,G9,hm,hpl,follow,FF,e2,receiverAt,run_underlying hd];cases ptr with
  | true=>
    obtain⟨e,rfl⟩:=e3 rfl;simp[Place.get]
  | false=>
    have:=e4 rfl;cases d<;>first|exact absurd rfl (this _)|simp[Place.get]
 split at h
 .rename_i f' e hfun
  cases h;exact key true rfl hfun (fun _=>⟨_,rfl⟩) (fun h=>by cases h)
 .cases h
 .rename_i f' hfun hne
  cases h;exact key false rfl hfun (fun h=>by cases h) (fun _ e he=>by subst he;exact hne e rfl)
 .cases h
def gE {tab:List (TypeId×FuncId)} {x:V} {args:List V} {Q:R->AE->Prop} (h:A0 P tab x args Z Q): ∃t v f,x= .FV t v/\look t tab=some f/\Au P f (v::args) Z Q:=by
 unfold A0 at h;split at h
 .split at h
  .exact⟨_,_,_,rfl,by assumption,h⟩
  .exact h.elim
 .exact h.elim
def ZZ {env:Env} {a:Act} {o:Oper} {ao:GO} (ho:tK P o.op=some ao) (h:Fw P ao env Z k kp) (he:CY (Hh F Z w) env a.tmps) (hR:Rel F Z w) :
    Good P F Z w k kp ((execOp a.eval o).run P w):=by
 unfold tK at ho;split at ho
 rotate_left
 .cases ho
 rename_i c hop;split at ho
 rotate_left
 .cases ho
 rename_i x name hc;split at ho
 rotate_left
 .cases ho
 rename_i x' as hx has;cases ho;obtain⟨vx,h1,g⟩:=Ak h;obtain⟨vs,h2,g⟩:=Iu g;obtain⟨t,v,f,rfl,hf,g⟩:=gE g;obtain⟨cv,hcv,hvr⟩:=Ap he hx h1
 have hext:(#[Value.iface t cv]++c.args.map a.eval).extract 1 (#[Value.iface t cv]++c.args.map a.eval).size=c.args.map a.eval:=by
  apply Array.ext';simp[List.take_of_length_le]
 have h0:(#[Value.iface t cv]++c.args.map a.eval)[0]? =some (.iface t cv):=by rw[Array.getElem?_append_left (Nat.zero_lt_one)];rfl
 have hrun:(execOp a.eval o).run P w=(callFunc f (#[cv]++c.args.map a.eval)).run P w:=by
  unfold execOp;simp only[hop,resolve,hc,DU,FF,G9,invoke,hcv,h0,hext,callMethod];have hprog:(program).run P w= .ok P w:=rfl;simp only[hprog,G9,ZP (XJ hf)]
 rw[hrun];refine Q9 hR ?_ g;have:=I3 (H:=Hh F Z w) (vs:=[v]) (cs:= #[cv]) ⟨rfl,⟨cv,rfl,hvr⟩,trivial⟩ (Kc he has h2);simpa using this
def Zm {t u e:TypeId} {i:TypeInfo} (ty:TypeId) (ht:P.underlying t=some (.slice e)) (hi:P.info? e=some i) (hR:Rel F Z w) {vx vy:V} {cx cy:Value} (hx:Ah (Hh F Z w) vx cx) (hy:Ah (Hh F Z w) vy cy)
    (h:AX Z i.size vx vy k):Cl F Z w k kp ((Builtin.copy_ #[t,u] ty #[cx,cy]).run P w):=by
 have h':=Lt hR hy h;clear h;obtain⟨ys,base,c2,⟨hone,h⟩,rfl,hyl,hys⟩:=h'
 have main: ∀(n off len:Nat) (a:Option Addr) (cap:Nat),(len≠0->a=some ⟨n,off*i.size,none⟩)->QM Z i.size ys n off len k->Cl F Z w k kp ((Builtin.copy_ #[t,u] ty #[.slice a len cap,.slice base ys.length c2]).run P w):=fun n off len a cap ha hk=>by
  unfold QM at hk;split at hk
  .rename_i s es c hs
   obtain⟨rfl,hle,hk⟩:=hk;obtain⟨cur,et,h3,h4,h5,h6,h7⟩:=FL hR hs;have hsz:sizeOf e=(do pure (<-typeInfo e).size:Sem Nat):=rfl;have hmin:Nat.min ys.length len=min ys.length len:=rfl;have hmL:min ys.length len<=Aa:=by omega
   have hrng: ∀H,Ah H (.i .i64 (min ys.length len:Nat)) (goInt (min ys.length len:Nat)):=fun H=>⟨rfl,Iy hmL⟩
   by_cases h0:min ys.length len=0
   ·
    have hrun:(Builtin.copy_ #[t,u] ty #[.slice a len cap,.slice base ys.length c2]).run P w= .ok (goInt 0) w:=by
     have hm0:Nat.min ys.length len=0:=h0;cases a<;>cases base<;>simp[Builtin.copy_,run_underlying ht,sizeOf,typeInfo,hi,Builtin.lenOf,hm0,Builtin.firstCells,loadCells,loadCellsFrom,storeCells]
    rw[hrun];rw[h0]at hk;simp only[Nat.add_zero]at hk;have e1:es.take off++(ys.take 0++es.drop off)=es:=by simp
    rw[e1]at hk
    have e2:B7 Z n (.arr i.size es c)=Z:=by
     funext m;unfold B7;split
     .rename_i e;rw[e,hs]
     .rfl
    rw[e2]at hk;exact Aw hR hk ⟨rfl,Iy (n:=0) (by simp)⟩
   .obtain⟨b,o,g,rfl,hg,hrow⟩:=hys.resolve_left (fun e=>by rw[e]at h0;simp at h0)
    obtain rfl:=ha (by omega);obtain⟨news,h8,h9,h10⟩:=Kr (IW hrow (min ys.length len));have hcnt:(ys.take (min ys.length len)).length=min ys.length len:=by simp
    rw[hcnt]at h8;have hmul:(off+min ys.length len)*i.size<=c*i.size:=Vr _ (by omega);rw[Nat.add_mul]at hmul
    have hn1: ∀u∈news,u.oneCell'=true:=fun u hu=>by
     obtain⟨j,hj⟩:=List.mem_iff_getElem?.1 hu;have hlt:j<(ys.take (min ys.length len)).length*i.size:=by rw[hcnt,<-h8];exact(JL.1 hj).1
     obtain⟨h4,h5⟩:=VA hlt;obtain⟨h6,h7⟩:=BH.1 h10 (j / i.size) _ (Cs h4);obtain⟨c,hc,hr⟩:=Bj.1 h7 (j % i.size) _ (Cs (by omega));have hdm:=Nat.div_add_mod' j i.size;rw[show 0+j / i.size*i.size+j % i.size=j by omega,hj]at hc;cases hc;exact Qy hr (hone _ (List.mem_of_mem_take (List.getElem_mem h4)) _ (List.getElem_mem _))
    have hrunF:=run_firstCells_some (P:=P) w i.size (min ys.length len) ⟨b,o,none⟩ ys.length c2 news h8 (fun j v hv=>by rw[Cv];exact hg _ _ (h9 j v hv));have hst:=Cw (P:=P) news w cur (off*i.size) 0 h3 (by omega) hn1;simp only[Nat.add_zero]at hst
    have hrun:(Builtin.copy_ #[t,u] ty #[.slice (some ⟨n,off*i.size,none⟩) len cap,.slice (some ⟨b,o,none⟩) ys.length c2]).run P w= .ok (goInt (min ys.length len:Nat)) (Cf w n (.cells (C8 cur (off*i.size) news) et (0,0))):=by
     simp[Builtin.copy_,run_underlying ht,sizeOf,typeInfo,hi,Builtin.lenOf,hmin,hrunF,hst]
    rw[hrun];refine⟨_,_,hk,hrng _,KZ hR hs ⟨_,et,rfl,by rw[EF];exact h4,by simp;omega,by simp;omega,?_⟩,HV hs _ _⟩;have hol:off<=es.length:=by omega
    refine HX (Ev (IW h7 off) fun j hj=>?_) (HX (Ev h10 fun j hj=>?_) (Ev (OR h7 (off+min ys.length len)) fun j hj=>?_))
    .rw[Jl,Nat.min_eq_left hol]at hj
     exact DR _ _ _ _ (by omega)
    .rw[hcnt]at hj
     rw[Jl,Nat.min_eq_left hol];simp only[HG];exact Gh _ _ _ _ (by omega) (by omega)
    .rw[Jl,Nat.min_eq_left hol,hcnt,HG,HG,Nat.add_mul]
     exact DR _ _ _ _ (by omega)
  .exact hk.elim
 cases vx
 case sl n len cap=>
  obtain⟨rfl,_⟩:=hx;exact main n 0 len _ cap (fun _=>by simp) h
 case sv n s off len=>
  obtain⟨rfl,h⟩:=h;obtain⟨a,cap,rfl,_,h6⟩:=hx;exact main n off len a cap h6 h
 all_goals exact h.elim
def iE (P:Program):Op->Option GO
 | .call c=>match c.callee,c.args.toList,c.argTypes.toList with
   | .builtin .copy,[x,y],[t,_]=>match P.underlying t with
     | some (.slice e)=>match BY x,BY y,P.info? e with
       | some x,some y,some i=>some (.copy i.size x y)
       | _,_,_=>none
     | _=>none
   | _,_,_=>none
 | _=>none
def X6 {env:Env} {a:Act} {o:Oper} {ao:GO} (ho:iE P o.op=some ao) (h:Fw P ao env Z k kp) (he:CY (Hh F Z w) env a.tmps) (hR:Rel F Z w) :
    Good P F Z w k kp ((execOp a.eval o).run P w):=by
 unfold iE at ho;split at ho
 rotate_left
 .cases ho
 rename_i c hop;split at ho
 rotate_left
 .cases ho
 rename_i x y t u hc hargs htys;split at ho
 rotate_left
 .cases ho
 rename_i e hu;split at ho
 rotate_left
 .cases ho
 rename_i x' y' i hx hy hi;cases ho;obtain⟨vx,h1,g⟩:=Ak h;obtain⟨vy,h2,g⟩:=Ak g;have ea:c.args= #[x,y]:=by apply Array.ext';simpa using hargs
 have et:c.argTypes= #[t,u]:=by apply Array.ext';simpa using htys
 unfold execOp;simp only[hop,resolve,hc,ea,et,DU,FF,G9,invoke,builtin,List.map_toArray,FA,List.map_nil];exact Ew (Zm (P:=P) (kp:=kp) o.type hu hi hR (Ap he hx h1) (Ap he hy h2) g)
def gd (P:Program) (o:Op):Option GO:=match tI P o with|some a=>some a|none=>match tJ P o with|some a=>some a|none=>match tK P o with|some a=>some a|none=>iE P o
def ZW {env:Env} {a:Act} {o:Oper} {ao:GO} (ho:gd P o.op=some ao) (h:Fw P ao env Z k kp) (he:CY (Hh F Z w) env a.tmps) (hR:Rel F Z w) :
    Good P F Z w k kp ((execOp a.eval o).run P w):=by
 unfold gd at ho;split at ho
 .rename_i h';cases ho;exact ZX h' h he hR
 .split at ho
  .rename_i h';cases ho;exact ZY h' h he hR
  .split at ho
   .rename_i h';cases ho;exact ZZ h' h he hR
   .exact X6 ho h he hR
end Go.Gl
namespace Go.Gl
variable {P:Program} {F:Nat->Prop}
def emp:AE:=fun _=>none
def Pure (P:Program) (f:FuncId) (args:List V) (v:V):Prop:=Au P f args emp fun r Z'=>r= .ret v/\Z'=emp
def bB {w:World} (F:Nat->Prop) (h: ∀n,F n->n<w.heap.size):Rel F emp w:=⟨fun n o ho=>(by cases ho),h⟩
def Vb {Z:AE} {w w':World} {F':Nat->Prop} (h:CD F' emp w emp w'):CD F Z w Z w':=
 ⟨fun n hn _=>h.frame n hn rfl,h.size,h.os,h.tape,h.output,fun _ h0 _=>h0⟩
def TQ {Z:AE} {w w':World} {F':Nat->Prop} (hR:Rel F Z w) (h:CD F' emp w emp w'):Rel F Z w':=
 hR.step (Vb h) fun n _ hn=> .inl ⟨hn,h.frame n (hR.lt hn) rfl⟩
def Pure.use {f:FuncId} {args:List V} {v:V} (h:Pure P f args v) {Z:AE} {k kp:V->AE->Prop} (hk:k v Z):Au P f args Z (qk k kp):=by
 refine⟨h.1,fun F w cs hR hv=>?_⟩
 have hH: ∀w:World,(Hh (fun n=>F n\/Z n≠none) emp w)=Hh F Z w:=fun w=>by
  funext b o;unfold Hh;by_cases hb:F b\/(Z b).isSome=true
  .rw[if_pos hb,if_pos]
   rcases hb with hb|hb
   .exact .inl (.inl hb)
   .exact .inl (.inr (by intro e;rw[e]at hb;cases hb))
  .rw[if_neg hb,if_neg]
   rintro((h|h)|h)
   .exact hb (.inl h)
   .exact hb (.inr (by cases hs:Z b with|none=>exact absurd hs h|some o=>rfl))
   .cases h
 refine Calls.mono (h.2 (fun n=>F n\/Z n≠none) w cs (bB _ fun n hn=>?_) (by rw[hH];exact hv)) fun e w' ⟨r,Z',⟨hr,hs⟩,h1,h2,h3⟩=>?_
 .rcases hn with hn|hn
  .exact hR.lock n hn
  .cases hs:Z n with
   | none=>exact absurd hs hn
   | some o=>exact hR.lt hs
 .subst hr
  subst hs;rw[hH]at h1;exact⟨.ret v,Z,hk,h1,TQ hR h3,Vb h3⟩
def Au.mono {f:FuncId} {args:List V} {Z:AE} {Q Q':R->AE->Prop} (h:Au P f args Z Q) (hq: ∀r Z',Q r Z'->Q' r Z'):Au P f args Z Q':=
 ⟨h.1,fun F w cs hR hv=>Calls.mono (h.2 F w cs hR hv) fun _ _ ⟨r,Z',h1,h2⟩=>⟨r,Z',hq _ _ h1,h2⟩⟩
def Ny.mono {l:Nat} {args:List V} {Z:AE} {Q Q':R->AE->Prop} (h:Ny P l args Z Q) (hq: ∀r Z',Q r Z'->Q' r Z'):Ny P l args Z Q':=
 fun F w cs hR hv=>let⟨f,tmps,assign,body,h1,h2⟩:=h F w cs hR hv;⟨f,tmps,assign,body,h1,h2.mono fun e w' ⟨r,Z',h3,h4⟩=>⟨r,Z',hq _ _ h3,h4⟩⟩
def Ao.mono {x:V} {args:List V} {Z:AE} {Q Q':R->AE->Prop} (h:Ao P x args Z Q) (hq: ∀r Z',Q r Z'->Q' r Z'):Ao P x args Z Q':=by
 unfold Ao at *;split at h
 .exact Au.mono h hq
 .exact Ny.mono h hq
 .exact h.elim
def A0.mono {tab:List (TypeId×FuncId)} {x:V} {args:List V} {Z:AE} {Q Q':R->AE->Prop} (h:A0 P tab x args Z Q) (hq: ∀r Z',Q r Z'->Q' r Z'):A0 P tab x args Z Q':=by
 unfold A0 at *;split at h
 .split at h
  .exact Au.mono h hq
  .exact h.elim
 .exact h.elim
def rd:Bq->List Nat| .t n=>[n]| .c _=>[]
def rdO:Option Bq->List Nat|some x=>rd x|none=>[]
def gG (l:List Bq):List Nat:=l.flatMap rd
def reads:GO->List Nat
 | .mv x| .nf x| .not x| .neg _ x| .conv _ x| .box x| .Pa x| .load _ x| .GS _ x| .field _ _ x| .len x| .UT x| .str x| .extract _ x| .JU x| .O0 _ x| .gF _ _ _ x| .panic x| .gK _ _ x=>rd x
 | .pick a b c=>rd a++rd b++rd c
 | .Vy x y| .bin _ x y| .nk _ x y| .nj _ _ x y| .store _ x y| .MQ _ _ x y| .index _ _ _ x y| .append _ _ x y| .Sl _ _ x y| .copy _ x y| .V1 x y| .V0 x y| .GZ _ _ _ x y| .lookup _ _ _ x y=>rd x++rd y
 | .alloc _| .Oz=>[]
 | .build _ ps=>gG (ps.map fun p=>p.2.2)
 | .Hs _ _ _ ps=>gG (ps.map fun p=>p.2)
 | .slice _ x a b c=>rd x++rdO a++rdO b++rdO c
 | .gI _ a b=>gG a++gG b
 | .Em _ m k v=>rd m++rd k++rd v
 | .call _ as| .MW _ as=>gG as
 | .J7 x as| .ZC x as| .inv _ x as=>rd x++gG as
variable {env env':Env}
def AZ {x:Bq} (h: ∀s∈rd x,get s env'=get s env):ev env' x=ev env x:=by
 cases x with
 | t n=>exact h n (by simp[rd])
 | c v=>rfl
def Fq: ∀ {l:List Bq},(∀s∈gG l,get s env'=get s env)->Vu env' l=Vu env l
 | [],_=>rfl
 | x::r,h=>by
   simp only[gG,List.flatMap_cons,Dy]at h;simp only[Vu,AZ (fun s hs=>h s (.inl hs)),Fq (l:=r) (fun s hs=>h s (.inr hs))]
def KM {x:Option Bq} (h: ∀s∈rdO x,get s env'=get s env):IB env' x=IB env x:=by
 cases x with
 | none=>rfl
 | some x=>simp only[IB,AZ (x:=x) h]
def PK: ∀ {ps:List (Nat×Nat×Bq)} {cs:List V},(∀s∈gG (ps.map fun p=>p.2.2),get s env'=get s env)->LM env' cs ps=LM env cs ps
 | [],_,_=>rfl
 | (off,sz,x)::r,cs,h=>by
   simp only[gG,FA,List.flatMap_cons,Dy]at h;simp only[LM,AZ (fun s hs=>h s (.inl hs))];split<;>try rfl
   split<;>try rfl
   cases hb:(Nat.beq _ sz&&Nat.ble (off+sz) cs.length)<;>simp only[cond_true,cond_false]
   exact PK (ps:=r) fun s hs=>h s (.inr hs)
def PL {sz:Nat}: ∀ {ps:List (Nat×Bq)} {es:List (List V)},(∀s∈gG (ps.map fun p=>p.2),get s env'=get s env)->J4 env' sz es ps=J4 env sz es ps
 | [],_,_=>rfl
 | (i,x)::r,es,h=>by
   simp only[gG,FA,List.flatMap_cons,Dy]at h;simp only[J4,AZ (fun s hs=>h s (.inl hs))];split<;>try rfl
   split<;>try rfl
   cases hb:(Nat.beq _ sz&&Nat.blt i es.length)<;>simp only[cond_true,cond_false]
   exact PL (ps:=r) fun s hs=>h s (.inr hs)
def UF {o:GO} {Z:AE} {k kp:V->AE->Prop} (h: ∀s∈reads o,get s env'=get s env):Fw P o env' Z k kp=Fw P o env Z k kp:=by
 cases o<;>simp only[reads,Dy,or_imp,forall_and]at h<;>simp only[Fw]
 case mv x=>rw[AZ h]
 case nf x=>rw[AZ h]
 case pick a b c=>rw[AZ h.1.1,AZ h.1.2,AZ h.2]
 case bin op x y=>rw[AZ h.1,AZ h.2]
 case nk n x y=>rw[AZ h.1,AZ h.2]
 case nj q n x y=>rw[AZ h.1,AZ h.2]
 case gK q n x=>rw[AZ h]
 case lookup a b c x y=>rw[AZ h.1,AZ h.2]
 case Em a x y z=>rw[AZ h.1.1,AZ h.1.2,AZ h.2]
 case GZ a b c x y=>rw[AZ h.1,AZ h.2]
 case not x=>rw[AZ h]
 case neg n x=>rw[AZ h]
 case conv n x=>rw[AZ h]
 case box x=>rw[AZ h]
 case Pa x=>rw[AZ h]
 case Sl a b x y=>rw[AZ h.1,AZ h.2]
 case build z ps=>rw[PK h]
 case Hs a b c ps=>rw[PL h]
 case load a x=>rw[AZ h]
 case store a x y=>rw[AZ h.1,AZ h.2]
 case GS a x=>rw[AZ h]
 case field a b x=>rw[AZ h]
 case MQ a b x y=>rw[AZ h.1,AZ h.2]
 case index a b c x y=>rw[AZ h.1,AZ h.2]
 case slice s x a b c=>rw[AZ h.1.1.1,KM h.1.1.2,KM h.1.2,KM h.2]
 case len x=>rw[AZ h]
 case UT x=>rw[AZ h]
 case str x=>rw[AZ h]
 case Vy x y=>rw[AZ h.1,AZ h.2]
 case append a b x y=>rw[AZ h.1,AZ h.2]
 case copy a x y=>rw[AZ h.1,AZ h.2]
 case inv tab x as=>rw[AZ h.1,Fq h.2]
 case V1 x y=>rw[AZ h.1,AZ h.2]
 case V0 x y=>rw[AZ h.1,AZ h.2]
 case extract i x=>rw[AZ h]
 case JU x=>rw[AZ h]
 case gI f a b=>rw[Fq h.1,Fq h.2]
 case O0 t x=>rw[AZ h]
 case gF a b c x=>rw[AZ h]
 case panic x=>rw[AZ h]
 case call f as=>rw[Fq h]
 case MW f as=>rw[Fq h]
 case J7 x as=>rw[AZ h.1,Fq h.2]
end Go.Gl
namespace Go.Gl
variable {P:Program} {F:Nat->Prop} {env env':Env} {Z:AE}
def An (AD:(V->Prop)->Prop):Prop:= ∀k,AD k-> ∃v,k v/\ ∀k':V->Prop,k' v->AD k'
def An.one (v:V):An fun k=>k v:=fun _ h=>⟨v,h,fun _ h=>h⟩
def An.no:An fun _=>False:=fun _ h=>h.elim
def An.and {p:Prop} {AD:(V->Prop)->Prop} (h:An AD):An fun k=>p/\AD k:=fun k ⟨hp,hF⟩=>let⟨v,h1,h2⟩:=h k hF;⟨v,h1,fun k' hk=>⟨hp,h2 k' hk⟩⟩
def An.wv {o:Option V} {AD:V->(V->Prop)->Prop} (h: ∀v,An (AD v)):An fun k=>wv o fun v=>AD v k:=by
 cases o with
 | none=>exact An.no
 | some v=>exact h v
def An.ws {o:Option (List V)} {AD:List V->(V->Prop)->Prop} (h: ∀v,An (AD v)):An fun k=>ws o fun v=>AD v k:=by
 cases o with
 | none=>exact An.no
 | some v=>exact h v
def An.wr {o:Option (List (List V))} {AD:List (List V)->(V->Prop)->Prop} (h: ∀v,An (AD v)):An fun k=>wr o fun v=>AD v k:=by
 cases o with
 | none=>exact An.no
 | some v=>exact h v
def An.wo {o:Option (Option V)} {AD:Option V->(V->Prop)->Prop} (h: ∀v,An (AD v)):An fun k=>wo o fun v=>AD v k:=by
 cases o with
 | none=>exact An.no
 | some v=>exact h v
def ma (op:BinOp) (x y:V):An (V4 op x y):=by
 unfold V4;cases x<;>cases y<;>first|exact An.no|skip
 cases op<;>simp only<;>first|exact(An.one _).and|exact(An.one _).and.and
def Mp (agg:Option Nat) (cs:List V) (off:Nat):An (cut agg cs off):=by
 unfold cut;cases agg with
 | none=>cases cs[off]? with
   | none=>exact An.no
   | some v=>exact An.one _
 | some n=>exact(An.one _).and
def fY (Z:AE) (agg:Option Nat) (x:V):An (AU Z agg x):=by
 unfold AU QW QX;cases x<;>first|exact An.no|skip
 case p n off=>
  simp only;cases Z n with
  | none=>exact An.no
  | some o=>cases o<;>first|exact An.no|exact Mp _ _ _
 case rp cs=>exact Mp _ _ _
 case pe n sz i off=>
  simp only;cases Z n with
  | none=>exact An.no
  | some o=>
    cases o<;>first|exact An.no|skip
    simp only;refine An.and ?_;rename_i es _;cases es[i]? with
    | none=>exact An.no
    | some e=>exact Mp _ _ _
def ed {Z Z':AE} (hs:Sub Z Z') {agg:Option Nat} {x:V} {k:V->Prop} (h:AU Z agg x k):AU Z' agg x k:=by
 unfold AU QW QX at *;cases x<;>first|exact h|skip
 case p n off=>
  simp only at *;cases hn:Z n with
  | none=>rw[hn]at h;exact h.elim
  | some o=>rw[hs n o hn];rw[hn]at h;exact h
 case pe n sz i off=>
  simp only at *;cases hn:Z n with
  | none=>rw[hn]at h;exact h.elim
  | some o=>rw[hs n o hn];rw[hn]at h;exact h
def Z3 (off:Nat) (x:V):An (Lk off x):=by
 unfold Lk;cases x<;>first|exact An.no|exact An.one _
def Z2 (sz:Nat) (arr:Option Nat) (x i:V):An (AR sz arr x i):=by
 unfold AR;cases i<;>first|exact An.no|skip
 cases arr<;>cases x<;>first|exact An.no|exact(An.one _).and.and|exact(An.one _).and.and.and|skip
 intro k ⟨h0,e,h1,h2,h3⟩;exact⟨_,h3,fun k' hk=>⟨h0,e,h1,h2,hk⟩⟩
def Z1 (len sz:Nat) (agg:Option Nat) (x i:V):An (Lj len sz agg x i):=by
 unfold Lj;cases x<;>first|exact An.no|skip
 cases i<;>first|exact An.no|skip
 exact(Mp _ _ _).and.and
def fX (x i:V):An (Qa x i):=by
 unfold Qa;cases x<;>first|exact An.no|skip
 cases i<;>first|exact An.no|skip
 refine An.and ?_;rename_i b _ j;cases b.data.toList[j.toNat]? with
 | none=>exact An.no
 | some c=>exact An.one _
def mZ (x:V):An (Ay x):=by
 unfold Ay;cases x<;>first|exact An.no|exact An.one _|exact(An.one _).and
def fZ (Z:AE) (x:V):An (LK Z x):=by
 unfold LK;cases x<;>first|exact An.no|exact An.one _|skip
 case m n=>
  simp only;cases Z n with
  | none=>exact An.no
  | some o=>cases o<;>first|exact An.no|exact(An.one _).and
def ee {Z Z':AE} (hs:Sub Z Z') {x:V} {k:V->Prop} (h:LK Z x k):LK Z' x k:=by
 unfold LK at *;cases x<;>first|exact h|skip
 case m n=>
  simp only at *;cases hn:Z n with
  | none=>rw[hn]at h;exact h.elim
  | some o=>rw[hs n o hn];rw[hn]at h;exact h
def Kf {o:Option V} {d:Int} {k:Int->Prop} (h:Ow o d k): ∃v,k v/\ ∀k':Int->Prop,k' v->Ow o d k':=by
 unfold Ow at *;split at h
 .exact⟨_,h,fun _ h=>h⟩
 .exact⟨_,h,fun _ h=>h⟩
 .exact h.elim
def Z0 {sz:Nat} {x:V} {a b:Option V} {k:V->AE->Prop} (h:AQ Z sz x a b none k): ∃v,k v Z/\ ∀Z' (k':V->AE->Prop),k' v Z'->AQ Z' sz x a b none k':=by
 unfold AQ at *;cases x<;>first|exact h.elim|skip
 .simp only at *
  obtain⟨h0,h⟩:=h;obtain⟨hh,h,g1⟩:=Kf h;obtain⟨l,h,g2⟩:=Kf h;exact⟨_,h.2.2.2,fun Z' k' hk=>⟨h0,g1 _ (g2 _ ⟨h.1,h.2.1,h.2.2.1,hk⟩)⟩⟩
 .simp only at *
  obtain⟨hh,h,g1⟩:=Kf h;obtain⟨l,h,g2⟩:=Kf h;exact⟨_,h.2.2.2,fun Z' k' hk=>g1 _ (g2 _ ⟨h.1,h.2.1,h.2.2.1,hk⟩)⟩
 .simp only at *
  obtain⟨hh,h,g1⟩:=Kf h;obtain⟨l,h,g2⟩:=Kf h;exact⟨_,h.2.2.2.2.2,fun Z' k' hk=>g1 _ (g2 _ ⟨h.1,h.2.1,h.2.2.1,h.2.2.2.1,trivial,hk⟩)⟩
def Rh {sz:Nat} {y:V} {k:List (List V)->Prop} (h:rowsOf Z sz y k): ∃ys,k ys/\ ∀Z' (k':List (List V)->Prop),Sub Z Z'->k' ys->rowsOf Z' sz y k':=by
 unfold rowsOf at *;cases y<;>first|exact h.elim|skip
 .exact⟨_,h.2,fun _ _ _ hk=>⟨h.1,hk⟩⟩
 .rename_i m len cap
  simp only at *;cases hm:Z m with
  | none=>rw[hm]at h;exact h.elim
  | some o=>
    rw[hm]at h;cases o<;>first|exact h.elim|skip
    exact⟨_,h.2.2,fun Z' k' hs hk=>by rw[hs m _ hm];exact⟨h.1,h.2.1,hk⟩⟩
 .rename_i m s off len
  simp only at *;cases hm:Z m with
  | none=>rw[hm]at h;exact h.elim
  | some o=>
    rw[hm]at h;cases o<;>first|exact h.elim|skip
    exact⟨_,h.2.2.2,fun Z' k' hs hk=>by rw[hs m _ hm];exact⟨h.1,h.2.1,h.2.2.1,hk⟩⟩
def mD {x:V} {k:V->Prop} (h:gm Z x k): ∃v,k v/\ ∀Z' (k':V->Prop),Sub Z Z'->k' v->gm Z' x k':=by
 obtain⟨ys,h1,h2⟩:=Rh h;cases hn:Fk ys with
 | none=>rw[hn]at h1;exact h1.elim
 | some ns=>
   rw[hn]at h1;exact⟨_,h1,fun Z' k' hs hk=>h2 Z' _ hs (by rw[hn];exact hk)⟩
def fe {b sz:Nat} {x y:V} {k:V->Prop} (h:AY b Z sz x y k): ∃v,k v/\ ∀Z' (k':V->Prop),Sub Z Z'->k' v->AY b Z' sz x y k':=by
 unfold AY at *;obtain⟨ys,⟨h1,h2⟩,h3⟩:=Rh h;cases x<;>first|exact h2.elim|skip
 exact⟨_,h2.2.2.2,fun Z' k' hs hk=>h3 Z' _ hs ⟨h1,h2.1,h2.2.1,h2.2.2.1,hk⟩⟩
def YR {ks:KS} {z:V} {ok:Bool} {vm vk:V} {k:V->Prop} (h:AM Z ks z ok vm vk k): ∃v,k v/\ ∀Z' (k':V->Prop),Sub Z Z'->k' v->AM Z' ks z ok vm vk k':=by
 unfold AM at *;obtain⟨h0,h⟩:=h;cases vm<;>first|exact h.elim|skip
 .rename_i n
  simp only at *;cases hn:Z n with
  | none=>rw[hn]at h;exact h.elim
  | some o=>
    rw[hn]at h;cases o<;>first|exact h.elim|skip
    exact⟨_,h.2,fun Z' k' hs hk=>⟨h0,by rw[hs n _ hn];exact⟨h.1,hk⟩⟩⟩
 .exact⟨_,h,fun Z' k' hs hk=>⟨h0,hk⟩⟩
inductive Kd where
 | P|N|A|AA|H
 deriving DecidableEq,Repr
def kd:GO->Kd
 | .load _ _=> .N
 | .UT _=> .N
 | .str _=> .N
 | .Sl _ _ _ _=> .N
 | .box _=> .A
 | .append _ _ x _=>match x with| .c (.l [] true)=> .A|_=> .H
 | .alloc _=> .AA
 | .slice _ _ _ _ mx=>match mx with|none=> .N|some _=> .H
 | .store _ _ _| .copy _ _ _| .Em _ _ _ _| .panic _| .call _ _| .J7 _ _| .ZC _ _| .inv _ _ _| .Oz| .GZ _ _ _ _ _| .gK _ _ _| .nf _=> .H
 | .lookup _ _ _ _ _=> .N
 | _=> .P
def AA9 {o:GO} (hk:kd o= .P): ∃AD:(V->Prop)->Prop,An AD/\ ∀Z (k kp:V->AE->Prop),Fw P o env Z k kp=AD (fun v=>k v Z):=by
 cases o<;>first|(simp[kd]at hk;done)|skip
 case mv x=>exact⟨fun k=>wv (ev env x) k,An.wv fun v=>An.one v,fun _ _ _=>rfl⟩
 case pick c a b=>
  refine⟨fun k=>wv (ev env c) fun vc=>wv (ev env a) fun va=>wv (ev env b) fun vb=>match vc with| .b t=>(match va,vb with| .b x,.b y=>k (.b (bif t then x else y))|_,_=>k (bif t then va else vb))|_=>False,?_,fun _ _ _=>rfl⟩;refine An.wv fun vc=>An.wv fun va=>An.wv fun vb=>?_
  cases vc<;>first|exact An.no|skip
  cases va<;>first|exact An.one _|skip
  cases vb<;>exact An.one _
 case bin op x y=>exact⟨fun k=>wv (ev env x) fun vx=>wv (ev env y) fun vy=>V4 op vx vy k,An.wv fun _=>An.wv fun _=>ma _ _ _,fun _ _ _=>rfl⟩
 case nk n x y=>
  refine⟨fun k=>wv (ev env x) fun vx=>wv (ev env y) fun vy=>match vx,vy with| .b p,.b q=>k (.b (bif n then p != q else p==q))|_,_=>False,?_,fun _ _ _=>rfl⟩;refine An.wv fun vx=>An.wv fun vy=>?_
  cases vx<;>cases vy<;>first|exact An.no|exact An.one _
 case nj q n x y=>
  refine⟨fun k=>wv (ev env x) fun vx=>wv (ev env y) fun vy=>UU q n vx vy k,An.wv fun vx=>An.wv fun vy=>?_,fun _ _ _=>rfl⟩;unfold UU;cases vx<;>first|exact An.no|skip
  cases vy<;>first|exact An.no|skip
  simp only;split<;>first|exact An.no|exact An.one _
 case not x=>
  refine⟨fun k=>wv (ev env x) fun vx=>match vx with| .b p=>k (.b (!p))|_=>False,An.wv fun vx=>?_,fun _ _ _=>rfl⟩;cases vx<;>first|exact An.no|exact An.one _
 case neg xor x=>
  refine⟨fun k=>wv (ev env x) fun vx=>match vx with| .i ka a=>k (.i ka (bif xor then bits .xor ka (bif ka.signed then -1 else ka.max) a else ka.wrap (0 - a)))|_=>False,An.wv fun vx=>?_,fun _ _ _=>rfl⟩;cases vx<;>first|exact An.no|exact An.one _
 case conv ka x=>
  refine⟨fun k=>wv (ev env x) fun vx=>match vx with| .i _ a=>k (.i ka (ka.wrap a))|_=>False,An.wv fun vx=>?_,fun _ _ _=>rfl⟩;cases vx<;>first|exact An.no|exact An.one _
 case Pa x=>
  refine⟨fun k=>wv (ev env x) fun vx=>match cellsOf vx with|some cs=>k (.rp cs)|none=>False,An.wv fun vx=>?_,fun _ _ _=>rfl⟩;cases cellsOf vx<;>first|exact An.no|exact An.one _
 case build z ps=>exact⟨fun k=>ws (LM env z ps) fun cs=>k (.a cs),An.ws fun _=>An.one _,fun _ _ _=>rfl⟩
 case Hs sz len z ps=>exact⟨fun k=>wr (J4 env z.length (List.replicate len z) ps) fun es=>k (.l es true),An.wr fun _=>An.one _,fun _ _ _=>rfl⟩
 case GS off x=>exact⟨fun k=>wv (ev env x) fun vx=>Lk off vx k,An.wv fun _=>Z3 _ _,fun _ _ _=>rfl⟩
 case field agg off x=>
  refine⟨fun k=>wv (ev env x) fun vx=>match vx with| .a cs=>cut agg cs off k|_=>False,An.wv fun vx=>?_,fun _ _ _=>rfl⟩;cases vx<;>first|exact An.no|exact Mp _ _ _
 case MQ sz arr x i=>exact⟨fun k=>wv (ev env x) fun vx=>wv (ev env i) fun vi=>AR sz arr vx vi k,An.wv fun _=>An.wv fun _=>Z2 _ _ _ _,fun _ _ _=>rfl⟩
 case Vy x i=>exact⟨fun k=>wv (ev env x) fun vx=>wv (ev env i) fun vi=>Qa vx vi k,An.wv fun _=>An.wv fun _=>fX _ _,fun _ _ _=>rfl⟩
 case index len sz agg x i=>exact⟨fun k=>wv (ev env x) fun vx=>wv (ev env i) fun vi=>Lj len sz agg vx vi k,An.wv fun _=>An.wv fun _=>Z1 _ _ _ _ _,fun _ _ _=>rfl⟩
 case len x=>exact⟨fun k=>wv (ev env x) fun vx=>Ay vx k,An.wv fun _=>mZ _,fun _ _ _=>rfl⟩
 case V1 x y=>
  refine⟨fun k=>wv (ev env x) fun vx=>wv (ev env y) fun vy=>match vx,vy with| .i ka a,.i kb b=>ka=kb/\k (.i ka (if b > a then b else a))|_,_=>False,?_,fun _ _ _=>rfl⟩;refine An.wv fun vx=>An.wv fun vy=>?_
  cases vx<;>cases vy<;>first|exact An.no|exact(An.one _).and
 case V0 x y=>
  refine⟨fun k=>wv (ev env x) fun vx=>wv (ev env y) fun vy=>match vx,vy with| .i ka a,.i kb b=>ka=kb/\k (.i ka (if b<a then b else a))|_,_=>False,?_,fun _ _ _=>rfl⟩;refine An.wv fun vx=>An.wv fun vy=>?_
  cases vx<;>cases vy<;>first|exact An.no|exact(An.one _).and
 case extract i x=>
  refine⟨fun k=>wv (ev env x) fun vx=>match vx with| .t vs=>(match vs[i]? with|some v=>k v|none=>False)|_=>False,An.wv fun vx=>?_,fun _ _ _=>rfl⟩;cases vx<;>first|exact An.no|skip
  rename_i vs;simp only;cases vs[i]? <;>first|exact An.no|exact An.one _
 case JU x=>
  refine⟨fun k=>wv (ev env x) fun vx=>match vx with
   | .p n off=>k (.p n off)
   | .rp cs=>k (.rp cs)
   | .pe n sz i off=>k (.pe n sz i off)
   | .f (.func f) first cap=>k (.f (.func f) first cap)
   | .f (.yield l) first cap=>k (.f (.yield l) first cap)
   | _=>False,An.wv fun vx=>?_,fun _ _ _=>rfl⟩
  cases vx<;>first|exact An.no|exact An.one _|skip
  rename_i f a b;cases f<;>first|exact An.no|exact An.one _
 case gI f a b=>exact⟨fun k=>ws (Vu env a) fun vf=>ws (Vu env b) fun vc=>k (.f f vf vc),An.ws fun _=>An.ws fun _=>An.one _,fun _ _ _=>rfl⟩
 case O0 t x=>exact⟨fun k=>wv (ev env x) fun vx=>k (.FV t vx),An.wv fun _=>An.one _,fun _ _ _=>rfl⟩
 case gF t z ok x=>
  refine⟨fun k=>wv (ev env x) fun vx=>match vx with
   | .FV t' v=>(t'=t->k (bif ok then .t [v,.b true]else v))/\(t'≠t->ok=true/\k (.t [z,.b false]))
   | .D0=>ok=true/\k (.t [z,.b false])
   | _=>False,An.wv fun vx=>?_,fun _ _ _=>rfl⟩
  cases vx<;>first|exact An.no|exact(An.one _).and|skip
  rename_i t' v;simp only;by_cases ht:t'=t
  .simpa[ht]using An.one _
  .simpa[ht]using(An.one (.t [z,.b false])).and
 case MW f as=>
  refine⟨fun k=>ws (Vu env as) fun vs=> ∃v,Au P f vs (fun _=>none) (fun r Z'=>r= .ret v/\Z'=fun _=>none)/\k v,An.ws fun vs=>?_,fun _ _ _=>rfl⟩;intro k ⟨v,h1,h2⟩;exact⟨v,h2,fun k' hk=>⟨v,h1,hk⟩⟩
 case slice s x a b c=>
  exfalso;simp only[kd]at hk;split at hk<;>cases hk
 case append a b x y=>
  exfalso;simp only[kd]at hk;split at hk<;>cases hk
 all_goals exact⟨fun _=>False,An.no,fun _ _ _=>rfl⟩
def still (o:GO):Bool:=match kd o with| .P=>true| .N=>true|_=>false
def Ib {o : GO} (hs:still o=true) {k kp:V->AE->Prop} (h:Fw P o env Z k kp) :
    ∃v,k v Z/\ ∀Z' (k' kp':V->AE->Prop),(kd o= .P\/Sub Z Z')->k' v Z'->Fw P o env Z' k' kp':=by
 unfold still at hs;cases hk:kd o<;>rw[hk]at hs<;>first|(cases hs;done)|skip
 .obtain⟨AD,h1,h2⟩:=AA9 (P:=P) (env:=env) hk
  rw[h2]at h;obtain⟨v,h3,h4⟩:=h1 _ h;exact⟨v,h3,fun Z' k' kp' _ hv=>by rw[h2];exact h4 _ hv⟩
 .cases o <;>first|(simp[kd]at hk;done)|skip
  case load agg x=>
   simp only[Fw]at *;cases hx:ev env x with
   | none=>rw[hx]at h;exact h.elim
   | some vx=>
     rw[hx]at h;obtain⟨v,h3,h4⟩:=fY Z agg vx _ h;refine⟨v,h3,fun Z' k' kp' hs hv=>ed (hs.resolve_left (by simp)) (h4 _ hv)⟩
  case UT x=>
   simp only[Fw]at *;cases hx:ev env x with
   | none=>rw[hx]at h;exact h.elim
   | some vx=>
     rw[hx]at h
     try simp only[FJ]at h ⊢
     obtain⟨v,h3,h4⟩:=fZ Z vx _ h;refine⟨v,h3,fun Z' k' kp' hs hv=>ee (hs.resolve_left (by simp)) (h4 _ hv)⟩
  case str x=>
   simp only[Fw]at *;cases hx:ev env x with
   | none=>rw[hx]at h;exact h.elim
   | some vx=>
     rw[hx]at h
     try simp only[FJ]at h ⊢
     obtain⟨v,h3,h4⟩:=mD h;exact⟨v,h3,fun Z' k' kp' hs hv=>h4 _ _ (hs.resolve_left (by simp)) hv⟩
  case lookup ks z ok x y=>
   simp only[Fw]at *;cases hx:ev env x with
   | none=>rw[hx]at h;exact h.elim
   | some vx=>
     rw[hx]at h
     try simp only[FJ]at h ⊢
     cases hy:ev env y with
     | none=>rw[hy]at h;exact h.elim
     | some vy=>
       rw[hy]at h
       try simp only[FJ]at h ⊢
       obtain⟨v,h1,h2⟩:=YR h;exact⟨v,h1,fun Z' k' kp' hs hk'=>h2 Z' _ (hs.resolve_left (by simp)) hk'⟩
  case Sl a b x y=>
   simp only[Fw]at *;cases hx:ev env x with
   | none=>rw[hx]at h;exact h.elim
   | some vx=>
     rw[hx]at h
     try simp only[FJ]at h ⊢
     cases hy:ev env y with
     | none=>rw[hy]at h;exact h.elim
     | some vy=>
       rw[hy]at h
       try simp only[FJ]at h ⊢
       obtain⟨v,h1,h2⟩:=fe h;exact⟨v,h1,fun Z' k' kp' hs hk'=>h2 Z' _ (hs.resolve_left (by simp)) hk'⟩
  case slice s x a b c=>
   cases c with
   | some c=>simp[kd]at hk
   | none=>
     simp only[Fw]at *;cases hx:ev env x with
     | none=>rw[hx]at h;exact h.elim
     | some vx=>
       rw[hx]at h
       try simp only[FJ]at h ⊢
       cases ha:IB env a with
       | none=>rw[ha]at h;exact h.elim
       | some va=>
         rw[ha]at h
         try simp only[aZ]at h ⊢
         cases hb:IB env b with
         | none=>rw[hb]at h;exact h.elim
         | some vb=>
           rw[hb]at h;simp only[aZ,IB]at h ⊢;obtain⟨v,h1,h2⟩:=Z0 h;exact⟨v,h1,fun Z' k' kp' _ hk'=>h2 Z' k' hk'⟩
  case append a b x y=>
   exfalso;simp only[kd]at hk;split at hk<;>cases hk
end Go.Gl
namespace Go.Gl
variable {P:Program} {F:Nat->Prop} {Z:AE}
def HH (Z:AE) (D:Nat->Prop):AE:=fun n=>open Classical in if D n then Z n else none
def Dd {D:Nat->Prop} {n:Nat} (h:D n):HH Z D n=Z n:=by unfold HH;rw[if_pos h]
def Dj {D:Nat->Prop} {n:Nat} (h: ¬D n):HH Z D n=none:=by unfold HH;rw[if_neg h]
def join (Z τ:AE):AE:=fun n=>match Z n with|some o=>some o|none=>τ n
def Au.frame {f:FuncId} {args:List V} {Q:R->AE->Prop} (D:Nat->Prop) (h:Au P f args (HH Z D) Q) :
    Au P f args Z fun r Z'=> ∃Z1,Q r Z1/\(∀n,¬D n->Z n≠none->Z1 n=none)/\Z'=join Z1 (HH Z fun n=> ¬D n):=by
 refine⟨h.1,fun F w cs hR hv=>?_⟩
 have hH:(Hh (fun n=>F n\/(¬D n/\Z n≠none)) (HH Z D) w)=Hh F Z w:=by
  funext b o;unfold Hh;by_cases hb:F b\/(Z b).isSome=true
  .rw[if_pos hb,if_pos]
   rcases hb with hb|hb
   .exact .inl (.inl hb)
   .by_cases hd:D b
    .exact .inr (by rw[Dd hd];exact hb)
    .exact .inl (.inr ⟨hd,by intro e;rw[e]at hb;cases hb⟩)
  .rw[if_neg hb,if_neg]
   rintro((h|h)|h)
   .exact hb (.inl h)
   .exact hb (.inr (by cases hs:Z b with|none=>exact absurd hs h.2|some o=>rfl))
   .by_cases hd:D b
    .rw[Dd hd]at h;exact hb (.inr h)
    .rw[Dj hd]at h;cases h
 have hR1:Rel (fun n=>F n\/(¬D n/\Z n≠none)) (HH Z D) w:=by
  refine⟨fun n o ho=>?_,fun n hn=>?_⟩
  .by_cases hd:D n
   .rw[Dd hd]at ho
    obtain⟨h1,ob,h2,h3⟩:=hR.own n o ho;refine⟨?_,ob,h2,by rw[hH];exact h3⟩;rintro(h|h)
    .exact h1 h
    .exact h.1 hd
   .rw[Dj hd]at ho;cases ho
  .rcases hn with hn|hn
   .exact hR.lock n hn
   .cases hs:Z n with
    | none=>exact absurd hs hn.2
    | some o=>exact hR.lt hs
 refine Calls.mono (h.2 _ w cs hR1 (by rw[hH];exact hv)) fun e w' ⟨r,Z1,hq,h1,h2,h3⟩=>?_
 have hfr: ∀n,¬D n->Z n≠none->Z1 n=none:=fun n hd hn=>by
  cases hs:Z1 n with
  | none=>rfl
  | some o=>exact absurd (.inr ⟨hd,hn⟩) (h2.own n o hs).1
 have hle:aH (Hh (fun n=>F n\/(¬D n/\Z n≠none)) Z1 w') (Hh F (join Z1 (HH Z fun n=> ¬D n)) w'):=by
  intro b o c hc;obtain⟨k1,k2,k3⟩:=Ga hc;rw[O6 (fun h=>k1 (.inl h)) ?_]
  .exact k3
  .simp only[join,k2]
   by_cases hd:D b
   .exact Dj (fun h=>h hd)
   .rw[Dd hd]
    cases hs:Z b with
    | none=>rfl
    | some o=>exact absurd (.inr ⟨hd,by rw[hs];simp⟩) k1
 have hA:CD F Z w (join Z1 (HH Z fun n=> ¬D n)) w':=by
  refine⟨fun n hn h0=>h3.frame n hn ?_,h3.size,h3.os,h3.tape,h3.output,fun n h0 hn=>?_⟩
  .by_cases hd:D n
   .rw[Dd hd];exact h0
   .exact Dj hd
  .have:Z1 n=none:=h3.names n (by
    by_cases hd:D n
    .rw[Dd hd];exact h0
    .exact Dj hd) hn
   simp only[join,this];by_cases hd:D n
   .exact Dj (fun h=>h hd)
   .rw[Dd hd];exact h0
 refine⟨r,_,⟨Z1,hq,hfr,rfl⟩,?_,⟨fun n o ho=>?_,fun n hn=>h2.lock n (.inl hn)⟩,hA⟩
 .cases r with
  | ret v=>obtain⟨c,rfl,hv⟩:=h1;exact⟨c,rfl,hv.mono hle⟩
  | Bk v=>obtain⟨c,rfl,hv⟩:=h1;exact⟨c,rfl,hv.mono hle⟩
 .simp only[join]at ho
  cases hs:Z1 n with
  | some o1=>
    rw[hs]at ho;simp only[JM]at ho;subst ho;obtain⟨k1,ob,k2,k3⟩:=h2.own n _ hs;exact⟨fun h=>k1 (.inl h),ob,k2,k3.mono hle⟩
  | none=>
    rw[hs]at ho;simp only at ho;by_cases hd:D n
    .rw[Dj (fun h=>h hd)]at ho;cases ho
    .rw[Dd hd]at ho
     obtain⟨k1,ob,k2,k3⟩:=hR.own n o ho;refine⟨k1,ob,(h3.frame n (hR.lt ho) (Dj hd)).trans k2,k3.mono ?_⟩;exact hA.hle
end Go.Gl
namespace Go.Gl
variable {P:Program} {F:Nat->Prop} {env env':Env} {Z:AE}
def Bw {o:Option V} {k k':V->Prop} (h:wv o k) (hm: ∀v,k v->k' v):wv o k':=by
 cases o with
 | none=>exact h
 | some v=>exact hm v h
def Ma {o:Option (List V)} {k k':List V->Prop} (h:ws o k) (hm: ∀v,k v->k' v):ws o k':=by
 cases o with
 | none=>exact h
 | some v=>exact hm v h
def U2 {o:Option (Option V)} {k k':Option V->Prop} (h:wo o k) (hm: ∀v,k v->k' v):wo o k':=by
 cases o with
 | none=>exact h
 | some v=>exact hm v h
def YF {sz:Nat} {a x:V} {k k':AE->Prop} (h:AS Z sz a x k) (hm: ∀Z',k Z'->k' Z'):AS Z sz a x k':=by
 unfold AS at *;split at h
 .rename_i vc hc
  obtain⟨h1,h2,h3⟩:=h;refine⟨h1,h2,?_⟩;cases a<;>first|exact h3.elim|skip
  .simp only at *
   split at h3
   .exact⟨h3.1,hm _ h3.2⟩
   .exact h3.elim
  .simp only at *
   split at h3
   .refine⟨h3.1,?_⟩
    have h4:=h3.2;split at h4
    .exact⟨h4.1,hm _ h4.2⟩
    .exact h4.elim
   .exact h3.elim
 .exact h.elim
def E7 {sz:Nat} {y:V} {k k':List (List V)->Prop} (h:rowsOf Z sz y k) (hm: ∀v,k v->k' v):rowsOf Z sz y k':=by
 unfold rowsOf at *;cases y<;>first|exact h.elim|skip
 .exact⟨h.1,hm _ h.2⟩
 .simp only at *
  split at h
  .exact⟨h.1,h.2.1,hm _ h.2.2⟩
  .exact h.elim
 .simp only at *
  split at h
  .exact⟨h.1,h.2.1,h.2.2.1,hm _ h.2.2.2⟩
  .exact h.elim
def NX {b sz:Nat} {x y:V} {k k':V->AE->Prop} (h:AK b Z sz x y k) (hm: ∀v Z',k v Z'->k' v Z'):AK b Z sz x y k':=by
 unfold AK at *;refine E7 h fun ys ⟨h1,h2⟩=>⟨h1,?_⟩
 cases x<;>first|exact h2.elim|skip
 .simp only at *
  exact⟨h2.1,h2.2.1,fun e=>hm _ _ (h2.2.2.1 e),fun e=>⟨(h2.2.2.2 e).1,fun n cap h3 h4=>hm _ _ ((h2.2.2.2 e).2 n cap h3 h4)⟩⟩
 .simp only at *
  split at h2
  .exact⟨h2.1,h2.2.1,h2.2.2.1,h2.2.2.2.1,fun n cap h3 h4=>hm _ _ (h2.2.2.2.2 n cap h3 h4)⟩
  .exact h2.elim
def IT {o:Option V} {d:Int} {k k':Int->Prop} (h:Ow o d k) (hm: ∀v,k v->k' v):Ow o d k':=by
 unfold Ow at *;split at h
 .exact hm _ h
 .exact hm _ h
 .exact h.elim
def YH {sz:Nat} {x:V} {a b c:Option V} {k k':V->AE->Prop} (h:AQ Z sz x a b c k) (hm: ∀v Z',k v Z'->k' v Z'):AQ Z sz x a b c k':=by
 unfold AQ at *;cases x<;>first|exact h.elim|skip
 .simp only at *
  refine⟨h.1,IT h.2 fun hh h2=>IT h2 fun l h3=>⟨h3.1,h3.2.1,h3.2.2.1,?_⟩⟩;have h4:=h3.2.2.2;split at h4
  .exact hm _ _ h4
  .exact⟨h4.1,hm _ _ h4.2⟩
  .exact h4.elim
 .simp only at *
  refine IT h fun hh h2=>IT h2 fun l h3=>⟨h3.1,h3.2.1,h3.2.2.1,?_⟩
  have h4:=h3.2.2.2;split at h4
  .exact hm _ _ h4
  .refine⟨h4.1,h4.2.1,h4.2.2.1,?_⟩
   have h5:=h4.2.2.2;split at h5
   .exact⟨h5.1,h5.2.1,h5.2.2.1,h5.2.2.2.elim (fun h=> .inl (hm _ _ h)) fun h=> .inr (hm _ _ h)⟩
   .exact h5.elim
  .exact h4.elim
 .simp only at *
  exact IT h fun hh h2=>IT h2 fun l h3=>⟨h3.1,h3.2.1,h3.2.2.1,h3.2.2.2.1,h3.2.2.2.2.1,hm _ _ h3.2.2.2.2.2⟩
def Tg {sz:Nat} {ys:List (List V)} {n off len:Nat} {k k':V->AE->Prop} (h:QM Z sz ys n off len k) (hm: ∀v Z',k v Z'->k' v Z'):QM Z sz ys n off len k':=by
 unfold QM at *;split at h
 .exact⟨h.1,h.2.1,hm _ _ h.2.2⟩
 .exact h.elim
def Zg {sz:Nat} {x y:V} {k k':V->AE->Prop} (h:AX Z sz x y k) (hm: ∀v Z',k v Z'->k' v Z'):AX Z sz x y k':=by
 refine E7 h fun ys h=>⟨h.1,?_⟩
 have h:=h.2;split at h
 .exact Tg h hm
 .exact⟨h.1,Tg h.2 hm⟩
 .exact h.elim
def RX {o:GO} {k k' kp kp':V->AE->Prop} (h:Fw P o env Z k kp) (hm: ∀v Z',k v Z'->k' v Z') (hp: ∀v Z',kp v Z'->kp' v Z'):Fw P o env Z k' kp':=by
 by_cases hs:still o=true
 .obtain⟨v,h1,h2⟩:=Ib hs h
  exact h2 Z k' kp' (.inr fun _ _ h=>h) (hm _ _ h1)
 .cases o<;>first|(exact absurd rfl hs)|skip
  all_goals simp only[Fw]at *
  case box x=>
   refine Bw h fun v h=>?_
   split at h
   .exact fun n hn=>hm _ _ (h n hn)
   .exact h.elim
  case alloc z=>exact fun n hn=>hm _ _ (h n hn)
  case nf x=>exact Bw h fun v ⟨vf,Z2,h1,h2,h3⟩=>⟨vf,Z2,h1,h2,hm _ _ h3⟩
  case Oz=>exact fun n hn=>hm _ _ (h n hn)
  case Em ks x y z=>
   refine Bw h fun vm h=>Bw h fun vk h=>Bw h fun vx h=>?_
   unfold AO at *;obtain⟨h0,h⟩:=h;cases vm<;>first|exact h.elim|skip
   simp only at *;split at h
   .exact⟨h0,h.1,hm _ _ h.2⟩
   .exact h.elim
  case gK q n x=>
   refine Bw h fun vx h=>?_
   unfold Jq at *;split at h<;>first|exact h.elim|exact hm _ _ h|exact⟨fun e t=>hm _ _ (h.1 e t),fun e=>hm _ _ (h.2 e)⟩
  case GZ a b c x y=>
   refine Bw h fun vx h=>Bw h fun vy h=>?_
   unfold AJ at *;split at h
   .exact⟨h.1,h.2.1,h.2.2.1,fun id hn=>hm _ _ (h.2.2.2 id hn)⟩
   .exact h.elim
  case store sz a x=>exact Bw h fun va h=>Bw h fun vx h=>YF h fun Z' h=>hm _ _ h
  case slice sz x a b c=>exact Bw h fun vx h=>U2 h fun l h=>U2 h fun hh h=>U2 h fun m h=>YH h hm
  case append sz b x y=>exact Bw h fun vx h=>Bw h fun vy h=>NX h hm
  case copy sz x y=>exact Bw h fun vx h=>Bw h fun vy h=>Zg h hm
  case inv tab x as=>exact Bw h fun vx h=>Ma h fun vs h=>h.mono fun r Z' h=>by cases r<;>first|exact hm _ _ h|exact hp _ _ h
  case panic x=>
   refine Bw h fun vx h=>?_
   split at h
   .exact hp _ _ h
   .exact h.elim
  case call f as=>exact Ma h fun vs h=>h.mono fun r Z' h=>by cases r<;>first|exact hm _ _ h|exact hp _ _ h
  case J7 x as=>
   exact Bw h fun vx h=>Ma h fun vs h=>h.mono fun r Z' h=>by cases r<;>first|exact hm _ _ h|exact hp _ _ h
def HO {n:Nat} {o:O} (hn:Z n=none):Sub Z (B7 Z n o):=fun m p hp=>by
 unfold B7;split
 .rename_i e
  subst e;rw[hn]at hp;cases hp
 .exact hp
def calm (o:GO):Bool:=match kd o with| .H=>false|_=>true
def PI {b sz:Nat} {y:V} {k:V->AE->Prop}:AK b Z sz (.l [] true) y k=rowsOf Z sz y fun ys=>(∀e∈ys,∀v∈e,CR v=true)/\(ys.length<=Aa/\ys.length*b<=140737488355328)/\(ys= []->k (.l [] true) Z)/\
 (ys≠[]-> ∀n cap,Z n=none->ys.length<=cap->k (.sl n ys.length cap) (B7 Z n (.arr sz ys cap))):=by
 simp[AK]
def PA {s:Nat} {x:Bq} {a b c:Option Bq} (h:calm (.slice s x a b c)=true):still (.slice s x a b c)=true:=by
 cases c with
 | none=>rfl
 | some c=>cases h
def Tf {a b:Nat} {x y:Bq} (h:kd (.append a b x y)≠ .H):x= .c (.l [] true):=by
 simp only[kd]at h;split at h
 .rfl
 .exact absurd rfl h
def cu {o:GO} (hc:calm o=true) {k kp:V->AE->Prop} (h:Fw P o env Z k kp):Fw P o env Z (fun v Z'=>k v Z'/\Sub Z Z') kp:=by
 by_cases hs:still o=true
 .obtain⟨v,h1,h2⟩:=Ib hs h
  exact h2 Z _ kp (.inr fun _ _ h=>h) ⟨h1,fun _ _ h=>h⟩
 .cases o<;>first|(exact absurd rfl hs)|(cases hc;done)|skip
  all_goals simp only[Fw]at *
  case slice s x a b c=>exact absurd (PA hc) hs
  case box x=>
   refine Bw h fun v h=>?_
   split at h
   .exact fun n hn=>⟨h n hn,HO hn⟩
   .exact h.elim
  case alloc z=>exact fun n hn=>⟨h n hn,HO hn⟩
  case append sz b x y=>
   have hx:x= .c (.l [] true):=Tf (b:=b) (a:=sz) (y:=y) (by intro e;simp[calm,e]at hc);subst hx;change wv (ev env y) _ at h;change wv (ev env y) _;refine Bw h fun vy h=>?_
   rw[PI]at *;exact E7 h fun ys h=>⟨h.1,h.2.1,fun e=>⟨h.2.2.1 e,fun _ _ h=>h⟩,fun e n cap h3 h4=>⟨h.2.2.2 e n cap h3 h4,HO h3⟩⟩
def Qt {n m:Nat} (h:n≠m) (a b:O):B7 (B7 Z n a) m b=B7 (B7 Z m b) n a:=by
 funext k;unfold B7;by_cases h1:k=m
 .have h2:k≠n:=fun e=>h (e.symm.trans h1)
  rw[if_pos h1,if_neg h2,if_pos h1]
 .rw[if_neg h1,if_neg h1]
def Le {n m:Nat} (h:n≠m) {a:O}:B7 Z n a m=Z m:=by
 unfold B7;rw[if_neg (fun e=>h e.symm)]
def N0 {n:Nat} {a:O}:B7 Z n a n=some a:=by simp[B7]
def ZQ {Z':AE} (hs:Sub Z Z') {sz:Nat} {y:V} {k:List (List V)->Prop} (h:rowsOf Z sz y k):rowsOf Z' sz y k:=by
 unfold rowsOf at *;cases y<;>first|exact h.elim|exact h|skip
 .rename_i m len cap
  simp only at *;cases hm:Z m with
  | none=>rw[hm]at h;exact h.elim
  | some o=>rw[hm]at h;rw[hs m o hm];exact h
 .rename_i m s off len
  simp only at *;cases hm:Z m with
  | none=>rw[hm]at h;exact h.elim
  | some o=>rw[hm]at h;rw[hs m o hm];exact h
def Xt {o:GO} (hc:calm o=true) {k kp:V->AE->Prop} (h:Fw P o env Z k kp) {m:Nat} {z:O} (hm:Z m=none) :
    Fw P o env (B7 Z m z) (fun v Z2=> ∃Z1,k v Z1/\Z1 m=none/\Z2=B7 Z1 m z) kp:=by
 by_cases hs:still o=true
 .obtain⟨v,h1,h2⟩:=Ib hs h
  exact h2 _ _ kp (.inr (HO hm)) ⟨Z,h1,hm,rfl⟩
 .have hne: ∀n,B7 Z m z n=none->Z n=none/\n≠m:=fun n hn=>by
   have:n≠m:=fun e=>by rw[e,N0]at hn;cases hn
   exact⟨by rwa [Le this.symm]at hn,this⟩
  cases o<;>first|(exact absurd rfl hs)|(cases hc;done)|skip
  all_goals simp only[Fw]at *
  case slice s x a b c=>exact absurd (PA hc) hs
  case box x=>
   refine Bw h fun v h=>?_
   split at h
   .exact fun n hn=>⟨_,h n (hne n hn).1,by rw[Le (hne n hn).2];exact hm,Qt (hne n hn).2.symm _ _⟩
   .exact h.elim
  case alloc z'=>exact fun n hn=>⟨_,h n (hne n hn).1,by rw[Le (hne n hn).2];exact hm,Qt (hne n hn).2.symm _ _⟩
  case append sz b x y=>
   have hx:x= .c (.l [] true):=Tf (b:=b) (a:=sz) (y:=y) (by intro e;simp[calm,e]at hc);subst hx;change wv (ev env y) _ at h;change wv (ev env y) _;refine Bw h fun vy h=>?_
   rw[PI]at *;refine E7 (ZQ (HO hm) h) fun ys h=>⟨h.1,h.2.1,fun e=>⟨Z,h.2.2.1 e,hm,rfl⟩,fun e n cap h3 h4=>?_⟩
   exact⟨_,h.2.2.2 e n cap (hne n h3).1 h4,by rw[Le (hne n h3).2];exact hm,Qt (hne n h3).2.symm _ _⟩
def Yz:GO->Bool| .call _ _=>true|_=>false
def Xu {o:GO} (hc:Yz o=true) {k kp:V->AE->Prop} (hU: ∀v Z m z,Z m=none->kp v Z->kp v (B7 Z m z)) (h:Fw P o env Z k kp) {m:Nat} {z:O} (hm:Z m=none) :
    Fw P o env (B7 Z m z) (fun v Z2=> ∃Z1,k v Z1/\Z1 m=none/\Z2=B7 Z1 m z) kp:=by
 cases o<;>first|(cases hc;done)|skip
 rename_i f args;simp only[Fw]at *;refine Ma h fun vs h=>?_
 have hr:HH (B7 Z m z) (fun n=>n≠m)=Z:=by
  funext n;by_cases hn:n=m
  .subst hn;rw[Dj (fun h=>h rfl),hm]
  .rw[Dd hn];simp[B7,hn]
 have h':Au P f vs (HH (B7 Z m z) fun n=>n≠m) (qk k kp):=by rw[hr];exact h
 refine Au.mono (Au.frame (fun n=>n≠m) h') fun r Z' ⟨Z1,hq,hfr,he⟩=>?_
 have h1:Z1 m=none:=hfr m (fun h=>h rfl) (by rw[N0];simp)
 have h2:Z'=B7 Z1 m z:=by
  rw[he];funext n;simp only[join];by_cases hn:n=m
  .subst hn
   rw[h1];simp only;rw[Dd (fun h=>h rfl),N0,N0]
  .rw[Dj (fun h=>h hn)]
   cases hs:Z1 n with
   | none=>simp[B7,hn,hs]
   | some o=>simp[B7,hn,hs]
 cases r with
 | ret v=>exact⟨Z1,hq,h1,h2⟩
 | Bk v=>rw[h2];exact hU _ _ _ _ h1 hq
structure Ar where
 dst:Option Nat
 op:GO
 guard:Option (Nat×Bool)
 deriving Inhabited
def put (d:Option Nat) (v:V) (env:Env):Env:=match d with|some d=>(d,v)::env|none=>env
def Im (P:Program) (o:Ar) (env:Env) (Z:AE) (k kp:V->AE->Prop):Prop:=
 match o.guard with
 | none=>Fw P o.op env Z k kp
 | some (g,b)=>match get g env with
   | some (.b t)=>(t=b->Fw P o.op env Z k kp)/\(t= !b->k (.t []) Z)
   | some (.t [])=>k (.t []) Z
   | _=>False
def looks (o:Ar):List Nat:=reads o.op++(match o.guard with|some (g,_)=>[g]|none=>[])
def Gi {o:Ar} {k kp:V->AE->Prop} (h: ∀s∈looks o,get s env'=get s env):Im P o env' Z k kp=Im P o env Z k kp:=by
 unfold Im;unfold looks at h;cases hg:o.guard with
 | none=>exact UF fun s hs=>h s (Pk _ hs)
 | some p=>
   obtain⟨g,b⟩:=p;simp only;rw[h g (by rw[hg];simp),UF fun s hs=>h s (Pk _ hs)]
def CQ {o:Ar} {k k' kp kp':V->AE->Prop} (h:Im P o env Z k kp) (hm: ∀v Z',k v Z'->k' v Z') (hp: ∀v Z',kp v Z'->kp' v Z'):Im P o env Z k' kp':=by
 unfold Im at *;split at h
 .exact RX h hm hp
 .split at h
  .exact⟨fun e=>RX (h.1 e) hm hp,fun e=>hm _ _ (h.2 e)⟩
  .exact hm _ _ h
  .exact h.elim
def UG {o:Ar} (hs:still o.op=true) {k kp:V->AE->Prop} (h:Im P o env Z k kp) :
    ∃v,k v Z/\ ∀Z' (k' kp':V->AE->Prop),(kd o.op= .P\/Sub Z Z')->k' v Z'->Im P o env Z' k' kp':=by
 unfold Im at *;split at h
 .obtain⟨v,h1,h2⟩:=Ib hs h
  exact⟨v,h1,fun Z' k' kp' hσ hk=>h2 Z' k' kp' hσ hk⟩
 .rename_i g b hg
  split at h
  .rename_i t ht
   skip
   by_cases htb:t=b
   .obtain⟨v,h1,h2⟩:=Ib hs (h.1 htb)
    refine⟨v,h1,fun Z' k' kp' hσ hk=>?_⟩;exact⟨fun _=>h2 Z' k' kp' hσ hk,fun e=>absurd (htb.symm.trans e) (by cases b<;>simp)⟩
   .refine⟨.t [],h.2 (by cases t<;>cases b<;>simp_all),fun Z' k' kp' hσ hk=>?_⟩
    exact⟨fun e=>absurd e htb,fun _=>hk⟩
  .exact⟨.t [],h,fun Z' k' kp' hσ hk=>hk⟩
  .exact h.elim
def cw {o:Ar} (hc:calm o.op=true) {k kp:V->AE->Prop} (h:Im P o env Z k kp):Im P o env Z (fun v Z'=>k v Z'/\Sub Z Z') kp:=by
 unfold Im at *;split at h
 .exact cu hc h
 .split at h
  .exact⟨fun e=>cu hc (h.1 e),fun e=>⟨h.2 e,fun _ _ h=>h⟩⟩
  .exact⟨h,fun _ _ h=>h⟩
  .exact h.elim
def nJ {o:Ar} (hc:calm o.op=true) {k kp:V->AE->Prop} (h:Im P o env Z k kp) {m:Nat} {z:O} (hm:Z m=none) :
    Im P o env (B7 Z m z) (fun v Z2=> ∃Z1,k v Z1/\Z1 m=none/\Z2=B7 Z1 m z) kp:=by
 unfold Im at *;split at h
 .exact Xt hc h hm
 .split at h
  .exact⟨fun e=>Xt hc (h.1 e) hm,fun e=>⟨Z,h.2 e,hm,rfl⟩⟩
  .exact⟨Z,h,hm,rfl⟩
  .exact h.elim
def aN (o:GO):Bool:=calm o||Yz o
def fy {o:Ar} (hc:aN o.op=true) {k kp:V->AE->Prop} (hU: ∀v Z m z,Z m=none->kp v Z->kp v (B7 Z m z)) (h:Im P o env Z k kp) {m:Nat} {z:O} (hm:Z m=none) :
    Im P o env (B7 Z m z) (fun v Z2=> ∃Z1,k v Z1/\Z1 m=none/\Z2=B7 Z1 m z) kp:=by
 cases hc':calm o.op with
 | true=>exact nJ hc' h hm
 | false=>
   have hc2:Yz o.op=true:=by simpa[aN,hc']using hc
   unfold Im at *;split at h
   .exact Xu hc2 hU h hm
   .split at h
    .exact⟨fun e=>Xu hc2 hU (h.1 e) hm,fun e=>⟨Z,h.2 e,hm,rfl⟩⟩
    .exact⟨Z,h,hm,rfl⟩
    .exact h.elim
end Go.Gl
namespace Go.Gl
variable {P:Program} {F:Nat->Prop} {env env':Env} {Z:AE}
structure Cr where
 i:Nat
 o:Ar
 su:List Nat
 re:List Ar
 deriving Inhabited
def AG (x:Ar):List Nat:=(match x.dst with|some d=>[d]|none=>[])++looks x
def IF (P:Program) (x:Ar) (env:Env) (Z:AE):Prop:=Im P x env Z (fun u _=> ∀s,x.dst=some s->get s env=some u) (fun _ _=>False)
def EX (P:Program):List Ar->Env->AE->Prop
 | [],_,_=>True
 | x::r,env,Z=>IF P x env Z/\EX P r env Z
def EX.mem: ∀ {l:List Ar},EX P l env Z-> ∀x∈l,IF P x env Z
 | _::_,h,_,.head _=>h.1
 | _::_,h,x,.tail _ hx=>EX.mem h.2 x hx
def Dc (P:Program):List Cr->(Env->AE->Prop)->(V->AE->Prop)->Env->AE->Prop
 | [],K,_,env,Z=>K env Z
 | d::r,K,kp,env,Z=>Im P d.o env Z (fun v Z'=>EX P d.re (put d.o.dst v env) Z'/\Dc P r K kp (put d.o.dst v env) Z') kp
def nZ (env env':Env):Prop:= ∀s,get s env=get s env'
def Ci {s:Nat} {d:Option Nat} {v:V} (h:d≠some s):get s (put d v env)=get s env:=by
 cases d with
 | none=>rfl
 | some d=>
   simp only[put,get];cases hb:Nat.beq d s with
   | false=>rfl
   | true=>exact absurd (by rw[Vs hb]) h
def Ex {s:Nat} {v:V}:get s (put (some s) v env)=some v:=by simp[put,get]
def nZ.put {d:Option Nat} {v:V} (h:nZ env env'):nZ (Gl.put d v env) (Gl.put d v env'):=fun s=>by
 by_cases hd:d=some s
 .subst hd
  rw[Ex,Ex]
 .rw[Ci hd,Ci hd,h]
def mL {d e:Option Nat} {v u:V} (h: ∀s,d=some s->e≠some s):nZ (Gl.put d v (Gl.put e u env)) (Gl.put e u (Gl.put d v env)):=fun s=>by
 by_cases hd:d=some s
 .subst hd
  rw[Ex,Ci (h s rfl),Ex]
 .rw[Ci hd]
  by_cases he:e=some s
  .subst he
   rw[Ex,Ex]
  .rw[Ci he,Ci he,Ci hd]
def PQ {x:Ar} (h: ∀s∈AG x,get s env'=get s env) (hr:IF P x env Z):IF P x env' Z:=by
 unfold IF at *;rw[Gi (env:=env) fun s hs=>h s (Ov _ hs)];refine CQ hr (fun v Z' hv s hs=>?_) fun _ _ h=>h
 rw[h s (Pk _ (by rw[hs];simp))];exact hv s hs
def Nf: ∀ {l:List Ar},(∀s,get s env'=get s env)->EX P l env Z->EX P l env' Z
 | [],_,_=>trivial
 | _::_,h,hr=>⟨PQ (fun s _=>h s) hr.1,Nf h hr.2⟩
section
variable {K:Env->AE->Prop} {kp:V->AE->Prop}
def K4 (U: ∀env env' Z,nZ env env'->K env Z->K env' Z): ∀ {l:List Cr} {env env':Env} {Z:AE},nZ env env'->Dc P l K kp env Z->Dc P l K kp env' Z
 | [],_,_,_,hg,h=>U _ _ _ hg h
 | d::r,env,env',Z,hg,h=>by
   simp only[Dc]at *;rw[Gi (env:=env) fun s _=>(hg s).symm];exact CQ h (fun v Z' ⟨h1,h2⟩=>⟨Nf (fun s=>(hg.put s).symm) h1,K4 U hg.put h2⟩) fun _ _ h=>h
def sg (x y:Ar):Prop:=(∀d,x.dst=some d->d∉looks y/\y.dst≠some d)/\ ∀d,y.dst=some d->d∉looks x
def fresh (y x:Ar):Prop:= ∀d,y.dst=some d->d∉AG x
def okD (x y:Cr):Prop:=x.re= []/\sg x.o y.o/\
 ((still x.o.op=true/\calm y.o.op=true)\/kd x.o.op= .P\/(still x.o.op=true/\x.o∈y.re/\ ∀d,x.o.dst=some d->d∉looks x.o)\/(aN x.o.op=true/\y.re= []/\y.o.guard=none/\ ∃z,y.o.op= .alloc z))
def jy (hU: ∀v Z m z,Z m=none->kp v Z->kp v (B7 Z m z)) (U: ∀env env' Z,nZ env env'->K env Z->K env' Z) {i:Cr} {ys:List Cr}: ∀ {xs:List Cr},(∀x∈xs,okD x i)->xs.Pairwise (fun x y=>kd x.o.op= .N->fresh y.o x.o)->
    ∀ {env:Env} {Z:AE},Dc P (xs++i::ys) K kp env Z->
    Im P i.o env Z (fun u Z'=>(∀r∈i.re,(∀x∈xs,fresh x.o r)->IF P r (put i.o.dst u env) Z')/\Dc P (xs++ys) K kp (put i.o.dst u env) Z') kp
 | [],_,_,env,Z,h=>CQ h (fun u Z' ⟨h1,h2⟩=>⟨fun r hr _=>h1.mem r hr,h2⟩) fun _ _ h=>h
 | x ::xs,hok,hpw,env,Z,h=>by
   simp only[List.cons_append,Dc]at h;obtain⟨hpw1,hpw2⟩:=List.pairwise_cons.1 hpw;obtain⟨hre,⟨ha1,ha2⟩,hk⟩:=hok x (.head _)
   have h':Im P x.o env Z (fun v Z1=>Im P i.o (put x.o.dst v env) Z1 (fun u Z'=>(∀r∈i.re,(∀x∈xs,fresh x.o r)->IF P r (put i.o.dst u (put x.o.dst v env)) Z')/\Dc P (xs++ys) K kp (put i.o.dst u (put x.o.dst v env)) Z') kp) kp:=
    CQ h (fun v Z1 hh=>jy hU U (fun y hy=>hok y (.tail _ hy)) hpw2 hh.2) fun _ _ h=>h
   have agx: ∀v,∀s∈looks i.o,get s (put x.o.dst v env)=get s env:=fun v s hs=>Ci fun e=>(ha1 s e).1 hs
   have agi: ∀(env:Env) u,∀s∈looks x.o,get s (put i.o.dst u env)=get s env:=fun env u s hs=>Ci fun e=>ha2 s e hs
   have hcm: ∀v u,nZ (put i.o.dst u (put x.o.dst v env)) (put x.o.dst v (put i.o.dst u env)):=fun v u=>mL fun s hs hx=>(ha1 s hx).2 hs
   have hRE: ∀v u Z',(∀r∈i.re,(∀x∈xs,fresh x.o r)->IF P r (put i.o.dst u (put x.o.dst v env)) Z')-> ∀r∈i.re,(∀y∈x::xs,fresh y.o r)->IF P r (put i.o.dst u env) Z':=fun v u Z' hh r hr hf=>by
    refine PQ (fun s hs=>?_) (hh r hr fun y hy=>hf y (.tail _ hy));rw[hcm v u s,Ci fun e=>hf x (.head _) s e hs]
   by_cases hst:still x.o.op=true
   .obtain⟨v,hi,hd⟩:=UG hst h'
    have fin: ∀u Z',(kd x.o.op= .P\/Sub Z Z')->(∀r∈i.re,(∀x∈xs,fresh x.o r)->IF P r (put i.o.dst u (put x.o.dst v env)) Z')->Dc P (xs++ys) K kp (put i.o.dst u (put x.o.dst v env)) Z'->
     (∀r∈i.re,(∀y∈x::xs,fresh y.o r)->IF P r (put i.o.dst u env) Z')/\Dc P (x::xs++ys) K kp (put i.o.dst u env) Z':=fun u Z' hs h1 h2=>by
     refine⟨hRE v u Z' h1,?_⟩;simp only[List.cons_append,Dc];rw[Gi (env:=env) (agi env u)];exact hd Z' _ _ hs ⟨by rw[hre];trivial,K4 U (hcm v u) h2⟩
    rw[Gi (env:=env) (agx v)]at hi;rcases hk with⟨_,hc⟩|hP|⟨_,hm,hself⟩|⟨_,_,hg,z,hz⟩
    .exact CQ (cw hc hi) (fun u Z' ⟨⟨h1,h2⟩,hs⟩=>fin u Z' (.inr hs) h1 h2) fun _ _ h=>h
    .exact CQ hi (fun u Z' ⟨h1,h2⟩=>fin u Z' (.inl hP) h1 h2) fun _ _ h=>h
    .by_cases hP:kd x.o.op= .P
     .exact CQ hi (fun u Z' ⟨h1,h2⟩=>fin u Z' (.inl hP) h1 h2) fun _ _ h=>h
     have hN:kd x.o.op= .N:=by
      unfold still at hst;cases hkk:kd x.o.op<;>rw[hkk]at hst<;>simp_all
     refine CQ hi (fun u Z' ⟨h1,h2⟩=>⟨hRE v u Z' h1,?_⟩) fun _ _ h=>h
     have hr:=h1 x.o hm fun y hy=>hpw1 y hy hN
     unfold IF at hr;obtain⟨v',hv',hd'⟩:=UG hst hr;simp only[List.cons_append,Dc]
     have hsame: ∀s∈looks x.o,get s (put i.o.dst u env)=get s (put i.o.dst u (put x.o.dst v env)):=fun s hs=>by
      rw[agi env u s hs,agi _ u s hs];by_cases hxs:x.o.dst=some s
      .exact absurd hs (hself s hxs)
      .rw[Ci hxs]
     rw[Gi (env:=put i.o.dst u (put x.o.dst v env)) hsame];refine hd' Z' _ kp (.inr fun _ _ h=>h) ⟨by rw[hre];trivial,?_⟩
     have hvv:put x.o.dst v' (put i.o.dst u env)=put x.o.dst v (put i.o.dst u env):=by
      cases hxd:x.o.dst with
      | none=>rfl
      | some s=>
        have e:=hv' s hxd;rw[Ci (ha1 s hxd).2,hxd,Ex]at e;cases e;rfl
     rw[hvv];exact K4 U (hcm v u) h2
    .have hc:calm i.o.op=true:=by rw[hz];rfl
     exact CQ (cw hc hi) (fun u Z' ⟨⟨h1,h2⟩,hs⟩=>fin u Z' (.inr hs) h1 h2) fun _ _ h=>h
   .rcases hk with⟨hst',_⟩|hP|⟨hst',_,_⟩|⟨hcx,hir,hg,z,hz⟩
    .exact absurd hst' hst
    .exact absurd (by unfold still;rw[hP]) hst
    .exact absurd hst' hst
    .unfold Im
     rw[hg];simp only[hz,Fw];intro m hm;refine⟨fun r hr=>(by rw[hir]at hr;exact absurd hr (by simp)),?_⟩;simp only[List.cons_append,Dc];rw[Gi (env:=env) (agi env _)];refine CQ (fy hcx hU h' (z:= .cs z) hm) (fun v Z2 ⟨Z1,hh,h1,h2⟩=>?_) fun _ _ h=>h
     unfold Im at hh;rw[hg]at hh;simp only[hz,Fw]at hh;subst h2;exact⟨by rw[hre];trivial,K4 U (hcm v _) (hh m h1).2⟩
end
end Go.Gl
namespace Go.Gl
def DW.refl (Z Z':AE): ∀vs,DW Z Z' vs vs
 | []=> .nil
 | _::vs=> .cons (.refl _) (DW.refl Z Z' vs)
def Fa.refl (Z Z':AE): ∀vs,Fa Z Z' vs vs
 | []=> .nil
 | _::vs=> .cons (DW.refl Z Z' _) (Fa.refl Z Z' vs)
def DW.length {Z Z':AE}: ∀ {vs vs':List V},DW Z Z' vs vs'->vs'.length=vs.length
 | _,_,.nil=>rfl
 | _,_,.cons _ h=>by simp[h.length]
def Fa.length {Z Z':AE}: ∀ {vs vs':List (List V)},Fa Z Z' vs vs'->vs'.length=vs.length
 | _,_,.nil=>rfl
 | _,_,.cons _ h=>by simp[h.length]
variable {P:Program} {F:Nat->Prop}
def NT {Z Z':AE} {w:World} (hR:Rel F Z w) (n:Nat) {o:O} (hn:Z n=some o) (hn':Z' n=none) {c:Array Value} {e:TypeId} {fr:Nat×Nat} (hb:w.heap[n]? =some (.cells c e fr)) (i:Nat) (v:Value) (hv:c[i]? =some v):Hh F Z' w n i=some v:=by
 rw[O6 (hR.own n _ hn).1 hn',Df hb];exact hv
mutual
def F3.H3 {Z Z':AE} {w:World} (hR:Rel F Z w) (hs: ∀n,Z n=none->Z' n=none): ∀ {v v':V} {c:Value},F3 Z Z' v v'->Ah (Hh F Z w) v c->Ah (Hh F Z' w) v' c
 | _,_,_,.refl v,h=>h.mono (FP hs)
 | _,_,_,.arr (n:=n) (sz:=sz) hn hn' hl hr,h=>by
   obtain⟨rfl,h2⟩:=h;subst hl;obtain⟨c,e,h3,h4,h5,h6,h7⟩:=FL hR hn;have hlen:=hr.length;refine⟨some ⟨n,0,none⟩,_,by rw[hlen],by rw[hlen];exact h2,by simp,by rw[hlen];exact h6,by simp,fun _=>⟨n,0,sz,rfl,?_⟩⟩;exact Fa.H3 hR hs (fun i v hv=>NT hR n hn hn' h3 i v hv) hr h7
 | _,_,_,.cs (n:=n) hn hn' hr,h=>by
   simp only[Ah]at h;subst h;obtain⟨c,e,h3,h4,h5⟩:=K1 hR hn;exact⟨n,0,rfl,DW.H3 hR hs (fun i v hv=>NT hR n hn hn' h3 i v hv) hr h5⟩
 | _,_,_,.a hr,h=>by
   obtain⟨c',rfl,h2,h3⟩:=h;exact⟨c',rfl,by rw[hr.length];exact h2,DW.H3 hR hs (fun _ _ e=>e) hr h3⟩
 | _,_,_,.t hr,h=>by
   obtain⟨c',rfl,h2,h3⟩:=h;exact⟨c',rfl,by rw[hr.length];exact h2,DW.H3 hR hs (fun _ _ e=>e) hr h3⟩
 | _,_,_,.FV hr,h=>by
   obtain⟨c',rfl,h2⟩:=h;exact⟨c',rfl,F3.H3 hR hs hr h2⟩
 | _,_,_,.l hf hr,h=>by
   obtain⟨a,cap,rfl,h2,h3,h4,h5,h6⟩:=h;have hl:=hr.length;refine⟨a,cap,by rw[hl],by rw[hl];exact h2,fun e=>by rw[hl];exact h3 (hf e),by rw[hl];exact h4,h5,fun hne=>?_⟩;obtain⟨b,o,sz,h7,h8⟩:=h6 (by intro e;subst e;cases hr;exact hne rfl);exact⟨b,o,sz,h7,Fa.H3 hR hs (fun i v hv=>FP hs b i v hv) hr h8⟩
 | _,_,_,.rp hr,h=>by
   obtain⟨b,o,rfl,h2⟩:=h;exact⟨b,o,rfl,DW.H3 hR hs (fun i v hv=>FP hs b i v hv) hr h2⟩
 | _,_,_,.f h1 h2,h=>by
   obtain⟨f',c',rfl,h3,h4,h5,h6⟩:=h;exact⟨f',c',rfl,by rw[h1.length];exact h3,DW.H3 hR hs (fun _ _ e=>e) h1 h4,by rw[h2.length];exact h5,DW.H3 hR hs (fun _ _ e=>e) h2 h6⟩
 | _,_,_,.any,_=>trivial
def DW.H3 {Z Z':AE} {w:World} (hR:Rel F Z w) (hs: ∀n,Z n=none->Z' n=none) {g g':Nat->Option Value} (hg: ∀i c,g i=some c->g' i=some c): ∀ {vs vs':List V} {o:Nat},DW Z Z' vs vs'->Ba (Hh F Z w) g o vs->Ba (Hh F Z' w) g' o vs'
 | _,_,_,.nil,_=>trivial
 | _,_,_,.cons h1 h2,⟨⟨c,hc,hv⟩,h3⟩=>⟨⟨c,hg _ _ hc,F3.H3 hR hs h1 hv⟩,DW.H3 hR hs hg h2 h3⟩
def Fa.H3 {Z Z':AE} {w:World} (hR:Rel F Z w) (hs: ∀n,Z n=none->Z' n=none) {g g':Nat->Option Value} (hg: ∀i c,g i=some c->g' i=some c) {sz:Nat}: ∀ {vs vs':List (List V)} {o:Nat},Fa Z Z' vs vs'->BJ (Hh F Z w) g sz o vs->BJ (Hh F Z' w) g' sz o vs'
 | _,_,_,.nil,_=>trivial
 | _,_,_,.cons h1 h2,⟨hl,hv,h3⟩=>⟨by rw[h1.length];exact hl,DW.H3 hR hs hg h1 hv,Fa.H3 hR hs hg h2 h3⟩
end
def F3.rel {Z Z':AE} {w:World} (hR:Rel F Z w) (hs:Sub Z' Z) {v v':V} {c:Value} (h:F3 Z Z' v v') (hv:Ah (Hh F Z w) v c):Ah (Hh F Z' w) v' c:=F3.H3 hR (fun _ hn=>hs.none hn) h hv
def DW.rel {Z Z':AE} {w:World} (hR:Rel F Z w) (hs:Sub Z' Z) {g g':Nat->Option Value} (hg: ∀i c,g i=some c->g' i=some c) {vs vs':List V} {o:Nat} (h:DW Z Z' vs vs') (hv:Ba (Hh F Z w) g o vs):Ba (Hh F Z' w) g' o vs':=DW.H3 hR (fun _ hn=>hs.none hn) hg h hv
def Fa.rel {Z Z':AE} {w:World} (hR:Rel F Z w) (hs:Sub Z' Z) {g g':Nat->Option Value} (hg: ∀i c,g i=some c->g' i=some c) {sz:Nat} {vs vs':List (List V)} {o:Nat} (h:Fa Z Z' vs vs') (hv:BJ (Hh F Z w) g sz o vs):BJ (Hh F Z' w) g' sz o vs':=Fa.H3 hR (fun _ hn=>hs.none hn) hg h hv
structure FzS (Z Z2:AE):Prop where
 h: ∀n o2,Z2 n=some o2->Z n=some o2\/ ∃vs vs2,Z n=some (.cs vs)/\o2= .cs vs2/\DW Z Z2 vs vs2
def FzS.none {Z Z2:AE} (h:FzS Z Z2) {n:Nat} (hn:Z n=none):Z2 n=none:=by
 cases h':Z2 n with
 | none=>rfl
 | some o2=>
   rcases h.h n o2 h' with h1|⟨vs,vs2,h1,-⟩
   .rw[hn]at h1;cases h1
   .rw[hn]at h1;cases h1
def Rel.fz {Z Z2:AE} {w:World} (hR:Rel F Z w) (h:FzS Z Z2):Rel F Z2 w where
 own n o2 ho:=by
  rcases h.h n o2 ho with h1|⟨vs,vs2,h1,rfl,hf⟩
  .obtain⟨q1,ob,q2,q3⟩:=hR.own n o2 h1
   exact⟨q1,ob,q2,QT.mono (FP fun n hn=>h.none hn) q3⟩
  .obtain⟨q1,ob,q2,c,e,q3,q4,q5⟩:=hR.own n _ h1
   exact⟨q1,ob,q2,c,e,q3,by rw[hf.length];exact q4,hf.H3 hR (fun _ hn=>h.none hn) (fun _ _ e=>e) q5⟩
 lock:=hR.lock
def CD.fz {Z Z2:AE} (w:World) (h:FzS Z Z2):CD F Z w Z2 w:=
 ⟨fun _ _ _=>rfl,Hz _,rfl,rfl,rfl,fun _ hn _=>h.none hn⟩
def Zo {Z:AE} {sz b:Nat} {x y:Bq} {env:Env} {k kp:V->AE->Prop} (h:Fw P (.Sl sz b x y) env Z k kp) :
    Fw P (.append sz b x y) env Z (fun v Z1=> ∃vf Z2,Sub Z2 Z1/\F3 Z1 Z2 v vf/\k vf Z2) kp:=by
 simp only[Fw]at *;refine Bw h fun vx h=>Bw h fun vy h=>?_
 unfold AY at h;unfold AK;refine E7 h fun ys ⟨h1,h2⟩=>⟨h1,?_⟩
 cases vx<;>first|exact h2.elim|skip
 rename_i es full;simp only at *;obtain⟨h3,h4,h5,h6⟩:=h2;refine⟨h3,h4,fun e=>?_,fun e=>⟨h5 e,fun n cap hn hc=>?_⟩⟩
 .subst e
  rw[Ez]at h6;exact⟨_,Z,fun _ _ h=>h,.l (fun h=>(by cases h)) (.refl _ _ _),h6⟩
 .exact⟨_,Z,HO hn,.arr (N0) hn (by simp) (.refl _ _ _),h6⟩
def qV {Z:AE} {x:Bq} {env:Env} {k kp:V->AE->Prop} (h:Fw P (.Pa x) env Z k kp) :
    Fw P (.box x) env Z (fun v Z1=> ∃vf Z2,Sub Z2 Z1/\F3 Z1 Z2 v vf/\k vf Z2) kp:=by
 simp only[Fw]at *;refine Bw h fun vx h=>?_
 split at h
 .exact fun n hn=>⟨_,Z,HO hn,.cs N0 hn (.refl _ _ _),h⟩
 .exact h.elim
end Go.Gl
namespace Go.Gl
inductive AV where
 | skip
 | DB (ops:List Ar)
 | He (l:List Nat) (ops:List Cr)
 | seq (l:List Nat) (a b:AV)
 | cond (c:Bq) (a b:AV)
 | block (id:Nat) (a:AV)
 | loop (l:List Nat) (a:AV)
 | exit (id:Nat)
 | ret
 | scope (a:AV)
 | D8 (l:List Nat) (g:Bq) (ps:List Nat) (a b:AV)
 deriving Inhabited
inductive Ac where
 | normal
 | exit (id:Nat)
 | ret
 | Bk (v:V)
def prune:List Nat->Env->Env
 | [],_=>[]
 | s::r,env=>match get s env with
   | some v=>(s,v)::prune r env
   | none=>prune r env
def EFz (Z Z2:AE) (env env2:Env):Prop:= ∀j v2,get j env2=some v2-> ∃v,get j env=some v/\F3 Z Z2 v v2
def Fz (env:Env) (Z:AE) (K:Env->AE->Prop):Prop:=K env Z\/ ∃env2 Z2,FzS Z Z2/\EFz Z Z2 env env2/\K env2 Z2
def Fz.mono {env:Env} {Z:AE} {K K':Env->AE->Prop} (h:Fz env Z K) (hk: ∀env Z,K env Z->K' env Z):Fz env Z K':=by
 rcases h with h|⟨e2,s2,h1,h2,h3⟩
 .exact .inl (hk _ _ h)
 .exact .inr ⟨e2,s2,h1,h2,hk _ _ h3⟩
def Jw (P:Program):List Ar->(Env->AE->Prop)->(Env->V->AE->Prop)->Env->AE->Prop
 | [],K,_,env,Z=>K env Z
 | o::r,K,kp,env,Z=>Im P o env Z (fun v Z'=>Jw P r K kp (put o.dst v env) Z') (kp env)
def Ac.andThen (next:Env->AE->Prop) (Q:Ac->Env->AE->Prop):Ac->Env->AE->Prop
 | .normal,env,Z=>next env Z
 | .exit id,env,Z=>Q (.exit id) env Z
 | .ret,env,Z=>Q .ret env Z
 | .Bk v,env,Z=>Q (.Bk v) env Z
def Ac.inBlock (id:Nat) (Q:Ac->Env->AE->Prop):Ac->Env->AE->Prop
 | .normal,env,Z=>Q .normal env Z
 | .exit id',env,Z=>bif Nat.beq id' id then Q .normal env Z else Q (.exit id') env Z
 | .ret,env,Z=>Q .ret env Z
 | .Bk v,env,Z=>Q (.Bk v) env Z
def erase:AV->AV
 | .He _ ops=> .He [] ops
 | .seq _ a b=> .seq [] (erase a) (erase b)
 | .cond c a b=> .cond c (erase a) (erase b)
 | .block id a=> .block id (erase a)
 | .loop _ a=> .loop [] (erase a)
 | .scope a=> .scope (erase a)
 | .D8 _ g ps a b=> .D8 [] g ps (erase a) (erase b)
 | c=>c
def Ox (P:Program) (N:Nat) (ops:Array Oper) (o:Oper):Option Ar:=
 match gd P o.op,o.guard with
 | some ao,none=>if(∀d,o.dst=some d->d<N)then some ⟨o.dst,ao,none⟩else none
 | some ao,some (j,b)=>match(ops[j]?).bind (·.dst)with
   | some d=>if(∀d,o.dst=some d->d<N)then some ⟨o.dst,ao,some (d,b)⟩else none
   | none=>none
 | none,_=>none
def Hi (P:Program) (N:Nat) (ops:Array Oper):List Oper->Option (List Ar)
 | []=>some []
 | o::r=>match Ox P N ops o,Hi P N ops r with
   | some x,some xs=>some (x::xs)
   | _,_=>none
def direct (ops:Array Oper) (i:Nat):List Nat:=match ops[i]? with|some o=>(o.after.toList.filter (Region.binds .any)).map (·.on)|none=>[]
def DH (pu:List FuncId) (fz:List Nat) (ao:Ar):Ar:=match ao.op with
 | .call f as=>bif pu.contains f then {ao with op:= .MW f as}else ao
 | .box x=>bif (match ao.dst with|some d=>fz.contains d|none=>false)then {ao with op:= .Pa x}else ao
 | .mv x=>bif (match ao.dst with|some d=>fz.contains d|none=>false)then {ao with op:= .nf x}else ao
 | .append sz b x y=>bif (match ao.dst with|some d=>fz.contains d|none=>false)then {ao with op:= .Sl sz b x y}else ao
 | _=>ao
def ZG (x y:Ar):Bool:=
 (match x.dst with|some d=> !(looks y).contains d&&y.dst != some d|none=>true)&&(match y.dst with|some d=> !(looks x).contains d|none=>true)
def Y3 (y x:Ar):Bool:=match y.dst with|some d=> !(AG x).contains d|none=>true
def bf:GO->Bool| .alloc _=>true|_=>false
def okB (x y:Cr):Bool:=x.su.isEmpty&&ZG x.o y.o&&((still x.o.op&&calm y.o.op)||kd x.o.op== .P||
 (still x.o.op&&y.su.contains x.i&&(match x.o.dst with|some d=> !(looks x.o).contains d|none=>true))||(aN x.o.op&&y.su.isEmpty&&y.o.guard.isNone&&bf y.o.op))
def LH (ops:Array Oper) (clo:List (List Nat)) (x y:Cr):Bool:=
 !Nat.beq x.i y.i&& !(direct ops x.i).contains y.i&&(kd x.o.op != .N||Y3 y.o x.o)&&((clo.getD y.i []).contains x.i||okB x y)
def pwB (ops:Array Oper) (clo:List (List Nat)):List Cr->Bool
 | []=>true
 | x::r=>r.all (LH ops clo x)&&pwB ops clo r
def oJ (ops:Array Oper) (clo:List (List Nat)):Bool:=(List.range ops.size).all fun i=>(clo.getD i []).all fun x=>(direct ops i).contains x||(direct ops i).any fun j=>Nat.blt j i&&(clo.getD j []).contains x
def dT (ops:Array Oper) (clo:List (List Nat)) (C:List Cr):Bool:=
 Nat.beq C.length ops.size&&(List.range ops.size).all (fun j=>C.any fun d=>Nat.beq d.i j)&&C.all (fun d=>Nat.blt d.i ops.size&& !(direct ops d.i).contains d.i&&(direct ops d.i).all (fun e=>Nat.blt e ops.size))&&
 oJ ops clo&&pwB ops clo C
def GC (ops:Array Oper):Nat->List (List Nat)
 | 0=>[]
 | n+1=>let r:=GC ops n;r++[((direct ops n)++(direct ops n).flatMap fun j=>r.getD j []).eraseDups]
def Yh (o:GO):Nat:=match kd o with| .P=>0| .N=>0| .A=>1| .AA=>2| .H=>3
def rn (o:GO):Nat:=match kd o with| .P=>0| .N=>0| .A=>1| .AA=>3| .H=>2
def uX (Yh:GO->Nat) (ops:Array Oper) (as:List Ar) (left done:List Nat):Option Nat:=
 let rs:=left.filter fun i=>(direct ops i).all done.contains
 let of:=fun r=>rs.find? fun i=>match as[i]? with|some ao=>Nat.ble (Yh ao.op) r|none=>false
 match of 0 with|some i=>some i|none=>match of 1 with|some i=>some i|none=>match of 2 with|some i=>some i|none=>of 3
def Qj (Yh:GO->Nat) (ops:Array Oper) (as:List Ar):Nat->List Nat->List Nat->List Nat
 | 0,_,done=>done.reverse
 | n+1,left,done=>match uX Yh ops as left done with
   | some i=>Qj Yh ops as n (left.filter fun j=> !Nat.beq j i) (i::done)
   | none=>done.reverse
def rm (clo:List (List Nat)) (as:List Ar) (before:List Nat) (i:Nat):List Nat:=
 match as[i]? with
 | some ao=>match kd ao.op with
   | .H=>before.filter fun j=> !(clo.getD i []).contains j&&(match as[j]? with|some x=>kd x.op== .N|none=>false)
   | _=>[]
 | none=>[]
def ng (clo:List (List Nat)) (as:List Ar):List Nat->List Nat->List Cr
 | _,[]=>[]
 | before,i::r=>match as[i]? with
   | some ao=>⟨i,ao,rm clo as before i,(rm clo as before i).filterMap fun j=>as[j]?⟩::ng clo as (i::before) r
   | none=>ng clo as (i::before) r
def nz (ops:Array Oper) (as:List Ar):Option (List Cr):=
 let clo:=GC ops ops.size
 let C:=ng clo as [] (Qj Yh ops as ops.size (List.range ops.size) [])
 bif dT ops clo C then some C else
 let C:=ng clo as [] (Qj rn ops as ops.size (List.range ops.size) [])
 bif dT ops clo C then some C else none
def res (P:Program) (N:Nat) (pu:List FuncId) (fz:List Nat):Code->Option AV
 | .skip=>some .skip
 | .label _=>some .skip
 | .ret=>some .ret
 | .exit id=>some (.exit id)
 | .seq a b=>match res P N pu fz a,res P N pu fz b with|some a,some b=>some (.seq [] a b)|_,_=>none
 | .cond c a b=>match BY c,res P N pu fz a,res P N pu fz b with|some c,some a,some b=>some (.cond c a b)|_,_,_=>none
 | .block id a=>(res P N pu fz a).map (.block id)
 | .loop a=>(res P N pu fz a).map (.loop [])
 | .scope a=>(res P N pu fz a).map .scope
 | .rangeFunc g ps a b=>match BY g,res P N pu fz a,res P N pu fz b with
   | some g,some a,some b=>if ps.toList.all (fun p=>Nat.blt p N)then some (.D8 [] g ps.toList a b)else none
   | _,_,_=>none
 | .region _ ops draw=>match Hi P N ops ops.toList with
   | none=>none
   | some as=>bif draw then(bif P.follows .mixedOrders then(nz ops (as.map (DH pu fz))).map (.He [])else none)else some (.DB (as.map (DH pu fz)))
 | _=>none
def Bm (P:Program) (ps:List Nat) (a b:AV):FuncId->Array Tmp->Code->Code->Nat->Prop:=fun fn ps' as bd N=>
 (∃g,P.funcs[fn]? =some g)/\ps'.toList=ps/\(∀p∈ps,p<N)/\ ∃pu fz,res P N pu fz as=some (erase a)/\res P N pu fz bd=some (erase b)
def Lp (L:Nat) (Q:Ac->Env->AE->Prop) (env:Env):R->AE->Prop
 | .ret _,Z=> ∃st env1 ok,Z L=some (.loop st env1 ok)/\match st with
   | .ready=>Q .normal env (del Z L)
   | .ret=>Q .ret env (del Z L)
   | .exit id=>Q (.exit id) env (del Z L)
 | .Bk v,Z=>Q (.Bk v) env (del Z L)
def T (P:Program):AV->(Ac->Env->AE->Prop)->Env->AE->Prop
 | .skip,Q,env,Z=>Q .normal env Z
 | .ret,Q,env,Z=>Q .ret env Z
 | .exit id,Q,env,Z=>Q (.exit id) env Z
 | .DB ops,Q,env,Z=>Jw P ops (fun env Z=>Q .normal env Z) (fun env v Z=>Q (.Bk v) env Z) env Z
 | .He l ops,Q,env,Z=>Dc P ops (fun env Z=>Q .normal (prune l env) Z) (fun v Z=> ∀Z',Sub Z Z'->Q (.Bk v) [] Z') env Z
 | .seq l a b,Q,env,Z=>T P a (Ac.andThen (fun env Z=>Fz (prune l env) Z (T P b Q)) Q) env Z
 | .cond c a b,Q,env,Z=>match ev env c with
   | some (.b t)=>(t=true->T P a Q env Z)/\(t=false->T P b Q env Z)
   | _=>False
 | .block id a,Q,env,Z=>T P a (Ac.inBlock id Q) env Z
 | .scope a,Q,env,Z=>T P a Q env Z
 | .loop l a,Q,env,Z=> ∃I:Nat->Env->AE->Prop,(∃n,I n (prune l env) Z)/\
  ∀n env Z,I n env Z->T P a (Ac.andThen (fun env Z=> ∃m,m<n/\I m (prune l env) Z) Q) env Z
 | .D8 l g ps a b,Q,env,Z=>match ev env g with
   | some (.f (.func gf) [] cap)=> ∀L,Z L=none->Au P gf (.f (.yield L) [] []::cap) (B7 Z L (.loop .ready (prune l env) (Bm P ps a b))) (Lp L Q env)
   | _=>False
def CY.put {H:Nat->Nat->Option Value} {env:Env} {a:Act} (h:CY H env a.tmps) {N:Nat} (hN:a.tmps.size=N) {d:Option Nat} (hd: ∀x,d=some x->x<N) {v:V} {c:Value} (hv:Ah H v c) :
    CY H (Gl.put d v env) (a.put d c).tmps:=by
 cases d with
 | none=>exact h
 | some d=>
   intro j u hu;simp only[Gl.put,get]at hu;cases hb:Nat.beq d j with
   | true=>
     rw[hb]at hu;simp only[cond_true]at hu;cases hu;have:d=j:=Vs hb;subst this;refine⟨c,?_,hv⟩;simp only[Act.put];rw[Array.getElem?_setIfInBounds_self_of_lt (by rw[hN];exact hd d rfl)]
   | false=>
     rw[hb]at hu;simp only[cond_false]at hu;have:d≠j:=Nat.ne_of_beq_eq_false hb;obtain⟨c',h1,h2⟩:=h j u hu;refine⟨c',?_,h2⟩;simp only[Act.put];rw[Array.getElem?_setIfInBounds_ne this];exact h1
def Oc: ∀(keep:List Nat) (env:Env) (k:Nat) (v:V),get k (prune keep env)=some v->get k env=some v
 | [],_,_,_,h=>by cases h
 | s ::r,env,k,v,h=>by
   simp only[prune]at h;split at h
   .rename_i u hu
    simp only[get]at h;cases hb:Nat.beq s k with
    | true=>
      rw[hb]at h;simp only[cond_true]at h;cases h;have:s=k:=Vs hb;subst this;exact hu
    | false=>
      rw[hb]at h;simp only[cond_false]at h;exact Oc r env k v h
   .exact Oc r env k v h
def CY.prune {H:Nat->Nat->Option Value} {env:Env} {tmps:Array Value} (h:CY H env tmps) (keep:List Nat):CY H (Gl.prune keep env) tmps:=
 fun k v hv=>h k v (Oc keep env k v hv)
def CY.fz {F:Nat->Prop} {Z Z2:AE} {w:World} {env env2:Env} {tmps:Array Value} (h:CY (Hh F Z w) env tmps) (hR:Rel F Z w) (h1:FzS Z Z2) (h2:EFz Z Z2 env env2):CY (Hh F Z2 w) env2 tmps:=fun k v2 hv=>by
 obtain⟨v,q1,q2⟩:=h2 k v2 hv;obtain⟨c,q3,q4⟩:=h k v q1;exact⟨c,q3,q2.H3 hR (fun _ hn=>h1.none hn) q4⟩
def M4 (a:Act) (d:Option Nat) (c:Value):(a.put d c).tmps.size=a.tmps.size:=by
 cases d<;>simp[Act.put]
def put_defers (a:Act) (d:Option Nat) (c:Value):(a.put d c).defers=a.defers:=by
 cases d<;>rfl
def OV {k:Nat} {v:V}: ∀ {keep:List Nat} {env:Env},(k,v)∈prune keep env->get k env=some v
 | [],_,h=>by cases h
 | s ::r,env,h=>by
   simp only[prune]at h;split at h
   .rename_i u hu
    rcases GM.1 h with e|h
    .cases e;exact hu
    .exact OV h
   .exact OV h
def EH (H:Nat->Nat->Option Value):Ac->Exit->Prop
 | .normal,e=>e= .normal
 | .exit id,e=>e= .exit id
 | .ret,e=>e= .ret
 | .Bk v,e=> ∃c,e= .panic [{v:=c,recovered:=false}]/\Ah H v c
def MZ (F:Nat->Prop) (Z₀:AE) (w₀:World) (N:Nat) (ds:List Deferred) (Q:Ac->Env->AE->Prop) (e:Exit) (a:Act) (w:World):Prop:=
 ∃ex env Z,Q ex env Z/\EH (Hh F Z w) ex e/\CY (Hh F Z w) env a.tmps/\Rel F Z w/\CD F Z₀ w₀ Z w/\a.tmps.size=N/\a.defers=ds
def wide (r:Option Nat):Fence:={Fence.wide with round:=r}
def Sr {r:Option Nat} {n:Nat} {P:Program} {l:Nat} {f:FuncId} {tmps:Array Value} {assign body:Code} {w:World} {R:Ending->World->Prop} (h:RoundIn Fence.wide 0 P l f tmps assign body w R):RoundIn (wide r) n P l f tmps assign body w R:=
 ⟨trivial,fun c cs _=>h.2 c cs (room_wide _)⟩
def LW {r:Option Nat} {n:Nat} {P:Program} {f:FuncId} {args:Array Value} {w:World} {R:Ending->World->Prop} (h:Calls P f args w R):CallsIn (wide r) n P f args w R:=
 callsIn_wide (n:=n) |>.2 h
variable {P:Program} {F:Nat->Prop} {N n:Nat} {ds:List Deferred} {r:Option Nat} {pu:List FuncId} {fz:List Nat}
def SP {Z:AE} {w:World} {k kp:V->AE->Prop} {o:Oper} {a:Act} {next:Act->World->Prop} {Q:Exit->Act->World->Prop} {res:Result Next} (h:Good P F Z w k kp res)
    (hn: ∀v Z' c w',k v Z'->Ah (Hh F Z' w') v c->Rel F Z' w'->CD F Z w Z' w'->next (a.put o.dst c) w')
    (hp: ∀v Z' c w',kp v Z'->Ah (Hh F Z' w') v c->Rel F Z' w'->CD F Z w Z' w'->Q (.panic [{v:=c,recovered:=false}]) a w') :
    o.uponIn (wide r) n P a next Q res:=by
 cases res with
 | ok x w'=>
   cases x<;>try exact h.elim
   case value c=>
    obtain⟨v,Z',h1,h2,h3,h4⟩:=h;exact hn v Z' c w' h1 h2 h3 h4
   case skip=>
    obtain⟨Z',h1,h3,h4⟩:=h;exact hn (.t []) Z' undef w' h1 ⟨#[],rfl,rfl,trivial⟩ h3 h4
   case enter f args=>
    refine⟨fun hd=>by simp[wide,Fence.wide]at hd,LW ?_⟩;refine Calls.mono h fun e w'' hq=>?_
    obtain⟨rr,Z',h1,h2,h3,h4⟩:=hq;cases rr with
    | ret v=>obtain⟨c,rfl,hv⟩:=h2;exact hn v Z' c w'' h1 hv h3 h4
    | Bk v=>obtain⟨c,rfl,hv⟩:=h2;exact hp v Z' c w'' h1 hv h3 h4
   case round l f tmps assign body=>
    refine⟨fun hd=>by simp[wide,Fence.wide]at hd,Sr ?_⟩;refine RoundIn.mono h fun e w'' hq=>?_
    obtain⟨rr,Z',h1,h2,h3,h4⟩:=hq;cases rr with
    | ret v=>obtain⟨c,rfl,hv⟩:=h2;exact hn v Z' c w'' h1 hv h3 h4
    | Bk v=>obtain⟨c,rfl,hv⟩:=h2;exact hp v Z' c w'' h1 hv h3 h4
 | halt x w'=>
   cases x<;>try exact h.elim
   obtain⟨v,Z',h1,h2,h3,h4⟩:=h;exact hp v Z' _ w' h1 h2 h3 h4
def dv {ops:Array Oper} {o:Oper} {ao:Ar} (h:Ox P N ops o=some ao):ao.dst=o.dst/\(∀d,o.dst=some d->d<N)/\gd P o.op=some ao.op/\
    ((o.guard=none/\ao.guard=none)\/ ∃j b d,o.guard=some (j,b)/\(ops[j]?).bind (·.dst)=some d/\ao.guard=some (d,b)):=by
 unfold Ox at h;split at h
 .rename_i x h1 h2
  split at h
  .rename_i hd
   cases h;exact⟨rfl,hd,h1,.inl ⟨h2,rfl⟩⟩
  .cases h
 .rename_i x j b h1 h2
  split at h
  .rename_i d hj
   split at h
   .rename_i hd
    cases h;exact⟨rfl,hd,h1,.inr ⟨j,b,d,h2,hj,rfl⟩⟩
   .cases h
  .cases h
 .cases h
def dx {o:Op} {ao:GO} (h:gd P o=some ao): ∀c,o≠ .defer c:=by
 rintro c rfl;cases h
def fw {f:FuncId} {as:List Bq} {env:Env} {Z:AE} {k kp:V->AE->Prop} (h:Fw P (.MW f as) env Z k kp):Fw P (.call f as) env Z k kp:=by
 simp only[Fw]at *;exact Ma h fun vs ⟨v,h1,h2⟩=>Pure.use h1 h2
def Lw (ao:Ar):(DH pu fz ao).dst=ao.dst:=by
 unfold DH;split
 .cases pu.contains _<;>rfl
 .cases(match ao.dst with|some d=>fz.contains d|none=>false)<;>rfl
 .cases(match ao.dst with|some d=>fz.contains d|none=>false)<;>rfl
 .cases(match ao.dst with|some d=>fz.contains d|none=>false)<;>rfl
 .rfl
def U1 {ao:Ar} {o':GO} {env:Env} {Z:AE} {k k' kp:V->AE->Prop} (hT:Fw P o' env Z k kp->Fw P ao.op env Z k' kp) (hk:k (.t []) Z->k' (.t []) Z) (h:Im P {ao with op:=o'} env Z k kp):Im P ao env Z k' kp:=by
 unfold Im at *;simp only at h;split at h
 .exact hT h
 .split at h
  .exact⟨fun e=>hT (h.1 e),fun e=>hk (h.2 e)⟩
  .exact hk h
  .exact h.elim
def MC {ao:Ar} {env:Env} {Z:AE} {k kp:V->AE->Prop} (h:Im P (DH pu fz ao) env Z k kp):Im P ao env Z (fun v Z1=> ∃vf Z2,Sub Z2 Z1/\F3 Z1 Z2 v vf/\k vf Z2) kp:=by
 have triv: ∀ {v Z},k v Z-> ∃vf Z2,Sub Z2 Z/\F3 Z Z2 v vf/\k vf Z2:=fun {v Z} h=>⟨v,Z,fun _ _ h=>h,.refl v,h⟩
 unfold DH at h;split at h
 .rename_i f as he
  cases hb:pu.contains f with
  | false=>rw[hb]at h;exact CQ h (fun _ _ h=>triv h) fun _ _ h=>h
  | true=>
    rw[hb]at h;exact U1 (fun h=>by rw[he];exact RX (fw h) (fun _ _ h=>triv h) fun _ _ h=>h) triv h
 .rename_i x he
  cases hb:(match ao.dst with|some d=>fz.contains d|none=>false)with
  | false=>rw[hb]at h;exact CQ h (fun _ _ h=>triv h) fun _ _ h=>h
  | true=>
    rw[hb]at h;exact U1 (fun h=>by rw[he];exact qV h) triv h
 .rename_i x he
  cases hb:(match ao.dst with|some d=>fz.contains d|none=>false)with
  | false=>rw[hb]at h;exact CQ h (fun _ _ h=>triv h) fun _ _ h=>h
  | true=>
    rw[hb]at h;exact U1 (fun h=>by rw[he];exact h) triv h
 .rename_i sz b x y he
  cases hb:(match ao.dst with|some d=>fz.contains d|none=>false)with
  | false=>rw[hb]at h;exact CQ h (fun _ _ h=>triv h) fun _ _ h=>h
  | true=>
    rw[hb]at h;exact U1 (fun h=>by rw[he];exact Zo h) triv h
 .exact CQ h (fun _ _ h=>triv h) fun _ _ h=>h
def Lx {ops:Array Oper} {o:Oper} {ao:Ar} (ho:Ox P N ops o=some ao) {env:Env} {Z:AE} {a:Act} {w:World} (he:CY (Hh F Z w) env a.tmps) (hR:Rel F Z w) (hN:a.tmps.size=N)
    {K:Env->AE->Prop} {kp:V->AE->Prop}
    (h:Im P ao env Z (fun v Z'=> ∃vf Z2,Sub Z2 Z'/\F3 Z' Z2 v vf/\K (put ao.dst vf env) Z2) kp)
    {next:Act->World->Prop} {Q:Exit->Act->World->Prop}
    (hn: ∀env' Z' c w',K env' Z'->CY (Hh F Z' w') env' (a.put o.dst c).tmps->Rel F Z' w'->CD F Z w Z' w'->next (a.put o.dst c) w')
    (hp: ∀v Z' c w',kp v Z'->Ah (Hh F Z' w') v c->Rel F Z' w'->CD F Z w Z' w'->Q (.panic [{v:=c,recovered:=false}]) a w') :
    if Region.wanted o (yielded ops a.tmps)then o.wpIn (wide r) n P a w next Q else(∀f,o.about P w a.eval=some f->(wide r).fn f)/\next (a.put o.dst undef) w:=by
 obtain⟨h1,h2,h3,h4⟩:=dv ho;unfold Im at h
 have hrun:Fw P ao.op env Z (fun v Z'=> ∃vf Z2,Sub Z2 Z'/\F3 Z' Z2 v vf/\K (put ao.dst vf env) Z2) kp->o.wpIn (wide r) n P a w next Q:=fun ht=>by
  refine⟨fun _ _=>trivial,?_⟩;rw[Oper.semAt_eq _ _ _ (dx h3)];refine SP (ZW h3 ht he hR) (fun v Z' c w' hk hv hr ha=>?_) hp;obtain⟨vf,Z2,hs,hf,hk⟩:=hk;exact hn _ Z2 c w' hk (by rw[h1];exact((he.mono ha.hle).mono (FP fun n hn=>hs.none hn)).put hN h2 (hf.rel hr hs hv)) (hr.drop hs) (ha.trans (CD.drop w' hs))
 rcases h4 with⟨h5,h6⟩|⟨j,b,d,h5,h6,h7⟩
 .rw[h6]at h
  have:Region.wanted o (yielded ops a.tmps)=true:=by simp[Region.wanted,h5]
  rw[if_pos this];exact hrun h
 .rw [h7]at h
  simp only at h;split at h
  .rename_i t hg
   obtain⟨c,hc,hv⟩:=he d _ hg;simp only[Ah]at hv;subst hv
   have hy:yielded ops a.tmps j=some t:=by
    unfold yielded;rw[h6];simp[hc]
   by_cases htb:t=b
   .have:Region.wanted o (yielded ops a.tmps)=true:=by simp[Region.wanted,h5,hy,htb]
    rw[if_pos this];exact hrun (h.1 htb)
   .have: ¬Region.wanted o (yielded ops a.tmps)=true:=by simp[Region.wanted,h5,hy,htb]
    rw[if_neg this];have htn:t= !b:=by cases t<;>cases b<;>simp_all
    obtain⟨vf,Z2,hs,hf,hk⟩:=h.2 htn;refine⟨fun _ _=>trivial,hn _ Z2 undef w hk ?_ (hR.drop hs) (CD.drop w hs)⟩;rw[h1];exact(he.mono (FP fun n hn=>hs.none hn)).put hN h2 (hf.rel hR hs ⟨#[],rfl,rfl,trivial⟩)
  .rename_i hg
   obtain⟨c,hc,hv⟩:=he d _ hg;simp only[Ah]at hv;obtain⟨c',rfl,hc',_⟩:=hv
   have hy:yielded ops a.tmps j=none:=by
    unfold yielded;rw[h6];simp[hc]
   have: ¬Region.wanted o (yielded ops a.tmps)=true:=by simp[Region.wanted,h5,hy]
   rw[if_neg this];obtain⟨vf,Z2,hs,hf,hk⟩:=h;refine⟨fun _ _=>trivial,hn _ Z2 undef w hk ?_ (hR.drop hs) (CD.drop w hs)⟩;rw[h1];exact(he.mono (FP fun n hn=>hs.none hn)).put hN h2 (hf.rel hR hs ⟨#[],rfl,rfl,trivial⟩)
  .exact h.elim
def Gz {ops:Array Oper}: ∀ {l:List Oper} {as:List Ar},Hi P N ops l=some as->l.length=as.length/\ ∀(i:Nat) (o:Oper),l[i]? =some o-> ∃ao,as[i]? =some ao/\Ox P N ops o=some ao
 | [],as,h=>by cases h;simp
 | o ::l,as,h=>by
   simp only[Hi]at h;split at h
   .rename_i x xs h1 h2
    cases h;obtain⟨h3,h4⟩:=Gz h2;refine⟨by simp[h3],fun i q hq=>?_⟩;cases i with
    | zero=>simp at hq;subst hq;exact⟨x,rfl,h1⟩
    | succ i=>exact h4 i q (by simpa using hq)
   .cases h
def Re {ops:Array Oper} {K:Env->AE->Prop} {kp:Env->V->AE->Prop} {Q:Ac->Env->AE->Prop} {Z₀:AE} {w₀:World}
    (U: ∀env Z,K env Z->Q .normal env Z) (hkp: ∀env v Z,kp env v Z->Q (.Bk v) env Z): ∀(as:List Ar) (j:Nat),(∀(i:Nat) (o:Oper),ops[j+i]? =some o-> ∃ao,as[i]? =some ao/\Ox P N ops o=some ao)->ops.size=j+as.length->
    ∀(env:Env) (Z:AE) (a:Act) (w:World),Jw P (as.map (DH pu fz)) K kp env Z->CY (Hh F Z w) env a.tmps->Rel F Z w->CD F Z₀ w₀ Z w->a.tmps.size=N->a.defers=ds->
    wpOpsIn (wide r) n P ops (MZ F Z₀ w₀ N ds Q) (List.range' j as.length) a w
 | [],j,_,_,env,Z,a,w,h,he,hR,hA,hN,hd=>by
   simp only[List.length_nil,List.range'_zero,wpOpsIn];exact⟨.normal,env,Z,U _ _ h,rfl,he,hR,hA,hN,hd⟩
 | ao::as,j,hget,hsz,env,Z,a,w,h,he,hR,hA,hN,hd=>by
   simp only[LF,List.range'_succ,wpOpsIn];have hlt:j<ops.size:=by simp at hsz;omega
   have hj:ops[j]? =some ops[j]:=Array.getElem?_eq_getElem hlt;obtain⟨ao',h1,h2⟩:=hget 0 ops[j] (by simp[hj]);simp at h1;subst h1;simp only[hj]
   refine Lx (K:=Jw P (as.map (DH pu fz)) K kp) (kp:=kp env) h2 he hR hN (by
    simp only[FA,Jw]at h;have:=MC h
    rwa [Lw]at this) (fun env' Z' c w' hk he' hR' hA'=>?_) (fun v Z' c w' hk hv hR' hA'=>?_)
   .exact Re U hkp as (j+1) (fun i o ho=>by
     obtain⟨x,hx,hy⟩:=hget (i+1) o (by rw[<-ho];congr 1;omega)
     exact⟨x,by simpa using hx,hy⟩) (by simp at hsz;omega) env' Z' _ w' hk he' hR' (hA.trans hA') (by rw[M4];exact hN) (by rw[put_defers];exact hd)
   .exact⟨.Bk v,env,Z',hkp _ _ _ hk,⟨c,rfl,hv⟩,he.mono hA'.hle,hR',hA.trans hA',hN,hd⟩
def MZ.trans {Z₀ Z₁:AE} {w₀ w₁:World} {Q:Ac->Env->AE->Prop} {e:Exit} {a:Act} {w:World} (hA:CD F Z₀ w₀ Z₁ w₁) (h:MZ F Z₁ w₁ N ds Q e a w):MZ F Z₀ w₀ N ds Q e a w:=by
 obtain⟨ex,env,Z,h1,h2,h3,h4,h5,h6⟩:=h;exact⟨ex,env,Z,h1,h2,h3,h4,hA.trans h5,h6⟩
def Zv {p:Nat->Prop} (h: ∃m,p m): ∃m,p m/\ ∀k,p k->m<=k:=by
 obtain⟨n,hn⟩:=h
 induction n using Nat.strongRecOn with
 | _ n ih=>
   by_cases hex: ∃k,k<n/\p k
   .obtain⟨k,h1,h2⟩:=hex
    exact ih k h1 h2
   .exact⟨n,hn,fun k hk=>Nat.le_of_not_lt fun hlt=>hex ⟨k,hlt,hk⟩⟩
def mem_ready {ops:Array Oper} {listed:Array Bool} (hs:listed.size=ops.size) {i:Nat} :
    i∈Region.ready .any ops listed↔i<ops.size/\listed[i]? =some false/\ ∀e∈direct ops i,listed[e]? =some true:=by
 unfold Region.ready;rw[Ik,List.mem_range];constructor
 .rintro⟨h1,h2⟩
  simp only[A9,Bool.not_eq_true']at h2;obtain⟨h2,h3⟩:=h2;have hl:i<listed.size:=by omega
  refine⟨h1,?_,fun e he=>?_⟩
  .rw[Array.getElem?_eq_getElem hl]
   rw[Array.getD_eq_getD_getElem?,Array.getElem?_eq_getElem hl]at h2;simpa using h2
  .unfold direct at he
   rw[Array.getElem?_eq_getElem h1]at he h3;simp only[Ya,Option.getD_some]at h3;simp only[Il,Ik]at he;obtain⟨g,⟨hg1,hg2⟩,rfl⟩:=he;rw[Array.all_eq_true_iff_forall_mem]at h3;have:=h3 g (by simpa using hg1);rw[hg2]at this;simp only[Bool.not_true,Bool.false_or]at this;rw[Array.getD_eq_getD_getElem?]at this;cases hx:listed[g.on]? with
   | none=>rw[hx]at this;cases this
   | some b=>rw[hx]at this;simp only[Option.getD_some]at this;rw[this]
 .rintro⟨h1,h2,h3⟩
  refine⟨h1,?_⟩;rw[Array.getD_eq_getD_getElem?,h2,Array.getElem?_eq_getElem h1];simp only[Option.getD_some,Bool.not_false,Ds,Ya];rw[Array.all_eq_true_iff_forall_mem];intro g hg;cases hb:Region.binds .any g with
  | false=>rfl
  | true=>
    simp only[Bool.not_true,Bool.false_or]
    rw[Array.getD_eq_getD_getElem?,h3 g.on (by
     unfold direct;rw[Array.getElem?_eq_getElem h1];simp only[Il,Ik]
     exact⟨g,⟨by simpa using hg,hb⟩,rfl⟩)]
    rfl
def YU {x y:Ar} (h:ZG x y=true):sg x y:=by
 unfold ZG at h;simp only[A9]at h;refine⟨fun d hd=>?_,fun d hd=>?_⟩
 .have h1:=h.1
  rw[hd]at h1;simp only[A9,Bool.not_eq_true',zrJ,ne_eq]at h1;exact⟨fun hm=>by have:=h1.1;rw[List.contains_eq_mem]at this;simp[hm]at this,h1.2⟩
 .have h2:=h.2
  rw[hd]at h2;simp only[Bool.not_eq_true']at h2;exact fun hm=>by rw[List.contains_eq_mem]at h2;simp[hm]at h2
def YP {x y:Ar} (h:Y3 y x=true):fresh y x:=by
 intro d hd;unfold Y3 at h;rw[hd]at h;simp only[Bool.not_eq_true']at h;exact fun hm=>by rw[List.contains_eq_mem]at h;simp[hm]at h
def XC {ops:Array Oper} {clo:List (List Nat)}: ∀ {C:List Cr},pwB ops clo C=true->C.Pairwise fun x y=>LH ops clo x y=true
 | [],_=> .nil
 | x::r,h=>by
   simp only[pwB,A9,EG]at h;exact .cons h.1 (XC h.2)
def VF {clo:List (List Nat)} {as:List Ar}: ∀ {l before:List Nat} {d:Cr},d∈ng clo as before l->as[d.i]? =some d.o/\d.re=d.su.filterMap fun j=>as[j]?
 | [],_,_,h=>by cases h
 | i ::r,before,d,h=>by
   simp only[ng]at h;split at h
   .rename_i ao hao
    rcases GM.1 h with rfl|h
    .exact⟨hao,rfl⟩
    .exact VF h
   .exact VF h
def lY {as:List Ar} {x y:Cr} (hx:as[x.i]? =some x.o) (hxr:x.re=x.su.filterMap fun j=>as[j]?) (hyr:y.re=y.su.filterMap fun j=>as[j]?) (h:okB x y=true):okD x y:=by
 unfold okB at h;simp only[A9,E9,C0]at h;obtain⟨⟨h1,h2⟩,h3⟩:=h;refine⟨by rw[hxr,List.isEmpty_iff.1 h1];rfl,YU h2,?_⟩;rcases h3 with((h3|h3)|h3)|h3
 .exact .inl h3
 .exact .inr (.inl h3)
 .refine .inr (.inr (.inl ⟨h3.1.1,?_,fun d hd=>?_⟩))
  .rw[hyr,List.mem_filterMap]
   exact⟨x.i,by have:=h3.1.2;rw[List.contains_eq_mem]at this;simpa using this,hx⟩
  .have:=h3.2
   rw[hd]at this;simp only[Bool.not_eq_true']at this;exact fun hm=>by rw[List.contains_eq_mem]at this;simp[hm]at this
 .refine .inr (.inr (.inr ⟨h3.1.1.1,by rw[hyr,List.isEmpty_iff.1 h3.1.1.2];rfl,by simpa using h3.1.2,?_⟩))
  have:=h3.2;unfold bf at this;split at this
  .rename_i z hz;exact⟨z,hz⟩
  .cases this
def Z6 {ops:Array Oper} {clo:List (List Nat)} (hclo:oJ ops clo=true) {listed:Array Bool}
    (hdc: ∀j,j<ops.size->listed[j]? =some true-> ∀e∈direct ops j,listed[e]? =some true) :
    ∀(i:Nat),i<ops.size->(∀e∈direct ops i,listed[e]? =some true)-> ∀x∈clo.getD i [],listed[x]? =some true:=by
 intro i
 induction i using Nat.strongRecOn with
 | _ i ih=>
   intro hi hd x hx;unfold oJ at hclo;rw[EG]at hclo;have h1:=hclo i (List.mem_range.2 hi);rw[EG]at h1;have h2:=h1 x hx;simp only[E9,Ij,A9]at h2;rcases h2 with h2|⟨j,hj,hlt,hm⟩
   .exact hd x (by rw[List.contains_eq_mem]at h2;simpa using h2)
   .have hji:j<i:=by rw[Nat.blt_eq]at hlt;exact hlt
    have hl:=hd j hj;exact ih j hji (by omega) (hdc j (by omega) hl) x (by rw[List.contains_eq_mem]at hm;simpa using hm)
def UA {ops : Array Oper} {as:List Ar} {clo:List (List Nat)} {C:List Cr} (hclo:oJ ops clo=true) (hpw:C.Pairwise fun x y=>LH ops clo x y=true)
    (hC: ∀d∈C,d.i<ops.size/\d.i∉direct ops d.i/\(∀e∈direct ops d.i,e<ops.size)/\(as.map (DH pu fz))[d.i]? =some d.o/\d.re=d.su.filterMap fun j=>(as.map (DH pu fz))[j]?)
    (has: ∀(i:Nat) (o:Oper),ops[i]? =some o-> ∃ao,as[i]? =some ao/\Ox P N ops o=some ao)
    {K:Env->AE->Prop} {kp:V->AE->Prop} {Q:Ac->Env->AE->Prop} {Z₀:AE} {w₀:World} (hgeq: ∀env env' Z,nZ env env'->K env Z->K env' Z)
    (U: ∀env Z,K env Z-> ∃l,Q .normal (prune l env) Z) (hkp: ∀v Z,kp v Z->Q (.Bk v) [] Z) (hU: ∀v Z m z,Z m=none->kp v Z->kp v (B7 Z m z)): ∀(fuel:Nat) (l:List Cr) (listed:Array Bool) (env:Env) (Z:AE) (a:Act) (w:World),
    l.length=fuel->l.Sublist C->listed.size=ops.size->(∀j,j<ops.size->(listed[j]? =some false↔ ∃d∈l,d.i=j))->
    (∀j,j<ops.size->listed[j]? =some true-> ∀e∈direct ops j,listed[e]? =some true)->
    Dc P l K kp env Z->CY (Hh F Z w) env a.tmps->Rel F Z w->CD F Z₀ w₀ Z w->a.tmps.size=N->a.defers=ds->wpAnyIn (wide r) n P .any ops (MZ F Z₀ w₀ N ds Q) fuel listed a w
 | 0,l,listed,env,Z,a,w,hl,hsub,hsz,hun,hdc,h,he,hR,hA,hN,hd=>by
   have:l= []:=YW.1 hl;subst this;simp only[wpAnyIn];obtain⟨l,hq⟩:=U _ _ h;refine⟨?_,.normal,_,Z,hq,rfl,he.prune l,hR,hA,hN,hd⟩;refine List.eq_nil_iff_forall_not_mem.2 fun i hi=>?_
   obtain⟨h1,h2,_⟩:=(mem_ready hsz).1 hi;obtain⟨d,hd,_⟩:=(hun i h1).1 h2;cases hd
 | fuel + 1, l,listed,env,Z,a,w,hl,hsub,hsz,hun,hdc,h,he,hR,hA,hN,hd=>by
   have hval: ∀j,j<ops.size->listed[j]? =some true\/listed[j]? =some false:=fun j hj=>by
    rw[Array.getElem?_eq_getElem (by omega)];cases listed[j]'(by omega)<;>simp
   have hpl:=hpw.sublist hsub;simp only[wpAnyIn];refine⟨fun hr=>?_,fun i hi=>?_⟩
   .exfalso
    cases l with
    | nil=>cases hl
    | cons hd' t=>
      have hCh:=hC hd' (hsub.subset (.head _))
      have:hd'.i∈Region.ready .any ops listed:=by
       refine(mem_ready hsz).2 ⟨hCh.1,(hun _ hCh.1).2 ⟨hd',.head _,rfl⟩,fun e he'=>?_⟩;have hes:=hCh.2.2.1 e he';rcases hval e hes with h1|h1
       .exact h1
       .obtain⟨d,hd1,rfl⟩:=(hun e hes).1 h1
        rcases GM.1 hd1 with rfl|hd1
        .exact absurd he' hCh.2.1
        .have hp:=(List.pairwise_cons.1 hpl).1 d hd1
         unfold LH at hp;simp only[A9]at hp;have:=hp.1.1.2;rw[List.contains_eq_mem]at this;simp[he']at this
      rw[hr]at this;cases this
   .obtain ⟨hi1,hi2,hi3⟩:=(mem_ready hsz).1 hi
    obtain⟨d,hdl,rfl⟩:=(hun i hi1).1 hi2;obtain⟨xs,ys,rfl⟩:=List.append_of_mem hdl;have hCd:=hC d (hsub.subset hdl);have hpx:=List.pairwise_append.1 hpl;have hxd: ∀x∈xs,LH ops clo x d=true:=fun x hx=>hpx.2.2 x hx d (.head _)
    have hdy: ∀y∈ys,LH ops clo d y=true:=fun y hy=>(List.pairwise_cons.1 hpx.2.1).1 y hy
    have hok: ∀x∈xs,okD x d:=fun x hx=>by
     have hCx:=hC x (hsub.subset (Pk _ hx));have hp:=hxd x hx;unfold LH at hp;simp only[A9,E9]at hp;rcases hp.2 with h1|h1
     .exfalso
      have h2:=Z6 hclo hdc d.i hi1 hi3 x.i (by rw[List.contains_eq_mem]at h1;simpa using h1);have h3:=(hun x.i hCx.1).2 ⟨x,Pk _ hx,rfl⟩;rw[h2]at h3;cases h3
     .exact lY hCx.2.2.2.1 hCx.2.2.2.2 hCd.2.2.2.2 h1
    have hfr:xs.Pairwise fun x y=>kd x.o.op= .N->fresh y.o x.o:=hpx.1.imp fun {x y} hp hN=>by
     unfold LH at hp;simp only[A9,E9]at hp;rcases hp.1.2 with h1|h1
     .rw[hN]at h1;simp at h1
     .exact YP h1
    have hb:=jy hU hgeq hok hfr h;have hops:ops[d.i]? =some ops[d.i]:=Array.getElem?_eq_getElem hi1;obtain⟨ao,hao,hro⟩:=has d.i _ hops
    have hdo:d.o=DH pu fz ao:=by
     have:=hCd.2.2.2.1;rw[Jm,hao]at this;simpa using this.symm
    unfold wpOpIn;simp only[hops];rw[hdo]at hb;refine Lx (K:=Dc P (xs++ys) K kp) (kp:=kp) hro he hR hN ?_ (fun env' Z' c w' hk he' hR' hA'=>?_) (fun v Z' c w' hk hv hR' hA'=>?_)
    .refine CQ (MC hb) (fun v Z' ⟨vf,Z2,h1,h2,hh⟩=>⟨vf,Z2,h1,h2,?_⟩) fun _ _ h=>h
     have:=hh.2
     rwa [Lw]at this
    .refine UA hclo hpw hC has hgeq U hkp hU fuel (xs++ys) _ env' Z' _ w' ?_ ?_ ?_ ?_ ?_ hk he' hR' (hA.trans hA') (by rw[M4];exact hN) (by rw[put_defers];exact hd)
     .simp only[Nl,LF]at hl ⊢
      omega
     .exact((List.Sublist.refl xs).append (K6 d ys)).trans hsub
     .simpa using hsz
     .intro j hj
      by_cases hjd:d.i=j
      .subst hjd
       rw[Array.getElem?_setIfInBounds_self_of_lt (by omega)];constructor
       .intro h;cases h
       .rintro⟨x,hx,hxi⟩
        exfalso;rcases Dy.1 hx with hx|hx
        .have:=hxd x hx
         unfold LH at this;simp only[A9]at this;have:=this.1.1.1;rw[hxi]at this;simp at this
        .have:=hdy x hx
         unfold LH at this;simp only[A9]at this;have:=this.1.1.1;rw[hxi]at this;simp at this
      .rw [Array.getElem?_setIfInBounds_ne hjd,hun j hj]
       constructor
       .rintro⟨x,hx,rfl⟩
        rcases Dy.1 hx with hx|hx
        .exact⟨x,Pk _ hx,rfl⟩
        .rcases GM.1 hx with rfl|hx
         .exact absurd rfl hjd
         .exact⟨x,Ov _ hx,rfl⟩
       .rintro⟨x,hx,rfl⟩
        rcases Dy.1 hx with hx|hx
        .exact⟨x,Pk _ hx,rfl⟩
        .exact⟨x,Ov _ (.tail _ hx),rfl⟩
     .intro j hj hlj e hej
      have hle:listed[e]? =some true:=by
       by_cases hjd:d.i=j
       .subst hjd;exact hi3 e hej
       .rw[Array.getElem?_setIfInBounds_ne hjd]at hlj
        exact hdc j hj hlj e hej
      by_cases hed:d.i=e
      .subst hed
       rw[Array.getElem?_setIfInBounds_self_of_lt (by omega)]
      .rw[Array.getElem?_setIfInBounds_ne hed]
       exact hle
    .exact⟨.Bk v,[],Z',hkp _ _ hk,⟨c,rfl,hv⟩,fun _ _ hg=>(by cases hg),hR',hA.trans hA',hN,hd⟩
def TU {env env':Env} (h:nZ env env'): ∀l:List Nat,prune l env=prune l env'
 | []=>rfl
 | s::r=>by simp only[prune,h s,TU h r]
def dq {ops:Array Oper} {as:List Ar} {C:List Cr} (h:nz ops as=some C): ∃order,ng (GC ops ops.size) as [] order=C/\dT ops (GC ops ops.size) C=true:=by
 simp only[nz]at h;cases h1:dT ops (GC ops ops.size) (ng (GC ops ops.size) as [] (Qj Yh ops as ops.size (List.range ops.size) []))with
 | true=>
   rw[h1]at h;cases h;exact⟨_,rfl,h1⟩
 | false=>
   rw[h1]at h;simp only[cond_false]at h;cases h2:dT ops (GC ops ops.size) (ng (GC ops ops.size) as [] (Qj rn ops as ops.size (List.range ops.size) []))with
   | true=>
     rw[h2]at h;cases h;exact⟨_,rfl,h2⟩
   | false=>rw[h2]at h;cases h
def Zz {ops:Array Oper} {as:List Ar} {C:List Cr} {id:Nat} (hm:P.follows .mixedOrders=true) (h1:Hi P N ops ops.toList=some as) (h2:nz ops (as.map (DH pu fz))=some C) {l:List Nat}
    {Q:Ac->Env->AE->Prop} {env:Env} {Z:AE} {a:Act} {w:World} (h:Dc P C (fun env Z=>Q .normal (prune l env) Z) (fun v Z=> ∀Z',Sub Z Z'->Q (.Bk v) [] Z') env Z)
    (he:CY (Hh F Z w) env a.tmps) (hR:Rel F Z w) (hN:a.tmps.size=N) (hd:a.defers=ds):(Code.region id ops true).wpIn (wide r) n P (MZ F Z w N ds Q) a w:=by
 obtain⟨h3,h4⟩:=Gz h1;obtain⟨order,hC,hb⟩:=dq h2
 .unfold dT at hb
  simp only[A9]at hb;obtain⟨⟨⟨⟨b1,b2⟩,b3⟩,b4⟩,b5⟩:=hb;have b1:C.length=ops.size:=Vs b1;rw[EG]at b2 b3;refine wpIn_region_any hm ?_
  refine UA (pu:=pu) (fz:=fz) (as:=as) (Z₀:=Z) (w₀:=w) b4 (XC b5) (fun d hd'=>?_) (fun i o ho=>h4 i o (by simpa using ho)) (K:=fun env Z=>Q .normal (prune l env) Z) (kp:=fun v Z=> ∀Z',Sub Z Z'->Q (.Bk v) [] Z')
   (fun env env' Z hg hq=>by rw[<-TU hg];exact hq) (fun env Z hq=>⟨l,hq⟩) (fun _ Z h=>h Z fun _ _ h=>h) (fun _ _ _ _ hm h Z' hs=>h Z' fun _ _ hh=>hs _ _ (HO hm _ _ hh)) ops.size C _ env Z a _ b1 (.refl _) (by simp) (fun j hj=>?_) (fun j hj hlj=>?_) h he ⟨hR.own,hR.lock⟩ ⟨fun _ _ _=>rfl,Hz _,rfl,rfl,rfl,fun _ h _=>h⟩ hN hd
  .have:=b3 d hd'
   simp only[A9,EG]at this;obtain⟨⟨c1,c2⟩,c3⟩:=this;obtain⟨m1,m2⟩:=VF (hC ▸ hd');refine⟨by rw[Nat.blt_eq]at c1;exact c1,fun hm=>?_,fun e he=>by have:=c3 e he;rw[Nat.blt_eq]at this;exact this,m1,m2⟩;rw[List.contains_eq_mem]at c2;simp[hm]at c2
  .constructor
   .intro _
    have:=b2 j (List.mem_range.2 hj);rw[Ij]at this;obtain⟨d,hd',hdj⟩:=this;exact⟨d,hd',Vs hdj⟩
   .intro _
    simp[hj]
  .simp[hj]at hlj
def tQ (P:Program) (f:FuncId):Prop:= ∃g,P.funcs[f]? =some g
def PS (r:Option Nat) (P:Program) (c:Code) (Q:Exit->Act->World->Prop) (a:Act) (w:World):Prop:=
 ∀ (b:Frame) (k:List Item) (cs:List Frame),b.roundOf=r->tQ P b.fn->
   ∃e a' w',Q e a' w'/\ArrivesIn (Machine.fenced P (wide r)) P (lone (b.atR a (.code c::k)) cs w) b k cs e a' w'
section
variable {Q Q':Exit->Act->World->Prop} {a:Act} {w:World}
def Hg {r:Option Nat} {m:Nat}:(wide r).room m:=fun _ h=>by simp[wide,Fence.wide]at h
def Ip {c:Code} (h:c.wpIn (wide r) n P Q a w):PS r P c Q a w:=fun b k cs hro _=>h b k cs hro trivial Hg
def Cc {c:Code} (h:PS r P c Q a w) (hq: ∀e a w,Q e a w->Q' e a w):PS r P c Q' a w:=
 fun b k cs hro hb=>let⟨e,a',w',q,x⟩:=h b k cs hro hb;⟨e,a',w',hq _ _ _ q,x⟩
def GV {b:Frame} {cs:List Frame} {w:World} (h:b.about P w=none):(lone b cs w).fenced P (wide r):=fenced_calm (n:=0) trivial Hg h
def KY {x y:Code} (h:PS r P x (Exit.then (PS r P y Q) Q) a w):PS r P (Code.seq x y) Q a w:=by
 intro b k cs hro hb;have h0:(lone (b.atR a (.code (.seq x y)::k)) cs w).fenced P (wide r):=GV rfl;obtain⟨e,a₁,w₁,hq,harr⟩:=h b (.code y::k) cs hro hb;cases e with
 | normal=>
   obtain⟨e₂,a₂,w₂,hq₂,harr₂⟩:=hq b k cs hro hb;exact⟨e₂,a₂,w₂,hq₂,.of_steps (.head h0 stepR_seq harr) harr₂⟩
 | exit id=>exact⟨_,a₁,w₁,hq,.of_steps (.one h0 stepR_seq) (.pass (x:= .code y) rfl (fun _ _=> .inl (by simp)) harr)⟩
 | goto l=>exact⟨_,a₁,w₁,hq,.of_steps (.one h0 stepR_seq) (.pass (x:= .code y) rfl (fun _ _=> .inl (by simp)) harr)⟩
 | ret=>exact⟨_,a₁,w₁,hq,.of_steps (.one h0 stepR_seq) (.pass (x:= .code y) rfl (fun _ _=> .inl (by simp)) harr)⟩
 | panic ch=>exact⟨_,a₁,w₁,hq,.of_steps (.one h0 stepR_seq) (.pass (x:= .code y) rfl (fun _ _=> .inl (by simp)) harr)⟩
 | outgrown=>exact⟨_,a₁,w₁,hq,.of_steps (.one h0 stepR_seq) (.pass (x:= .code y) rfl (fun _ _=> .inl (by simp)) harr)⟩
def kr {c:Operand} {x y:Code} {t:Bool} (hc:a.eval c= .bool t) (ht:t=true->PS r P x Q a w) (hf:t=false->PS r P y Q a w):PS r P (Code.cond c x y) Q a w:=by
 have h:PS r P (if t then x else y) Q a w:=by cases t;exact hf rfl;exact ht rfl
 exact fun b k cs hro hb=>let⟨e,a',w',q,z⟩:=h b k cs hro hb;⟨e,a',w',q,.of_steps (.one (GV rfl) (stepR_cond hc)) z⟩
def dZ {id:Nat} {c:Code} (h:PS r P c (Exit.inBlock id Q) a w):PS r P (Code.block id c) Q a w:=by
 intro b k cs hro hb;have h0:(lone (b.atR a (.code (.block id c)::k)) cs w).fenced P (wide r):=GV rfl;obtain⟨e,a₁,w₁,hq,harr⟩:=h b (.inBlock id::k) cs hro hb;cases e with
 | normal=>exact⟨.normal,a₁,w₁,hq,.head h0 stepR_block (StepsIn.trans harr (.one (GV rfl) stepR_inBlock))⟩
 | exit id'=>
   by_cases hid:id'=id
   .simp only[Exit.inBlock,hid,if_true]at hq
    exact⟨.normal,a₁,w₁,hq,.head h0 stepR_block (harr.1 k (by simp[exitTo,hid]))⟩
   .simp only[Exit.inBlock,hid,if_false]at hq
    have this:(id==id')=false:=by simp;exact fun h=>hid h.symm
    have hx:exitTo id' (.inBlock id::k)=exitTo id' k:=by simp[exitTo,this]
    exact⟨.exit id',a₁,w₁,hq,fun k' hk=> .head h0 stepR_block (harr.1 k' (by rw[hx];exact hk)),
     fun hr' hk=>let⟨k₁,h1,h2⟩:=harr.2 hr' (by rw[hx];exact hk);⟨k₁,h1,.head h0 stepR_block h2⟩⟩
 | goto l=>
   have hx:gotoIn l (.inBlock id::k)=gotoIn l k:=by simp[gotoIn]
   exact⟨_,a₁,w₁,hq,fun k' hk=> .head h0 stepR_block (harr.1 k' (by rw[hx];exact hk)),
    fun hr' hk=>let⟨k₁,h1,h2⟩:=harr.2 hr' (by rw[hx];exact hk);⟨k₁,h1,.head h0 stepR_block h2⟩⟩
 | ret=>exact⟨_,a₁,w₁,hq,.of_steps (.one h0 stepR_block) harr⟩
 | panic ch=>exact⟨_,a₁,w₁,hq,.of_steps (.one h0 stepR_block) harr⟩
 | outgrown=>exact⟨_,a₁,w₁,hq,.of_steps (.one h0 stepR_block) harr⟩
def dY {c:Code} (h:PS r P c (Exit.noGoto Q) a w):PS r P (Code.scope c) Q a w:=by
 intro b k cs hro hb;have s1:step P (lone (b.atR a (.code (.scope c)::k)) cs w)= .next (lone (b.atR a (.code c:: .inScope c::k)) cs w):=step_lone_go (by simp[stepG,stepG.exec,Frame.atR])
 have s2: ∀a w,step P (lone (b.atR a (.inScope c::k)) cs w)= .next (lone (b.atR a k) cs w):=fun a w=>step_lone_go (by simp[stepG,stepG.exec,Frame.atR])
 have h0:(lone (b.atR a (.code (.scope c)::k)) cs w).fenced P (wide r):=GV rfl;obtain⟨e,a₁,w₁,hq,harr⟩:=h b (.inScope c::k) cs hro hb;cases e with
 | normal=>exact⟨.normal,a₁,w₁,hq,.head h0 s1 (StepsIn.trans harr (.one (GV rfl) (s2 _ _)))⟩
 | exit id=>
   have hx:exitTo id (.inScope c::k)=exitTo id k:=by simp[exitTo]
   exact⟨_,a₁,w₁,hq,fun k' hk=> .head h0 s1 (harr.1 k' (by rw[hx];exact hk)),fun hr' hk=>let⟨k₁,h1,h2⟩:=harr.2 hr' (by rw[hx];exact hk);⟨k₁,h1,.head h0 s1 h2⟩⟩
 | goto l=>exact hq.elim
 | ret=>exact⟨_,a₁,w₁,hq,.of_steps (.one h0 s1) harr⟩
 | panic ch=>exact⟨_,a₁,w₁,hq,.of_steps (.one h0 s1) harr⟩
 | outgrown=>exact⟨_,a₁,w₁,hq,.of_steps (.one h0 s1) harr⟩
def kq {c:Code} (I:Act->World->Prop) (μ:Act->World->Nat) (h₀:I a w)
    (round: ∀a w,I a w->PS r P c (Exit.then (fun a' w'=>I a' w'/\μ a' w'<μ a w) Q) a w):PS r P (Code.loop c) Q a w:=by
 intro b k cs hro hb
 have key: ∀j a w,μ a w=j->I a w->
  ∃e a' w',Q e a' w'/\ArrivesIn (Machine.fenced P (wide r)) P (lone (b.atR a (.code c:: .inLoop c::k)) cs w) b k cs e a' w':=by
  intro j
  induction j using Nat.strongRecOn with
  | _ j ih=>
    intro a w hn hI;obtain⟨e,a₁,w₁,hq,harr⟩:=round a w hI b (.inLoop c::k) cs hro hb;cases e with
    | normal=>
      obtain⟨hI₁,hlt⟩:=hq;obtain⟨e₂,a₂,w₂,hq₂,harr₂⟩:=ih (μ a₁ w₁) (hn ▸ hlt) a₁ w₁ rfl hI₁;exact⟨e₂,a₂,w₂,hq₂,.of_steps (StepsIn.trans harr (.one (GV rfl) stepR_inLoop)) harr₂⟩
    | exit id=>exact⟨_,a₁,w₁,hq,.pass (x:= .inLoop c) rfl (fun _ _=> .inl (by simp)) harr⟩
    | goto l=>exact⟨_,a₁,w₁,hq,.pass (x:= .inLoop c) rfl (fun _ _=> .inl (by simp)) harr⟩
    | ret=>exact⟨_,a₁,w₁,hq,.pass (x:= .inLoop c) rfl (fun _ _=> .inl (by simp)) harr⟩
    | panic ch=>exact⟨_,a₁,w₁,hq,.pass (x:= .inLoop c) rfl (fun _ _=> .inl (by simp)) harr⟩
    | outgrown=>exact⟨_,a₁,w₁,hq,.pass (x:= .inLoop c) rfl (fun _ _=> .inl (by simp)) harr⟩
 obtain⟨e,a',w',hq,harr⟩:=key _ a w rfl h₀;exact⟨e,a',w',hq,.of_steps (.one (GV rfl) stepR_loop) harr⟩
def ZV (r:Option Nat) (P:Program) (l:Nat) (Q:Exit->Act->World->Prop) (a':Act):Ending->World->Prop
 | .returned _,w₃=> ∃jump w₄,(Instr.endLoop l).run P w₃= .ok jump w₄/\
  (match jump with
   | none=>Q .normal a' w₄
   | some c=>PS r P c Q a' w₄)
 | .panicked chain,w₃=>Q (.panic chain) a' w₃
 | .outgrown,_=>False
def Sp {g:Operand} {ps:Array Tmp} {assign body:Code}
    (h: ∀fn,tQ P fn-> ∃(l:Nat) (mark:List Deferred) (w₁:World) (d:Deferred) (w₁':World) (f:FuncId) (args:Array Value) (w₂:World),
     (Instr.enterLoop fn a.tmps ps assign body r).run P w= .ok (l,mark) w₁/\
     (resolve a.eval (rangeCall g l) 0).run P w₁= .ok d w₁'/\
     (invoke d.target d.args).run P w₁'= .ok (.enter f args) w₂/\
     CallsIn (wide r) 0 P f args w₂ (ZV r P l Q {a with defers:=mark++a.defers})) :
    PS r P (Code.rangeFunc g ps assign body) Q a w:=by
 intro b k cs hro hb;obtain⟨l,mark,w₁,d,w₁',f,args,w₂,he,hres,hinv,hF,hcall⟩:=h b.fn hb;rw[<-hro]at he;have h0:(lone (b.atR a (.code (.rangeFunc g ps assign body)::k)) cs w).fenced P (wide r):=fenced_lone (.inl trivial) (fun _ _=>trivial) Hg;have henter:=stepR_rangeFunc (P:=P) (b:=b) (a:=a) (k:=k) (cs:=cs) (w:=w) he hres hinv;obtain⟨e,w₃,fr,hR,hsteps,hfn,hleave⟩:=hcall (b.atR {a with defers:=mark++a.defers} (.inRangeFunc l::k)::cs) Hg;cases e with
 | outgrown=>exact hR.elim
 | returned v=>
   have hl:(lone fr (b.atR {a with defers:=mark++a.defers} (.inRangeFunc l::k)::cs) w₃).fenced P (wide r):=fenced_lone (.inl trivial) (fun _ _=>trivial) Hg;obtain⟨jump,w₄,hend,hj⟩:=hR
   have sback:StepsIn (Machine.fenced P (wide r)) P (lone (b.atR a (.code (.rangeFunc g ps assign body)::k)) cs w) (lone (b.atR {a with defers:=mark++a.defers} ((jump.map Item.code).toList++k)) cs w₄):=by
    refine .head h0 henter (StepsIn.trans hsteps (.head hl ?_ (.one (GV rfl) (stepR_endRangeFunc hend))));rw[<-finish_atR_inRangeFunc l v];exact step_leave_returned hleave
   cases jump with
   | none=>exact⟨.normal,_,w₄,hj,sback⟩
   | some c=>
     obtain⟨e',a'',w₅,hq,harr⟩:=hj b k cs hro hb;exact⟨e',a'',w₅,hq,.of_steps sback harr⟩
 | panicked chain=>
   have hl:(lone fr (b.atR {a with defers:=mark++a.defers} (.inRangeFunc l::k)::cs) w₃).fenced P (wide r):=fenced_lone (.inl trivial) (fun _ _=>trivial) Hg;refine⟨.panic chain,_,w₃,hR,.inRangeFunc l::k,.head h0 henter (StepsIn.trans hsteps (.one hl ?_))⟩;rw[<-Frame.raise_atR];exact step_leave_panicked hleave
def ZS (P:Program) (l:Nat) (R:Ending->World->Prop):Exit->Act->World->Prop
 | .normal,_,w=> ∃v w',(Instr.endRound l none).run P w= .ok v w'/\R (.returned v) w'
 | .ret,_,w=> ∃v w',(Instr.endRound l (some .ret)).run P w= .ok v w'/\R (.returned v) w'
 | .exit id,_,w=> ∃v w',(Instr.endRound l (some (.exit id))).run P w= .ok v w'/\R (.returned v) w'
 | .goto _,_,_=>False
 | .panic ch,a,w=>a.defers= []/\R (.panicked ch) w
 | .outgrown,_,_=>False
def SQ {l:Nat} {f:FuncId} {tmps:Array Value} {assign body:Code} {R:Ending->World->Prop} (hF:tQ P f)
    (h:PS (some l) P assign (Exit.then (fun a₁ w₁=> ∃w₂,(Instr.beginRound l).run P w₁= .ok () w₂/\PS (some l) P body (ZS P l R) a₁ w₂) (fun _ _ _=>False))
     {tmps:=tmps,defers:=[]} w) :
    RoundIn Fence.wide 0 P l f tmps assign body w R:=by
 refine⟨trivial,fun c cs _=>?_⟩
 let b:Frame:={(default:Frame)with fn:=f,kind:= .normal,roundOf:=some l}
 have hb0:Frame.round l f tmps assign body .normal=b.atR {tmps:=tmps,defers:=[]} [.code assign,.beginRound,.code body]:=by
  simp[Frame.round,Frame.atR,b]
 obtain⟨e,a₁,w₁,hq,harr⟩:=h b [.beginRound,.code body] (c::cs) rfl hF;rw[<-hb0]at harr;cases e with
 | normal=>
   obtain⟨w₂,hbr,hbody⟩:=hq
   have s1:StepsIn (Machine.fenced P (wide (some l))) P (lone (b.atR a₁ [.beginRound,.code body]) (c::cs) w₁) (lone (b.atR a₁ [.code body]) (c::cs) w₂):=
    .one (GV rfl) (stepR_beginRound rfl hbr)
   obtain⟨e₂,a₂,w₃,hq₂,harr₂⟩:=hbody b [] (c::cs) rfl hF;cases e₂ with
   | normal=>
     obtain⟨v,w₄,hend,hR⟩:=hq₂;exact⟨.returned v,w₄,hR,(StepsIn.trans harr s1).trans (StepsIn.trans harr₂ (.one (GV rfl) (stepR_round_end rfl rfl hend)))⟩
   | ret=>
     obtain⟨v,w₄,hend,hR⟩:=hq₂;obtain⟨k₁,hs⟩:=harr₂.2 rfl;exact⟨.returned v,w₄,hR,(StepsIn.trans harr s1).trans (StepsIn.trans hs (.one (GV rfl) (stepR_round_ret rfl rfl hend)))⟩
   | exit id=>
     obtain⟨v,w₄,hend,hR⟩:=hq₂;obtain⟨k₁,hk,hs⟩:=harr₂.2 rfl rfl;exact⟨.returned v,w₄,hR,(StepsIn.trans harr s1).trans (StepsIn.trans hs (.one (GV rfl) (stepR_round_exit rfl rfl hk hend)))⟩
   | goto t=>exact hq₂.elim
   | panic chain=>
     obtain⟨hd,hR⟩:=hq₂;obtain⟨todo,hs⟩:=harr₂;refine⟨.panicked chain,w₃,hR,(StepsIn.trans harr s1).trans (StepsIn.trans hs (.one (fenced_lone (.inl trivial) (fun _ _=>trivial) Hg) ?_))⟩;exact step_leave_panicked ⟨rfl,hd,hF⟩
   | outgrown=>exact hq₂.elim
 | exit id=>exact hq.elim
 | goto t=>exact hq.elim
 | ret=>exact hq.elim
 | panic chain=>exact hq.elim
 | outgrown=>exact hq.elim
end
def El (D:Nat):Deferred:={target:= .collected D,args:= #[]}
def Marks (r:Option Nat) (w₀:World) (Z:AE) (w:World) (ds l:List Deferred):Prop:=
 ∃ms:List Nat,l=ms.map El++ds/\ms.Nodup/\(∀D∈ms,w₀.heap.size<=D/\Z D=none/\w.heap[D]? =some (.deferred (some [])))/\(r≠none->ms= [])
def Marks.refl (r:Option Nat) (w₀:World) (Z:AE) (w:World) (ds:List Deferred):Marks r w₀ Z w ds ds:=⟨[],rfl,.nil,(fun _ h=>by cases h),fun _=>rfl⟩
def EB {w:World} {n:Nat} {o:Obj} (h:w.heap[n]? =some o):n<w.heap.size:=(sm.1 h).1
def Marks.HC {w₀:World} {Z Z':AE} {w w':World} {ds l:List Deferred} (h:Marks r w₀ Z w ds l) (hA:CD F Z w Z' w'):Marks r w₀ Z' w' ds l:=by
 obtain⟨ms,h1,h2,h3,hr⟩:=h;refine⟨ms,h1,h2,fun D hD=>?_,hr⟩;obtain⟨h4,h5,h6⟩:=h3 D hD;exact⟨h4,hA.names D h5 (EB h6),(hA.frame D (EB h6) h5).trans h6⟩
def Marks.trans {w₀ w₁:World} {Z₁ Z:AE} {w:World} {ds l₁ l:List Deferred} (h:Marks r w₀ Z₁ w₁ ds l₁) (hA:CD F Z₁ w₁ Z w) (hs:w₀.heap.size<=w₁.heap.size) (k:Marks r w₁ Z w l₁ l):Marks r w₀ Z w ds l:=by
 obtain⟨ms,rfl,h2,h3,hr1⟩:=h.HC hA;obtain⟨ms',rfl,h5,h6,hr2⟩:=k
 have h7 : ∀D∈ms,D<w₁.heap.size:=fun D hD=>by
  obtain⟨ms2,e,_,h9,_⟩:=h
  have:ms2=ms:=by
   have:=List.append_cancel_right e
   have hinj: ∀ {l l':List Nat},l.map El=l'.map El->l=l':=fun {l l'} hh=>by
    induction l generalizing l' with
    | nil=>cases l' with
      | nil=>rfl
      | cons _ _=>cases hh
    | cons x l ih=>cases l' with
      | nil=>cases hh
      | cons y l'=>
        simp only[FA,List.cons.injEq,El]at hh;obtain⟨h1,h2⟩:=hh;have:x=y:=by injection h1 with h1 _;injection h1
        rw[this,ih h2]
   exact(hinj this).symm
  subst this;exact EB (h9 D hD).2.2
 refine⟨ms'++ms,by simp,List.nodup_append.2 ⟨h5,h2,fun a ha b hb e=>?_⟩,fun D hD=>?_,fun h=>by rw[hr1 h,hr2 h];rfl⟩
 .subst e
  have:=(h6 a ha).1;have:=h7 a hb;omega
 .rcases Dy.1 hD with hD|hD
  .exact⟨by have:=(h6 D hD).1;omega,(h6 D hD).2⟩
  .exact h3 D hD
def DC (r:Option Nat) (Z:AE) (w:World):Prop:= ∀l,r=some l->Z l=none/\ ∃lp,w.heap[l]? =some (.loop lp)
def DC.HC {r:Option Nat} {Z Z':AE} {w w':World} (h:DC r Z w) (hA:CD F Z w Z' w'):DC r Z' w':=fun l hl=>by
 obtain⟨h1,lp,h2⟩:=h l hl;exact⟨hA.names l h1 (EB h2),lp,(hA.frame l (EB h2) h1).trans h2⟩
def DC.none {Z:AE} {w:World}:DC Option.none Z w:=fun _ h=>by cases h
def HM (r:Option Nat) (F:Nat->Prop) (Z₀:AE) (w₀:World) (N:Nat) (ds:List Deferred) (Q:Ac->Env->AE->Prop) (e:Exit) (a:Act) (w:World):Prop:=
 ∃ex env Z,Q ex env Z/\EH (Hh F Z w) ex e/\CY (Hh F Z w) env a.tmps/\Rel F Z w/\CD F Z₀ w₀ Z w/\a.tmps.size=N/\Marks r w₀ Z w ds a.defers
def MZ.t {Z₀:AE} {w₀:World} {Q:Ac->Env->AE->Prop} {e:Exit} {a:Act} {w:World} (h:MZ F Z₀ w₀ N ds Q e a w):HM r F Z₀ w₀ N ds Q e a w:=by
 obtain⟨ex,env,Z,h1,h2,h3,h4,h5,h6,h7⟩:=h;exact⟨ex,env,Z,h1,h2,h3,h4,h5,h6,by rw[h7];exact Marks.refl _ _ _ _ _⟩
def HM.trans {Z₀ Z₁:AE} {w₀ w₁:World} {ds₁:List Deferred} {Q:Ac->Env->AE->Prop} {e:Exit} {a:Act} {w:World} (hA:CD F Z₀ w₀ Z₁ w₁) (hM:Marks r w₀ Z₁ w₁ ds ds₁) (h:HM r F Z₁ w₁ N ds₁ Q e a w):HM r F Z₀ w₀ N ds Q e a w:=by
 obtain⟨ex,env,Z,h1,h2,h3,h4,h5,h6,h7⟩:=h;exact⟨ex,env,Z,h1,h2,h3,h4,hA.trans h5,h6,hM.trans h5 hA.size h7⟩
def HM.mono {Z₀:AE} {w₀:World} {Q Q':Ac->Env->AE->Prop} {e:Exit} {a:Act} {w:World} (h:HM r F Z₀ w₀ N ds Q e a w) (hq: ∀ex env Z,Q ex env Z->Q' ex env Z):HM r F Z₀ w₀ N ds Q' e a w:=by
 obtain⟨ex,env,Z,h1,h2⟩:=h;exact⟨ex,env,Z,hq _ _ _ h1,h2⟩
def cQ {w:World} {b o:Nat} {ob:Obj} (h:w.heap[b]? =some ob) (hc:ob.isCells=false):w.cell? ⟨b,o,none⟩=none:=by
 unfold World.cell?;rw[h];cases ob<;>first|rfl|(simp[Obj.isCells]at hc)
def VO {Z:AE} {w:World} {L:Nat} {ob ob':Obj} (h:w.heap[L]? =some ob) (hc:ob.isCells=false):aH (Hh F Z w) (Hh F Z (w.putObj L ob')):=by
 intro b o c hb;obtain⟨h1,h2,h3⟩:=Ga hb;rw[O6 h1 h2];by_cases he:b=L
 .subst he
  rw[cQ h hc]at h3;cases h3
 .rw[<-h3]
  exact World.cell?_of_block (w:=w) (World.putObj_heap_other he)
def Rel.put {Z:AE} {w:World} {L:Nat} {ob ob':Obj} (hR:Rel F Z w) (hL:Z L=none) (h:w.heap[L]? =some ob) (hc:ob.isCells=false):Rel F Z (w.putObj L ob') where
 own n o ho:=by
  obtain⟨h1,o',h2,h3⟩:=hR.own n o ho;have:n≠L:=fun e=>by subst e;rw[hL]at ho;cases ho
  exact⟨h1,o',(World.putObj_heap_other this).trans h2,QT.mono (VO h hc) h3⟩
 lock n hn:=by simpa using hR.lock n hn
def Ss {g:Operand} {ps:Array Tmp} {as bd:Code} {ac:AV} (h:res P N pu fz (.rangeFunc g ps as bd)=some ac) :
    ∃g' a b,BY g=some g'/\res P N pu fz as=some a/\res P N pu fz bd=some b/\(∀p∈ps.toList,p<N)/\ac= .D8 [] g' ps.toList a b:=by
 simp only[res]at h;split at h
 .rename_i g' a b h1 h2 h3
  split at h
  .rename_i hp
   cases h;rw[EG]at hp;exact⟨g',a,b,h1,h2,h3,fun p hp'=>by have:=hp p hp';rwa [Nat.blt_eq]at this,rfl⟩
  .cases h
 .cases h
def FO : ∀ {c : Code} {ac:AV},res P N pu fz c=some (erase ac)-> ∀ {Q:Ac->Env->AE->Prop} {env:Env} {Z:AE} {a:Act} {w:World},T P ac Q env Z->
    CY (Hh F Z w) env a.tmps->Rel F Z w->a.tmps.size=N->DC r Z w->PS r P c (HM r F Z w N a.defers Q) a w:=by
 intro c
 induction c with
 | skip=>
   intro ac hc Q env Z a w h he hR hN hrd;cases ac<;>simp only[res,erase,JM,reduceCtorEq]at hc
   exact Ip (n:=0) <| wpIn_skip ⟨.normal,env,Z,h,rfl,he,hR,CD.refl _ _ _,hN,Marks.refl _ _ _ _ _⟩
 | label l=>
   intro ac hc Q env Z a w h he hR hN hrd;cases ac<;>simp only[res,erase,JM,reduceCtorEq]at hc
   exact Ip (n:=0) <| wpIn_label ⟨.normal,env,Z,h,rfl,he,hR,CD.refl _ _ _,hN,Marks.refl _ _ _ _ _⟩
 | ret=>
   intro ac hc Q env Z a w h he hR hN hrd;cases ac<;>simp only[res,erase,JM,reduceCtorEq]at hc
   exact Ip (n:=0) <| wpIn_ret ⟨.ret,env,Z,h,rfl,he,hR,CD.refl _ _ _,hN,Marks.refl _ _ _ _ _⟩
 | exit id=>
   intro ac hc Q env Z a w h he hR hN hrd;cases ac<;>simp only[res,erase,JM,reduceCtorEq,AV.exit.injEq]at hc
   subst hc;exact Ip (n:=0) <| wpIn_exit ⟨.exit _,env,Z,h,rfl,he,hR,CD.refl _ _ _,hN,Marks.refl _ _ _ _ _⟩
 | seq x y ihx ihy=>
   intro ac hc Q env Z a w h he hR hN hrd;simp only[res]at hc;split at hc
   .rename_i ax ay h1 h2
    cases ac<;>simp only[erase,JM,reduceCtorEq,AV.seq.injEq]at hc
    rename_i l ax' ay';obtain⟨_,rfl,rfl⟩:=hc;simp only[T]at h;refine KY (Cc (ihx h1 h he hR hN hrd) ?_);rintro e a' w' ⟨ex,env',Z',hq,hx,he',hR',hA,hN',hM'⟩;cases ex with
    | normal=>
      simp only[EH]at hx;subst hx;simp only[Ac.andThen]at hq;rcases hq with hq|⟨env2,Z2,f1,f2,hq⟩
      .exact Cc (ihy h2 hq (he'.prune l) hR' hN' (hrd.HC hA)) fun e a w hp=>hp.trans hA hM'
      .have hA2:=hA.trans (CD.fz w' f1)
       exact Cc (ihy h2 hq ((he'.prune l).fz hR' f1 f2) (hR'.fz f1) hN' (hrd.HC hA2)) fun e a w hp=>hp.trans hA2 (hM'.HC (CD.fz (F:=F) w' f1))
    | exit id=>simp only[EH]at hx;subst hx;exact⟨.exit id,env',Z',hq,rfl,he',hR',hA,hN',hM'⟩
    | ret=>simp only[EH]at hx;subst hx;exact⟨.ret,env',Z',hq,rfl,he',hR',hA,hN',hM'⟩
    | Bk v=>obtain⟨c,rfl,hv⟩:=hx;exact⟨.Bk v,env',Z',hq,⟨c,rfl,hv⟩,he',hR',hA,hN',hM'⟩
   .cases hc
 | cond c x y ihx ihy=>
   intro ac hc Q env Z a w h he hR hN hrd;simp only[res]at hc;split at hc
   .rename_i c' ax ay h0 h1 h2
    cases ac<;>simp only[erase,JM,reduceCtorEq,AV.cond.injEq]at hc
    obtain⟨rfl,rfl,rfl⟩:=hc;simp only[T]at h;split at h
    .rename_i t ht
     have hv:=Ap he h0 ht;simp only[Ah]at hv;exact kr hv (fun e=>ihx h1 (h.1 e) he hR hN hrd) (fun e=>ihy h2 (h.2 e) he hR hN hrd)
    .exact h.elim
   .cases hc
 | block id x ih=>
   intro ac hc Q env Z a w h he hR hN hrd;obtain⟨ax,h1,hc⟩:=Aj hc;cases ac<;>simp only[erase,reduceCtorEq,AV.block.injEq]at hc
   obtain⟨rfl,rfl⟩:=hc;simp only[T]at h;refine dZ (Cc (ih h1 h he hR hN hrd) ?_);rintro e a' w' ⟨ex,env',Z',hq,hx,he',hR',hA,hN',hM'⟩;cases ex with
   | normal=>simp only[EH]at hx;subst hx;exact⟨.normal,env',Z',hq,rfl,he',hR',hA,hN',hM'⟩
   | exit id'=>
     simp only[EH]at hx;subst hx;simp only[Ac.inBlock]at hq;simp only[Exit.inBlock];cases hb:Nat.beq id' id with
     | true=>
       rw[hb]at hq;simp only[cond_true]at hq;rw[if_pos (Vs hb)];exact⟨.normal,env',Z',hq,rfl,he',hR',hA,hN',hM'⟩
     | false=>
       rw[hb]at hq;simp only[cond_false]at hq;rw[if_neg (Nat.ne_of_beq_eq_false hb)];exact⟨.exit id',env',Z',hq,rfl,he',hR',hA,hN',hM'⟩
   | ret=>simp only[EH]at hx;subst hx;exact⟨.ret,env',Z',hq,rfl,he',hR',hA,hN',hM'⟩
   | Bk v=>obtain⟨c,rfl,hv⟩:=hx;exact⟨.Bk v,env',Z',hq,⟨c,rfl,hv⟩,he',hR',hA,hN',hM'⟩
 | scope x ih=>
   intro ac hc Q env Z a w h he hR hN hrd;obtain⟨ax,h1,hc⟩:=Aj hc;cases ac<;>simp only[erase,reduceCtorEq,AV.scope.injEq]at hc
   subst hc;simp only[T]at h;refine dY (Cc (ih h1 h he hR hN hrd) ?_);rintro e a' w' ⟨ex,env',Z',hq,hx,he',hR',hA,hN',hM'⟩;cases ex with
   | normal=>simp only[EH]at hx;subst hx;exact⟨.normal,env',Z',hq,rfl,he',hR',hA,hN',hM'⟩
   | exit id=>simp only[EH]at hx;subst hx;exact⟨.exit id,env',Z',hq,rfl,he',hR',hA,hN',hM'⟩
   | ret=>simp only[EH]at hx;subst hx;exact⟨.ret,env',Z',hq,rfl,he',hR',hA,hN',hM'⟩
   | Bk v=>obtain⟨c,rfl,hv⟩:=hx;exact⟨.Bk v,env',Z',hq,⟨c,rfl,hv⟩,he',hR',hA,hN',hM'⟩
 | loop x ih=>
   intro ac hc Q env Z a w h he hR hN hrd;obtain⟨ax,h1,hc⟩:=Aj hc;cases ac<;>simp only[erase,reduceCtorEq,AV.loop.injEq]at hc
   rename_i keep ac' _;obtain⟨_,rfl⟩:=hc;simp only[T]at h;obtain⟨I,⟨n0,h0⟩,hround⟩:=h
   let J:Nat->Act->World->Prop:=fun m a' w'=> ∃env' Z',I m env' Z'/\CY (Hh F Z' w') env' a'.tmps/\Rel F Z' w'/\CD F Z w Z' w'/\a'.tmps.size=N/\Marks r w Z' w' a.defers a'.defers
   have hmin: ∀a' w',(∃m,J m a' w')-> ∃m,J m a' w'/\ ∀k,J k a' w'->m<=k:=fun a' w' hex=>Zv hex
   classical
   refine kq (fun a' w'=> ∃m,J m a' w') (fun a' w'=>if hx: ∃m,J m a' w' then Classical.choose (hmin a' w' hx)else 0) ⟨n0,Gl.prune keep env,Z,h0,he.prune keep,hR,CD.refl _ _ _,hN,Marks.refl _ _ _ _ _⟩ ?_;intro a' w' hex;have hspec:=(Classical.choose_spec (hmin a' w' hex)).1;obtain⟨env',Z',hI,he',hR',hA',hN',hM'⟩:=hspec;refine Cc (ih h1 (hround _ env' Z' hI) he' hR' hN' (hrd.HC hA')) ?_;rintro e a'' w'' ⟨ex,env'',Z'',hq,hx,he'',hR'',hA'',hN'',hM''⟩;have hM3:=hM'.trans hA'' hA'.size hM'';cases ex with
   | normal=>
     simp only[EH]at hx;subst hx;obtain⟨m,hm,hI'⟩:=hq;have hJ:J m a'' w'':=⟨_,Z'',hI',he''.prune keep,hR'',hA'.trans hA'',hN'',hM3⟩
     refine⟨⟨m,hJ⟩,?_⟩;rw[dif_pos hex,dif_pos ⟨m,hJ⟩];exact Nat.lt_of_le_of_lt ((Classical.choose_spec (hmin a'' w'' ⟨m,hJ⟩)).2 m hJ) hm
   | exit id=>simp only[EH]at hx;subst hx;exact⟨.exit id,env'',Z'',hq,rfl,he'',hR'',hA'.trans hA'',hN'',hM3⟩
   | ret=>simp only[EH]at hx;subst hx;exact⟨.ret,env'',Z'',hq,rfl,he'',hR'',hA'.trans hA'',hN'',hM3⟩
   | Bk v=>obtain⟨c,rfl,hv⟩:=hx;exact⟨.Bk v,env'',Z'',hq,⟨c,rfl,hv⟩,he'',hR'',hA'.trans hA'',hN'',hM3⟩
 | region id ops draw=>
   intro ac hc Q env Z a w h he hR hN hrd;simp only[res]at hc;split at hc
   .cases hc
   .rename_i as h1
    obtain⟨h2,h3⟩:=Gz h1;cases draw with
    | false=>
      simp only[cond_false,JM]at hc;cases ac<;>simp only[erase,reduceCtorEq,AV.DB.injEq]at hc
      subst hc;simp only[T]at h;refine Ip (n:=0) <| wpIn_mono (wpIn_region (Q:=MZ F Z w N a.defers Q) ?_) fun _ _ _ h=>h.t
      rw[List.range_eq_range',show ops.size=as.length by simpa using h2];exact Re (fun _ _ h=>h) (fun _ _ _ h=>h) as 0 (fun i o ho=>h3 i o (by simpa using ho)) (by simpa using h2) env Z a w h he hR (CD.refl _ _ _) hN rfl
    | true=>
      simp only[cond_true]at hc;cases hm:P.follows .mixedOrders with
      | false=>rw[hm]at hc;cases hc
      | true=>
        rw[hm]at hc;simp only[cond_true]at hc;obtain⟨C,hC,hc⟩:=Aj hc;cases ac<;>simp only[erase,reduceCtorEq,AV.He.injEq]at hc
        obtain⟨_,rfl⟩:=hc;simp only[T]at h;exact Ip (n:=0) <| wpIn_mono (Zz hm h1 hC h he hR hN rfl) fun _ _ _ h=>h.t
 | rangeFunc g ps as bd ih1 ih2=>
   intro ac hc Q env Z a w h he hR hN hrd;obtain⟨g',ac1,ac2,h1,h2,h3,h4,hc⟩:=Ss hc;cases ac<;>simp only[erase,reduceCtorEq,AV.D8.injEq]at hc
   rename_i keep g1 ps1 aa ab _;obtain⟨_,rfl,rfl,rfl,rfl⟩:=hc;simp only[T]at h;split at h
   .rename_i gf cap hg
    have hgv:=Ap he h1 hg;obtain⟨f',c',e1,e2,e3,e4,e5⟩:=hgv;have e2':f'= #[]:=Array.size_eq_zero_iff.1 e2;subst e2';refine Sp fun fn hfnP=>?_
    obtain ⟨L,mark,W1,lp,hrun,hlp,hfr,hR1,hA1,hM1,hrd1⟩: ∃(L:Nat) (mark:List Deferred) (W1:World) (lp:Loop),(Instr.enterLoop fn a.tmps ps as bd r).run P w= .ok (L,mark) W1/\
     (W1.heap[L]? =some (.loop lp)/\lp.state= .ready/\lp.pending=none/\lp.tmps=a.tmps/\lp.params=ps/\lp.assign=as/\lp.body=bd)/\Z L=none/\
     Rel F (B7 Z L (.loop .ready (Gl.prune keep env) (Bm P ps.toList aa ab))) W1/\CD F Z w (B7 Z L (.loop .ready (Gl.prune keep env) (Bm P ps.toList aa ab))) W1/\Marks r w (B7 Z L (.loop .ready (Gl.prune keep env) (Bm P ps.toList aa ab))) W1 a.defers (mark++a.defers)/\
     DC r (B7 Z L (.loop .ready (Gl.prune keep env) (Bm P ps.toList aa ab))) W1:=by
     have hor: ∀(w':World) (lp:Loop),Rel F Z w'->CD F Z w Z w'->lp.state= .ready->lp.pending=none->lp.tmps=a.tmps->lp.params=ps->lp.assign=as->lp.body=bd->lp.fn=fn->
      QT (Hh F Z w') (.loop .ready (Gl.prune keep env) (Bm P ps.toList aa ab)) (.loop lp):=fun w' lp hR' hA' q1 q2 q3 q4 q5 q6 q7=>by
      refine⟨lp,rfl,⟨q1,q2⟩,fun k v hm=>?_,?_⟩
      .rw[q3]
       have hg':get k env=some v:=OV hm;obtain⟨c,hc1,hc2⟩:=he k v hg';exact⟨c,hc1,hc2.mono hA'.hle⟩
      .rw[q3,q4,q5,q6,q7]
       exact⟨hfnP,rfl,by rw[hN];exact h4,pu,fz,by rw[hN];exact h2,by rw[hN];exact h3⟩
     clear ih1 ih2 h;cases r with
     | none=>
       refine⟨w.heap.size+1,_,_,{state:= .ready,pending:=none,fn,tmps:=a.tmps,params:=ps,assign:=as,body:=bd,defers:=w.heap.size},run_enterLoop_outer fn a.tmps ps as bd,?_⟩;have hsz:(w.alloc (.deferred (some []))).heap.size=w.heap.size+1:=by simp
       have hnew:=World.alloc_heap_new (w.alloc (.deferred (some []))) (.loop {state:= .ready,pending:=none,fn,tmps:=a.tmps,params:=ps,assign:=as,body:=bd,defers:=w.heap.size});rw[hsz]at hnew;have hRa:=Lv hR (.deferred (some []));have hAa:CD F Z w Z (w.alloc (.deferred (some []))):=JF w _
       have hAb:CD F Z (w.alloc (.deferred (some []))) (B7 Z (w.heap.size+1) (.loop .ready (Gl.prune keep env) (Bm P ps.toList aa ab))) ((w.alloc (.deferred (some []))).alloc (.loop {state:= .ready,pending:=none,fn,tmps:=a.tmps,params:=ps,assign:=as,body:=bd,defers:=w.heap.size})):=by
        rw[<-hsz];exact EM _ _
       have hfr:Z w.heap.size=none:=by
        cases hs:Z w.heap.size with
        | none=>rfl
        | some o=>exact absurd (hR.lt hs) (Nat.lt_irrefl _)
       refine⟨⟨hnew,rfl,rfl,rfl,rfl,rfl,rfl⟩,?_,?_,hAa.trans hAb,?_,?_⟩
       .cases hs:Z (w.heap.size+1)with
        | none=>rfl
        | some o=>have:=hR.lt hs;omega
       .rw[<-hsz]
        exact IX hRa (hor _ _ hRa hAa rfl rfl rfl rfl rfl rfl rfl)
       .refine Marks.HC (F:=F) (Z:=Z) (w:=w.alloc (.deferred (some []))) ?_ hAb
        exact⟨[w.heap.size],rfl,by simp,fun D hD=>by
         rw[KV]at hD;subst hD
         exact⟨Hz _,hfr,World.alloc_heap_new w _⟩,fun hne=>absurd rfl hne⟩
       .exact(hrd.HC hAa).HC hAb
     | some l0=>
       obtain⟨hl1,lp0,hl2⟩:=hrd l0 rfl;refine⟨w.heap.size,_,_,{state:= .ready,pending:=none,fn,tmps:=a.tmps,params:=ps,assign:=as,body:=bd,defers:=lp0.defers},run_enterLoop_inner hl2 fn a.tmps ps as bd,?_⟩;refine⟨⟨World.alloc_heap_new w _,rfl,rfl,rfl,rfl,rfl,rfl⟩,?_,IX hR (hor _ _ hR (CD.refl _ _ _) rfl rfl rfl rfl rfl rfl rfl),EM _ _,Marks.HC (F:=F) (Marks.refl _ _ _ _ _) (EM _ _),hrd.HC (F:=F) (EM _ _)⟩;cases hs:Z w.heap.size with
       | none=>rfl
       | some o=>exact absurd (hR.lt hs) (Nat.lt_irrefl _)
    obtain⟨hok,hctr⟩:=h L hfr;refine⟨L,mark,W1,{target:= .fn (.func gf) c',args:= #[.func (.yield L) #[] #[]]},W1,gf,#[.func (.yield L) #[] #[]]++c',W1,hrun,?_,?_,?_⟩
    .simp only[resolve,e1]
     simp[go_sem]
    .simp only[invoke]
     exact JG hok _ _
    .refine LW ?_
     have hargs:gT (Hh F (B7 Z L (.loop .ready (Gl.prune keep env) (Bm P ps.toList aa ab))) W1) (.f (.yield L) [] []::cap) (#[.func (.yield L) #[] #[]]++c'):=by
      have h0:gT (Hh F (B7 Z L (.loop .ready (Gl.prune keep env) (Bm P ps.toList aa ab))) W1) [.f (.yield L) [] []] #[.func (.yield L) #[] #[]]:=
       ⟨rfl,⟨_,rfl,#[],#[],rfl,rfl,trivial,rfl,trivial⟩,trivial⟩
      exact I3 h0 ⟨e4,Ba.mono hA1.hle (fun _ _ e=>e) _ _ e5⟩
     refine Calls.mono (hctr F W1 _ hR1 hargs) ?_;rintro e W2 ⟨rr,Z2,hq,hrr,hR2,hA2⟩;cases rr with
     | Bk v=>
       obtain⟨c,rfl,hv⟩:=hrr;have hsub:=GY Z2 L
       exact⟨.Bk v,env,del Z2 L,hq,⟨c,rfl,hv.mono (FP fun n hn=>hsub.none hn)⟩,(he.mono (hA1.trans hA2).hle).mono (FP fun n hn=>hsub.none hn),hR2.drop hsub,(hA1.trans hA2).trans (CD.drop W2 hsub),hN,
        (hM1.HC hA2).HC (CD.drop (F:=F) W2 hsub)⟩
     | ret v=>
       obtain⟨c,rfl,hv⟩:=hrr;obtain⟨st,env1,ok,hL2,hq⟩:=hq;have hsub:=GY Z2 L;obtain⟨hnl,ob,hob,lp2,rfl,hst,_,_⟩:=hR2.own L _ hL2;have hRd:=hR2.drop hsub;have hRf:Rel F (del Z2 L) (W2.putObj L (.loop {lp2 with state:= .exhausted})):=hRd.put (De Z2 L) hob rfl
       have hAf:CD F Z2 W2 (del Z2 L) (W2.putObj L (.loop {lp2 with state:= .exhausted})):=by
        refine⟨fun n hn h0=>World.putObj_heap_other fun e=>?_,by simp,rfl,rfl,rfl,fun n h0 _=>hsub.none h0⟩;subst e;rw[hL2]at h0;cases h0
       have hend:=run_endLoop (P:=P) hob (by cases st<;>simp only[tG]at hst<;>rw[hst.1]<;>simp);generalize W2.putObj L (.loop {lp2 with state:= .exhausted})=W3 at hRf hAf hend;have hAA:=(hA1.trans hA2).trans hAf;have hMM:=(hM1.HC hA2).HC hAf;refine⟨lp2.pending,_,hend,?_⟩;cases st with
       | ready=>
         rw[hst.2];exact⟨.normal,env,del Z2 L,hq,rfl,he.mono hAA.hle,hRf,hAA,hN,hMM⟩
       | ret=>
         rw[hst.2];exact Ip (n:=0) <| wpIn_ret ⟨.ret,env,del Z2 L,hq,rfl,he.mono hAA.hle,hRf,hAA,hN,hMM⟩
       | exit id=>
         rw[hst.2];exact Ip (n:=0) <| wpIn_exit ⟨.exit id,env,del Z2 L,hq,rfl,he.mono hAA.hle,hRf,hAA,hN,hMM⟩
   .exact h.elim
 | goto l=>intro ac hc;cases hc
 | refuse s=>intro ac hc;cases hc
end Go.Gl
namespace Go.Gl
variable {P:Program} {F:Nat->Prop} {pu:List FuncId} {fz:List Nat} {ds:List Deferred}
def Gx:List ResultVar->Option (List Nat)
 | []=>some []
 | .tmp t::r=>(Gx r).map (t:: ·)
 | .cell _ _::_=>none
def gq (env:Env):List Nat->Option (List V)
 | []=>some []
 | s::r=>match get s env,gq env r with
   | some v,some vs=>some (v::vs)
   | _,_=>none
def ny (AG:List Nat) (env:Env):Option V:=
 match gq env AG with
 | some [v]=>some v
 | some vs=>some (.t vs)
 | none=>none
def Am (Z:AE) (v:V) (Q:R->AE->Prop):Prop:= ∃vf Z',Sub Z' Z/\F3 Z Z' v vf/\Q (.ret vf) Z'
def Ae (Z:AE) (v:V) (Q:R->AE->Prop):Prop:= ∃vf Z',Sub Z' Z/\F3 Z Z' v vf/\Q (.Bk vf) Z'
def gz (AG:List Nat) (Q:R->AE->Prop):Ac->Env->AE->Prop
 | .normal,env,Z| .ret,env,Z=>wv (ny AG env) fun v=>Am Z v Q
 | .Bk v,_,Z=>Ae Z v Q
 | .exit _,_,_=>False
def BA:Nat->List V->Env
 | _,[]=>[]
 | i,v::vs=>(i,v)::BA (i+1) vs
def WO {o:Option V} {k:V->Prop} (h:wv o k): ∃v,o=some v/\k v:=by
 cases o with
 | none=>exact h.elim
 | some v=>exact⟨v,rfl,h⟩
def G1: ∀(vs:List V) (i k:Nat) (v:V),get k (BA i vs)=some v->i<=k/\vs[k - i]? =some v
 | [],_,_,_,h=>by cases h
 | u ::vs,i,k,v,h=>by
   simp only[BA,get]at h;cases hb:Nat.beq i k with
   | true=>
     rw[hb]at h;simp only[cond_true]at h;cases h;have:i=k:=Vs hb;subst this;exact⟨Hz _,by simp⟩
   | false=>
     rw[hb]at h;simp only[cond_false]at h;have hne:i≠k:=Nat.ne_of_beq_eq_false hb;obtain⟨h1,h2⟩:=G1 vs (i+1) k v h;refine⟨by omega,?_⟩;rw[show k - i=k - (i+1)+1 by omega];simpa using h2
def rT (tmps:Array Value):ResultVar->Sem Value
 | .tmp t=>pure (tmps.getD t undef)
 | .cell a t=>do loadVar t (<-asAddr (tmps.getD a undef))
def Lu (fn:Func) (tmps:Array Value):results fn tmps=(do
    let vs<-fn.results.mapM (rT tmps)
    pure (if h:vs.size=1 then vs[0]else .tuple vs)):=by
 unfold results;congr 1
def X1 {fn:Func} {AG:List Nat} (hr:Gx fn.results.toList=some AG) {H:Nat->Nat->Option Value} {env:Env} {tmps:Array Value} (he:CY H env tmps) {v:V} (hv:ny AG env=some v) (w:World) :
    ∃c,(results fn tmps).run P w= .ok c w/\Ah H v c:=by
 have key: ∀(l:List ResultVar) (AG:List Nat),Gx l=some AG-> ∀vs,gq env AG=some vs->
  ∃cs:List Value,(l.mapM (rT tmps)).run P w= .ok cs w/\cs.length=vs.length/\Ba H (fun i=>cs[i]?) 0 vs:=by
  intro l
  induction l with
  | nil=>
    intro AG hs vs hv;cases hs;cases hv;exact⟨[],by simp,rfl,trivial⟩
  | cons x l ih=>
    intro AG hs vs hv;cases x with
    | cell a t=>cases hs
    | tmp t=>
      simp only[Gx]at hs;obtain⟨s',h1,rfl⟩:=Aj hs;simp only[gq]at hv;split at hv
      .rename_i u us h2 h3
       cases hv;obtain⟨cs,h4,h5,h6⟩:=ih s' h1 us h3;obtain⟨c,h7,h8⟩:=he t u h2;refine⟨c::cs,?_,by simp[h5],⟨c,rfl,h8⟩,BF h6 (fun i _=>by rw[show 0+1+i=i+1 by omega];simp)⟩;rw[List.mapM_cons];simp only[rT,DU,FF,G9,h4,Array.getD_eq_getD_getElem?,h7,Option.getD_some]
      .cases hv
 unfold ny at hv;cases hg:gq env AG with
 | none=>rw[hg]at hv;cases hv
 | some vs =>
   obtain⟨cs,h1,h2,h3⟩:=key _ _ hr vs hg
   have hrun:(fn.results.mapM (rT tmps)).run P w= .ok cs.toArray w:=by
    rw[Array.mapM_eq_mapM_toList];simp[h1]
   rw[Lu];simp only[DU];refine⟨if h:cs.toArray.size=1 then cs.toArray[0]else .tuple cs.toArray,?_,?_⟩
   .rw[hrun]
    rfl
   .rw [hg]at hv
    by_cases h1':cs.length=1
    .rw [dif_pos (by simpa using h1')]
     match cs,h1',h2,h3 with
     | [c],_,h2,h3=>
       match vs,h2,h3,hv with
       | [u],_,h3,hv=>
         cases hv;obtain⟨⟨d,hd,hr⟩,_⟩:=h3;simp at hd;subst hd;exact hr
    .rw[dif_neg (by simpa using h1')]
     have hv':v= .t vs:=by
      match vs,hv with
      | [],hv=>cases hv;rfl
      | [u],hv=>simp at h2;exact absurd h2 h1'
      | u::u'::r,hv=>cases hv;rfl
     subst hv';exact⟨_,rfl,by simpa using h2,BF h3 (fun i _=>by simp)⟩
def CD.bF {Z₀ Z:AE} {w₀ w:World} {D:Nat} {ob:Obj} (h:CD F Z₀ w₀ Z w) (hD:w₀.heap.size<=D):CD F Z₀ w₀ Z (w.putObj D ob) where
 frame n hn h0:=(World.putObj_heap_other (by omega)).trans (h.frame n hn h0)
 size:=by simpa using h.size
 os:=h.os
 tape:=h.tape
 output:=h.output
 names:=h.names
def DT {AD:Fence} {n:Nat} {fn:Func} {tmps:Array Value} {R:Ending->World->Prop} {u:FrameMode} (hu:u≠ .run) {Z₀ Z:AE} {w₀:World}: ∀(ms:List Nat) (w:World),ms.Nodup->
    (∀D∈ms,w₀.heap.size<=D/\Z D=none/\w.heap[D]? =some (.deferred (some [])))->Rel F Z w->CD F Z₀ w₀ Z w->(∀w',Rel F Z w'->CD F Z₀ w₀ Z w'->aH (Hh F Z w) (Hh F Z w')->LeavesInM AD n P fn tmps R ds u w')->
    LeavesInM AD n P fn tmps R (ms.map El++ds) u w
 | [],w,_,_,hR,hA,h=>h w hR hA fun _ _ _ h=>h
 | D::ms,w,hnd,hms,hR,hA,h=>by
   obtain⟨h1,h2,h3⟩:=hms D (.head _);have hnd':=List.nodup_cons.1 hnd;refine⟨hu,.inl ⟨D,_,rfl,run_takeDeferred h3,?_⟩⟩;have hle:=VO (F:=F) (Z:=Z) (ob':= .deferred none) h3 rfl;refine DT hu ms _ hnd'.2 (fun E hE=>?_) (hR.put h2 h3 rfl) (hA.bF h1) fun w' q1 q2 q3=>h w' q1 q2 fun b o c hc=>q3 b o c (hle b o c hc)
   obtain⟨h4,h5,h6⟩:=hms E (.tail _ hE);exact⟨h4,h5,(World.putObj_heap_other (fun e=>hnd'.1 (by rw[<-e];exact hE))).trans h6⟩
def G8 {n:Nat} {f:FuncId} {fn:Func} {c:Code} {args:Array Value} {w:World} {R:Ending->World->Prop}
    (hf:P.funcs[f]? =some fn) (hb:fn.body=some c)
    (h:PS none P c (bodyPostM (wide none) n P fn R) {tmps:=args++Array.replicate (fn.ntmps - args.size) undef,defers:=[]} w):CallsIn (wide none) n P f args w R:=by
 refine⟨trivial,fun cs hr=>?_⟩
 let b:Frame:={(default:Frame)with fn:=f,kind:= .normal,roundOf:=none}
 have henter:Frame.enter P f args .normal =
  b.atR {tmps:=args++Array.replicate (fn.ntmps - args.size) undef,defers:=[]} [.code c]:=by
  simp[Frame.enter,Frame.atR,hf,hb,b]
 obtain⟨e,a',w',hq,harr⟩:=h b [] cs rfl ⟨fn,hf⟩;rw[<-henter]at harr;cases e with
 | normal=>
   obtain⟨e',w'',fr',hR,hs,hfn,hl⟩:=leaves_stepsInM a'.defers .returning w' {b.atR a' []with mode:= .returning} cs rfl rfl rfl hf rfl trivial hr hq;exact⟨e',w'',fr',hR,ComesIn.of_steps (StepsIn.trans harr (.one (fenced_calm (fr:=b.atR a' []) trivial hr rfl) (stepR_end rfl))) hs,hfn,hl⟩
 | ret=>
   obtain⟨todo,hs₀⟩:=harr.1 rfl;obtain⟨e',w'',fr',hR,hs,hfn,hl⟩:=leaves_stepsInM a'.defers .returning w' {b.atR a' todo with mode:= .returning} cs rfl rfl rfl hf rfl trivial hr hq;exact⟨e',w'',fr',hR,ComesIn.of_steps hs₀ hs,hfn,hl⟩
 | panic chain=>
   obtain⟨todo,hs₀⟩:=harr;obtain⟨e',w'',fr',hR,hs,hfn,hl⟩:=leaves_stepsInM a'.defers (.panicking chain) w' {b.atR a' todo with mode:= .panicking chain} cs rfl rfl rfl hf rfl trivial hr hq;exact⟨e',w'',fr',hR,ComesIn.of_steps hs₀ hs,hfn,hl⟩
 | exit id=>exact hq.elim
 | goto l=>exact hq.elim
 | outgrown=>exact⟨.outgrown,w',b,hq,harr.resolve_left (by simp[b]),rfl,trivial⟩
def mf {f:FuncId} {fn:Func} {c:Code} {ac:AV} {AG:List Nat} (hf:P.funcs[f]? =some fn) (hok:okF P f=true) (hb:fn.body=some c) (hr:Gx fn.results.toList=some AG)
    {args:List V} (hn:args.length<=fn.ntmps) (hc:res P fn.ntmps pu fz c=some (erase ac)) {Z:AE} {Q:R->AE->Prop} (h:T P ac (gz AG Q) (BA 0 args) Z):Au P f args Z Q:=by
 refine⟨hok,fun F w cs hR hv=>?_⟩;refine callsIn_wide (n:=0) |>.1 (G8 hf hb ?_)
 have he:CY (Hh F Z w) (BA 0 args) (cs++Array.replicate (fn.ntmps - cs.size) undef):=by
  intro k v hg;obtain⟨_,h2⟩:=G1 args 0 k v hg;simp only[Nat.sub_zero]at h2;obtain⟨d,h3,h4⟩:=Bj.1 hv.2 k v h2;simp only[HG]at h3;refine⟨d,?_,h4⟩;rw[Array.getElem?_append_left (by have:=(sm.1 h3).1;exact this)];exact h3
 have hsz:(cs++Array.replicate (fn.ntmps - cs.size) undef).size=fn.ntmps:=by
  simp only[Array.size_append,Array.size_replicate];have:=hv.1;omega
 refine Cc (FO (r:=none) (a:={tmps:=cs++Array.replicate (fn.ntmps - cs.size) undef,defers:=[]}) hc h he hR hsz DC.none) ?_;rintro e a' w' ⟨ex,env,Z',hq,hx,he',hR',hA,hN,ms,hms,hnd,hD,_⟩;simp only[Ez]at hms
 have fin: ∀v vf Z'',ny AG env=some v->Sub Z'' Z'->F3 Z' Z'' v vf->Q (.ret vf) Z''->LeavesInM (wide none) 0 P fn a'.tmps (fun e w'=> ∃r Z',Q r Z'/\WL (Hh F Z' w') r e/\Rel F Z' w'/\CD F Z w Z' w') a'.defers .returning w':=fun v vf Z'' h1 h2 h3 h4=>by
  rw[hms,<-Ez (ms.map El)];refine DT (by simp) ms w' hnd hD hR' hA fun w2 q1 q2 q3=>?_
  obtain⟨c,h5,h6⟩:=X1 (P:=P) hr (he'.mono q3) h1 w2;exact⟨c,h5,.ret vf,Z'',h4,⟨c,rfl,h3.rel q1 h2 h6⟩,q1.drop h2,q2.trans (CD.drop w2 h2)⟩
 cases ex with
 | normal=>
   simp only[EH]at hx;subst hx;obtain⟨v,h1,vf,Z'',h2,h3,h4⟩:=WO hq;exact fin v vf Z'' h1 h2 h3 h4
 | ret=>
   simp only[EH]at hx;subst hx;obtain⟨v,h1,vf,Z'',h2,h3,h4⟩:=WO hq;exact fin v vf Z'' h1 h2 h3 h4
 | exit id=>exact hq.elim
 | Bk v=>
   obtain⟨c,rfl,hv'⟩:=hx;obtain⟨vf,Z'',h2,h3,h4⟩:=hq;show LeavesInM _ _ _ _ _ _ a'.defers (.panicking _) w';rw[hms,<-Ez (ms.map El)];refine DT (by simp) ms w' hnd hD hR' hA fun w2 q1 q2 q3=>?_
   exact⟨.Bk vf,Z'',h4,⟨c,rfl,h3.rel q1 h2 (hv'.mono q3)⟩,q1.drop h2,q2.trans (CD.drop w2 h2)⟩
def L5 {f:FuncId} {fn:Func} {ac:AV} {AG:List Nat} (hf:P.funcs[f]? =some fn) (hok:okF P f=true) (hb:fn.body.bind (res P fn.ntmps pu fz)=some (erase ac)) (hr:Gx fn.results.toList=some AG)
    {args:List V} (hn:args.length<=fn.ntmps) {Z:AE} {Q:R->AE->Prop} (h:T P ac (gz AG Q) (BA 0 args) Z):Au P f args Z Q:=by
 cases hc:fn.body with
 | none=>rw[hc]at hb;cases hb
 | some c=>rw[hc]at hb;exact mf hf hok hc hr hn hb h
def scalar:V->Bool
 | .b _=>true
 | .i _ _=>true
 | .t vs=>vs.all fun| .b _=>true| .i _ _=>true|_=>false
 | _=>false
def ZO {H H':Nat->Nat->Option Value} {v:V} {c:Value} (hs:scalar v=true) (h:Ah H v c):Ah H' v c:=by
 cases v<;>try(simp[scalar]at hs;done)
 .exact h
 .exact h
 .rename_i vs
  obtain⟨c',rfl,h1,h2⟩:=h;refine⟨c',rfl,h1,?_⟩;rw[Bj]at *;intro i v hv;obtain⟨d,hd,hr⟩:=h2 i v hv;refine⟨d,hd,?_⟩;simp only[scalar,EG]at hs;have:=hs v (Bp hv);cases v<;>first|(simp at this;done)|exact hr
def Pure.MI {f:FuncId} {args args':List V} {v:V} (h:Pure P f args' v) {Z:AE} (hf:DW Z emp args args') (hs:scalar v=true) {k kp:V->AE->Prop} (hk:k v Z):Au P f args Z (qk k kp):=by
 refine⟨h.1,fun F w cs hR hv=>?_⟩;have hsub:Sub emp Z:=fun n o ho=>by cases ho
 refine Calls.mono (h.2 F w cs (hR.drop hsub) ⟨by rw[hf.length];exact hv.1,hf.rel hR hsub (fun _ _ e=>e) hv.2⟩) fun e w' ⟨r,Z',⟨hr,hs'⟩,h1,h2,h3⟩=>?_
 subst hr;subst hs';obtain⟨c,rfl,hv'⟩:=h1;exact⟨.ret v,Z,hk,⟨c,rfl,ZO hs hv'⟩,TQ hR h3,Vb h3⟩
end Go.Gl
namespace Go.Gl
variable {P:Program} {Z:AE} {env env':Env}
def A7 {v vf:V} (h:F3 Z emp v vf):Am Z v (fun r Z'=>r= .ret vf/\Z'=emp):=⟨vf,emp,fun n o ho=>(by cases ho),h,rfl,rfl⟩
def AH {v vf:V} (h:v=vf):Am Z v (fun r Z'=>r= .ret vf/\Z'=emp):=A7 (h ▸ .refl v)
def Oo {K K':Env->AE->Prop} {kp kp':Env->V->AE->Prop} (hm: ∀env Z,K env Z->K' env Z) (hp: ∀env v Z,kp env v Z->kp' env v Z): ∀ {os:List Ar} {env:Env} {Z:AE},Jw P os K kp env Z->Jw P os K' kp' env Z
 | [],_,_,h=>hm _ _ h
 | _::_,_,_,h=>CQ h (fun _ _ h=>Oo hm hp h) (hp _)
def MB {K K':Env->AE->Prop} {kp kp':V->AE->Prop} (hm: ∀env Z,K env Z->K' env Z) (hp: ∀v Z,kp v Z->kp' v Z): ∀ {os:List Cr} {env:Env} {Z:AE},Dc P os K kp env Z->Dc P os K' kp' env Z
 | [],_,_,h=>hm _ _ h
 | _::_,_,_,h=>CQ h (fun _ _ h=>⟨h.1,MB hm hp h.2⟩) hp
end Go.Gl
namespace Go.Gl
variable {P:Program} {Z:AE} {env env':Env}
def kC {A B:Prop} (h:A):(true=true->A)/\(true=false->B):=⟨fun _=>h,fun e=>by cases e⟩
def kD {A B:Prop} (h:B):(false=true->A)/\(false=false->B):=⟨fun e=>(by cases e),fun _=>h⟩
def rI {A B:Prop} (h:A):(false=false->A)/\(false=true->B):=⟨fun _=>h,fun e=>by cases e⟩
def rH {A B:Prop} (h:B):(true=false->A)/\(true=true->B):=⟨fun e=>(by cases e),fun _=>h⟩
def fork {p:Prop} [Decidable p] {A B:Prop} (h1:p->A) (h2: ¬p->B):(decide p=true->A)/\(decide p=false->B):=⟨fun h=>h1 (of_decide_eq_true h),fun h=>h2 (of_decide_eq_false h)⟩
def b7 {a b:Int} {A B:Prop} (h1:a=b->A) (h2:a≠b->B):((a==b)=true->A)/\((a==b)=false->B):=⟨fun h=>h1 (by simpa using h),fun h=>h2 (by simpa using h)⟩
def qZ {a b:Int} {A B:Prop} (h1:a≠b->A) (h2:a=b->B):((a != b)=true->A)/\((a != b)=false->B):=⟨fun h=>h1 (by simpa using h),fun h=>h2 (by simpa using h)⟩
def wrap64 {n:Int} (h1: -9223372036854775808<=n) (h2:n<=9223372036854775807):IntKind.i64.wrap n=n:=by rw[IntKind.wrap_i64];omega
def jO {α:Type} {enc:α->List V} {xs:List α} {k:Nat} (h:(k:Int)<((xs.map enc).length:Nat)):k<xs.length:=by
 rw[B9]at h;omega
def cH {α:Type} {enc:α->List V} {xs:List α} {k:Nat} (hk:k<=xs.length) (h: ¬(k:Int)<((xs.map enc).length:Nat)):k=xs.length:=by
 rw[B9]at h;omega
def W5 {α:Type} {enc:α->List V} {xs:List α} {f:Bool} {sz:Nat} {ki:IntKind} {j:Int} {K:V->AE->Prop} (l:Nat) (hj:j=l) (hl:l<=xs.length) (hs: ∀x,(enc x).length=sz) (h:K (.l ((xs.drop l).map enc) f) Z) :
    AQ Z sz (.l (xs.map enc) f) (some (.i ki j)) none none K:=by
 subst hj;refine⟨fun e he=>?_,?_⟩
 .obtain⟨x,_,rfl⟩:=Il.1 he
  exact hs x
 .simp only[Ow,B9]
  refine⟨by omega,by omega,by omega,?_⟩;rw[Fi,Fi,List.take_of_length_le (by simp)];simpa using h
def exitTo (B:Nat) (J:Env->AE->Prop) (Q:Ac->Env->AE->Prop):Ac->Env->AE->Prop
 | .exit id,env,Z=>bif Nat.beq id B then J env Z else Q (.exit id) env Z
 | .normal,env,Z=>Q .normal env Z
 | .ret,env,Z=>Q .ret env Z
 | .Bk v,env,Z=>Q (.Bk v) env Z
end Go.Gl
