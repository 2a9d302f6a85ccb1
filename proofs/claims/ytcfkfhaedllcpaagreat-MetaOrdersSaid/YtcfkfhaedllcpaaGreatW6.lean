import Derived.DeepKeys3
import Derived.StringKeys
import Derived.Test.YtcfkfhaedllcpaaGreatW5
set_option linter.all false
set_option linter.defProp false
set_option maxHeartbeats 8000000
noncomputable section
namespace Go.Gl
variable {P:Program} {F:Nat->Prop} {Z:AE} {w:World} {k kp:V->AE->Prop}
structure KL (P:Program) (kt:TypeId) (ok:Value->Prop):Prop where
 check: ∀(w:World) (em:Bool) {v:Value},ok v->(Instr.checkKey em 10000 kt v).run P w= .ok () w
 find: ∀(w:World) {x:Value},ok x-> ∀es:List MapEntry,(∀e∈es,ok e.key)->
  ((Instr.findKey kt x es).run P w= .ok none w/\ ∀e∈es,e.key≠x)\/ ∃j e,(Instr.findKey kt x es).run P w= .ok (some (j,e.val)) w/\es[j]? =some e/\e.key=x
 stays: ∀(w:World) {v:Value},ok v->(Instr.keyThatStays v v).run P w= .ok v w
def KL.of_law {kt:TypeId} (K:WideMaps.KeyLaw P kt):KL P kt fun v=> ∃l,keyOf P kt v=some l where
 check w em _ h:=let⟨_,h⟩:=h;K.check w em h
 find w _ h es hes:=let⟨_,h⟩:=h;K.find w h es hes
 stays w _ h:=let⟨_,h⟩:=h;K.stays w h
def OB {q:IntKind} {ki:IntKind} (a:Int): ∀(es:List MapEntry) (i:Nat),(∀e∈es,∃b,e.key= .int ki b)->
    (Instr.findNow (.int q) (.int ki a) es i=some none/\ ∀e∈es,e.key≠ .int ki a)\/ ∃j e,Instr.findNow (.int q) (.int ki a) es i=some (some (i+j,e.val))/\es[j]? =some e/\e.key= .int ki a
 | [],i,_=> .inl ⟨rfl,by simp⟩
 | e ::es,i,h=>by
   obtain⟨b,hb⟩:=h e (.head _);simp only[Instr.findNow,hb,Instr.sameNow,if_true];by_cases hab:a=b
   .subst hab
    refine .inr ⟨0,e,by simp,rfl,hb⟩
   .have:(a==b)=false:=by simpa using hab
    rw[this];rcases OB a es (i+1) (fun e he=>h e (.tail _ he))with⟨h1,h2⟩|⟨j,e',h1,h2,h3⟩
    .refine .inl ⟨h1,fun e' he'=>?_⟩
     rcases Fm.1 he' with rfl|he'
     .rw[hb];intro e;cases e;exact hab rfl
     .exact h2 e' he'
    .exact .inr ⟨j+1,e',by rw[h1,show i+1+j=i+(j+1) by omega],h2,h3⟩
def dG {kt:TypeId} {q:IntKind} (hu:P.underlying kt=some (.int q)) (em:Bool) (n:Nat) (ki:IntKind) (b:Int):(Instr.checkKey em (n+1) kt (.int ki b)).run P w= .ok () w:=by
 simp only[Instr.checkKey,DG,BI hu,GS,Ej]
def KL.int {kt:TypeId} {q:IntKind} (hu:P.underlying kt=some (.int q)) (ki:IntKind):KL P kt fun v=> ∃b,v= .int ki b where
 check w em v h:=by
  obtain⟨b,rfl⟩:=h;exact dG hu em 9999 ki b
 find w x h es hes:=by
  obtain⟨b,rfl⟩:=h;unfold Instr.findKey;simp only[DG,BI hu,GS];rcases OB (q:=q) b es 0 hes with⟨h1,h2⟩|⟨j,e,h1,h2,h3⟩
  .exact .inl ⟨by rw[h1];rfl,h2⟩
  .exact .inr ⟨j,e,by rw[h1,Gj];rfl,h2,h3⟩
 stays w v h:=by
  obtain⟨b,rfl⟩:=h;unfold Instr.keyThatStays;have:Instr.sameBits 10000 (.int ki b) (.int ki b)=true:=by simp[Instr.sameBits]
  rw[this];rfl
def Ints (cs cs':List Value):Prop:=cs.length=cs'.length/\ ∀(i:Nat) (a:Value),cs[i]? =some a-> ∃(q:IntKind) (n m:Int),a=Value.int q n/\cs'[i]? =some (Value.int q m)/\(Lit.int q m).wf=true
def Ints.part {cs cs':List Value} (h:Ints cs cs') (o n:Nat):Ints ((cs.drop o).take n) ((cs'.drop o).take n):=by
 refine⟨by simp[h.1],fun i a ha=>?_⟩;rw[List.getElem?_take]at ha ⊢;split at ha
 .rename_i hi
  rw[if_pos hi];rw[vS]at ha ⊢;exact h.2 _ _ ha
 .cases ha
def Tx {α β:Type} {f g:α->Option β}: ∀ {l:List α} {ys:List β},(∀x∈l,∀y,f x=some y-> ∃y',g x=some y')->l.mapM f=some ys-> ∃ys',l.mapM g=some ys'
 | [],_,_,_=>⟨[],by simp⟩
 | x::l,ys,h,hm=>by
   rw[List.mapM_cons]at hm;simp only[bind,Option.bind_eq_some_iff,pure,Hl]at hm;obtain⟨y,h1,ys',h2,rfl⟩:=hm;obtain⟨y',h3⟩:=h x (.head _) y h1;obtain⟨ys'',h4⟩:=Tx (fun x hx=>h x (.tail _ hx)) h2;exact⟨y'::ys'',by rw[List.mapM_cons];simp[h3,h4]⟩
def K4: ∀(D:Nat) (t:TypeId) {cs cs':List Value} {l:List Lit},Ints cs cs'->P.keyLits D t cs=some l-> ∃l',P.keyLits D t cs'=some l'
 | 0,_,_,_,_,_,h=>by simp[Program.keyLits]at h
 | D + 1,t,cs,cs',l,hi,h=>by
   unfold Program.keyLits at h ⊢;split at h
   .rename_i b _
    obtain⟨q,n,m,e,_⟩:=hi.2 0 _ rfl;cases e
   .rename_i q q' n hu
    obtain⟨q2,n2,m,e,e2,e3⟩:=hi.2 0 _ rfl;cases e;have hl:cs'.length=1:=hi.1.symm
    match cs',hl,e2 with
    | [c],_,e2=>
      simp only[nr,Hl]at e2;subst e2;split at h
      .rename_i hq
       obtain⟨rfl,_⟩:=hq;simp only[hu];exact⟨_,if_pos ⟨trivial,e3⟩⟩
      .cases h
   .obtain⟨q,n,m,e,_⟩:=hi.2 0 _ rfl
    cases e
   .rename_i n e hu
    simp only[hu];split at h
    .rename_i hl
     rw[if_pos (by rw[<-hi.1];exact hl)];obtain⟨ys,h1,_⟩:=Ag h;obtain⟨ys',h2⟩:=Tx (g:=fun i=>P.keyLits D e ((cs'.drop (i*P.cellsOf e)).take (P.cellsOf e))) (fun i _ y hy=>K4 D e (hi.part _ _) hy) h1;exact⟨_,by rw[h2];rfl⟩
    .cases h
   .rename_i fs hu
    simp only[hu];split at h
    .rename_i hl
     rw[if_pos (by rw[<-hi.1];exact hl)];obtain⟨ys,h1,_⟩:=Ag h;obtain⟨ys',h2⟩:=Tx (g:=fun f=>P.keyLits D f.type ((cs'.drop f.offset).take (P.cellsOf f.type))) (fun f _ y hy=>K4 D f.type (hi.part _ _) hy) h1;exact⟨_,by rw[h2];rfl⟩
    .cases h
   .cases h
def rH:V->Option IntKind| .i q _=>some q|_=>none
def T2:List V->Option (List IntKind)
 | []=>some []
 | c::cs=>match rH c,T2 cs with|some q,some l=>some (q::l)|_,_=>none
def Uo (P:Program) (kt:TypeId):Option KS:=
 match P.underlying kt with
 | some (.int k)=>some (.i k)
 | some .string=>some .s
 | some (.array _ _)|some (.struct _)=>match zeroOf P kt with
   | some (.a cs)=>match T2 cs with
     | some l=>if P.keyType kt&&P.keyTypeAt 6 kt&&P.tiled 6 kt&&(P.keyLits (P.types.size+1) kt (l.map fun q=> .int q 0)).isSome&&Nat.beq l.length (P.cellsOf kt)then some (.a l)else none
     | none=>none
   | _=>none
 | _=>none
def IE {H:Nat->Nat->Option Value} {g:Nat->Option Value}: ∀ {l:List IntKind} {cs:List V} {o:Nat},DT l cs=true->BT H g o cs->
    cs.length=l.length/\ ∀(i:Nat) (q:IntKind),l[i]? =some q-> ∃m:Int,cs[i]? =some (.i q m)/\g (o+i)=some (.int q m)/\q.min<=m/\m<=q.max
 | [],[],_,_,_=>⟨rfl,by simp⟩
 | [],_::_,_,h,_=>by simp[DT]at h
 | q::l,[],_,h,_=>by simp[DT]at h
 | q ::l,c::cs,o,h,hv=>by
   cases c<;>simp only[DT,LG]at h
   rename_i q' n;simp only[BD,CN]at h;obtain⟨rfl,h⟩:=h;obtain⟨⟨c,h1,⟨rfl,h2⟩⟩,h3⟩:=hv;obtain⟨h4,h5⟩:=IE h h3;refine⟨by simp[h4],fun i q' hq=>?_⟩;cases i with
   | zero=>simp only[nr,Hl]at hq;subst hq;exact⟨n,rfl,h1,h2⟩
   | succ i=>
     obtain⟨m,h6,h7,h8⟩:=h5 i q' (by simpa using hq);exact⟨m,by simpa using h6,by rw[<-h7];congr 1;omega,h8⟩
def oV {kt:TypeId} {ks:KS} (h:Uo P kt=some ks): ∃ok,KL P kt ok/\ ∀(H:Nat->Nat->Option Value) (v:V) (c:Value),BN ks v=true->Ab H v c->ok c:=by
 unfold Uo at h
 have agg: ∀(hw:(match P.underlying kt with|some (.array _ _)|some (.struct _)=>true|_=>false)=true),(match zeroOf P kt with
  | some (.a cs)=>match T2 cs with
    | some l=>if P.keyType kt&&P.keyTypeAt 6 kt&&P.tiled 6 kt&&(P.keyLits (P.types.size+1) kt (l.map fun q=>Value.int q 0)).isSome&&Nat.beq l.length (P.cellsOf kt)then some (.a l)else none
    | none=>none
  | _=>none)=some ks-> ∃ok,KL P kt ok/\ ∀(H:Nat->Nat->Option Value) (v:V) (c:Value),BN ks v=true->Ab H v c->ok c:=fun hw h=>by
  split at h
  .split at h
   .rename_i l _
    split at h
    .rename_i hc
     cases h;simp only[BD]at hc;obtain⟨⟨⟨⟨c1,c2⟩,c3⟩,c4⟩,c5⟩:=hc;refine⟨_,KL.of_law (deep_law (m:=6) (by omega) c2 c3 hw),fun H v c hv hr=>?_⟩;cases v<;>simp only[BN,LG]at hv
     rename_i cs;obtain⟨c',rfl,h1,h2⟩:=hr;obtain⟨h3,h4⟩:=IE hv h2;have hsz:c'.size=P.cellsOf kt:=by rw[h1,h3];exact UX c5
     obtain⟨L,hL⟩:=Option.isSome_iff_exists.1 c4
     obtain⟨L',hL'⟩:=K4 (P:=P) (P.types.size+1) kt (cs:=l.map fun q=>Value.int q 0) (cs':=c'.toList) ⟨by simp[h1,h3],fun i a ha=>by
      rw[Md]at ha;obtain⟨q,hq,rfl⟩:=Ag ha;obtain⟨m,_,h6,h7⟩:=h4 i q hq
      refine⟨q,0,m,rfl,by simpa using h6,by simpa[Lit.wf]using h7⟩⟩ hL
     have hf:(Value.agg c').formed P kt=true:=by
      unfold Value.formed;split at hw<;>simp_all
     refine⟨.string (keyBytes L'),?_⟩;unfold keyOf;split at hw
     .rename_i hu;simp only[hu,c1,hf,Bool.and_self,if_true];show Option.map _ (P.keyLits _ kt c'.toList)=_;rw[hL'];rfl
     .rename_i hu;simp only[hu,c1,hf,Bool.and_self,if_true];show Option.map _ (P.keyLits _ kt c'.toList)=_;rw[hL'];rfl
     .cases hw
    .cases h
   .cases h
  .cases h
 split at h
 .rename_i q0 hu
  cases h;refine⟨_,KL.int hu q0,fun H v c hv hr=>?_⟩;cases v<;>simp only[BN,LG]at hv
  rename_i q n;obtain⟨rfl,_⟩:=hr;have:=of_decide_eq_true hv;subst this;exact⟨n,rfl⟩
 .rename_i hu
  cases h;refine⟨_,KL.of_law (WideMaps.string_law hu),fun H v c hv hr=>?_⟩;cases v<;>simp only[BN,LG]at hv
  have hr':c= .string _:=hr;subst hr';exact⟨_,WideMaps.keyOf_string_mk hu (Nat.le_trans (Nat.le_of_ble_eq_true hv) (by decide))⟩
 .rename_i hu;exact agg (by rw[hu]) h
 .rename_i hu;exact agg (by rw[hu]) h
 .cases h
def Qe: ∀ {l:List IntKind} {cs ds:List V},DT l cs=true->DT l ds=true-> ∃r,Bo cs ds=some r/\(r=true↔cs=ds)
 | [],[],[],_,_=>⟨true,rfl,by simp⟩
 | [],_::_,_,h,_=>by simp[DT]at h
 | [],[],_::_,_,h=>by simp[DT]at h
 | _::_,[],_,h,_=>by simp[DT]at h
 | _::_,_::_,[],_,h=>by simp[DT]at h
 | q ::l,c::cs,d::ds,h,h'=>by
   cases c<;>simp only[DT,LG]at h
   cases d<;>simp only[DT,LG]at h'
   rename_i k a k' b;simp only[BD,CN]at h h';obtain⟨rfl,h⟩:=h;obtain⟨rfl,h'⟩:=h';obtain⟨r,h1,h2⟩:=Qe h h';refine⟨(a==b)&&r,by simp[Bo,h1],?_⟩;rw[BD,h2];constructor
   .rintro⟨h3,rfl⟩
    rw[show a=b by simpa using h3]
   .intro e
    cases e;exact⟨by simp,rfl⟩
def Si {ks:KS} {H:Nat->Nat->Option Value} {x y:V} {c d:Value} (hx:BN ks x=true) (hy:BN ks y=true) (hc:Ab H x c) (hd:Ab H y d):Df x y=true↔c=d:=by
 cases ks with
 | i q=>
   cases x<;>simp only[BN,LG]at hx
   cases y<;>simp only[BN,LG]at hy
   rename_i k a k' b;obtain⟨rfl,_⟩:=hc;obtain⟨rfl,_⟩:=hd;have h1:=of_decide_eq_true hx;have h2:=of_decide_eq_true hy;subst h1;subst h2;simp[Df]
 | s=>
   cases x<;>simp only[BN,LG]at hx
   cases y<;>simp only[BN,LG]at hy
   have h1:c= .string _:=hc;have h2:d= .string _:=hd;subst h1;subst h2;simp[Df]
 | a l =>
   cases x<;>simp only[BN,LG]at hx
   cases y<;>simp only[BN,LG]at hy
   rename_i cs ds;obtain⟨c',rfl,h1,h2⟩:=hc;obtain⟨d',rfl,h3,h4⟩:=hd;obtain⟨r,h5,h6⟩:=Qe hx hy;obtain⟨g1,g2⟩:=IE hx h2;obtain⟨g3,g4⟩:=IE hy h4;simp only[Df,h5,Option.getD_some,h6,Value.agg.injEq];constructor
   .rintro rfl
    refine Array.ext (by omega) fun i hi hj=>?_
    obtain⟨m,a1,a2,_⟩:=g2 i l[i] (Cy (by omega));obtain⟨m',b1,b2,_⟩:=g4 i l[i] (Cy (by omega));rw[a1]at b1;cases b1;simp only[Gj,Array.getElem?_eq_getElem hi,Array.getElem?_eq_getElem hj,Hl]at a2 b2;rw[a2,b2]
   .rintro rfl
    refine List.ext_getElem? fun i=>?_
    by_cases hi:i<l.length
    .obtain⟨m,a1,a2,_⟩:=g2 i l[i] (Cy hi)
     obtain⟨m',b1,b2,_⟩:=g4 i l[i] (Cy hi);rw[a2]at b2;cases b2;rw[a1,b1]
    .rw[List.getElem?_eq_none (by omega),List.getElem?_eq_none (by omega)]
def T1 {ks:KS} {H:Nat->Nat->Option Value} {key:V} {c x:Value} {val:V} (hk:BN ks key=true) (hc:Ab H key c) (hx:Ab H val x) (clk:Nat): ∀ {kvs:List (V×V)} {es:List MapEntry},Fb H kvs es->(∀kv∈kvs,BN ks kv.1=true)->(∀e∈es,e.key≠c)->
    CZ key kvs=none/\Fb H (DV key val kvs) (es++[{key:=c,val:=x,born:=clk}])
 | [],[],_,_,_=>⟨rfl,hc,hx,trivial⟩
 | [],_::_,h,_,_=>h.elim
 | _::_,[],h,_,_=>h.elim
 | (k,v)::r,e::es,h,hks,hne=>by
   obtain⟨h1,h2,h3⟩:=h
   have hf:Df key k=false:=by
    cases hb:Df key k with
    | false=>rfl
    | true=>exact absurd ((Si hk (hks _ (.head _)) hc h1).1 hb).symm (hne e (.head _))
   obtain⟨h4,h5⟩:=T1 hk hc hx clk h3 (fun kv hkv=>hks kv (.tail _ hkv)) (fun e he=>hne e (.tail _ he));simp only[CZ,DV,hf,cond_false];exact⟨h4,h1,h2,h5⟩
def T0 {ks:KS} {H:Nat->Nat->Option Value} {key:V} {c x:Value} {val:V} (hk:BN ks key=true) (hc:Ab H key c) (hx:Ab H val x): ∀ {kvs:List (V×V)} {es:List MapEntry} {j:Nat} {e:MapEntry},Fb H kvs es->(∀kv∈kvs,BN ks kv.1=true)->
    es.Pairwise (fun a b=>a.key≠b.key)->es[j]? =some e->e.key=c->
    ∃v,CZ key kvs=some v/\Ab H v e.val/\Fb H (DV key val kvs) (es.modify j fun e=>{e with key:=c,val:=x})
 | [],[],j,_,_,_,_,hj,_=>by simp at hj
 | [],_::_,_,_,h,_,_,_,_=>h.elim
 | _::_,[],_,_,h,_,_,_,_=>h.elim
 | (k, v)::r,e0::es,j,e,h,hks,hd,hj,he=>by
   obtain⟨h1,h2,h3⟩:=h;obtain⟨hd1,hd2⟩:=List.pairwise_cons.1 hd;have hiff:=Si hk (hks _ (.head _)) hc h1;cases j with
   | zero=>
     simp only[nr,Hl]at hj;subst hj;have hb:Df key k=true:=hiff.2 he.symm;simp only[CZ,DV,hb,cond_true];exact⟨v,rfl,h2,hc,hx,h3⟩
   | succ j=>
     simp only[vT]at hj
     have hb:Df key k=false:=by
      cases hb:Df key k with
      | false=>rfl
      | true=>
        have:=hiff.1 hb;exact absurd (this.symm.trans he.symm) (hd1 e (B1 hj))
     obtain⟨v',h4,h5,h6⟩:=T0 hk hc hx h3 (fun kv hkv=>hks kv (.tail _ hkv)) hd2 hj he;simp only[CZ,DV,hb,cond_false];exact⟨v',h4,h5,h1,h2,h6⟩
def eT {ok:Value->Prop} {ks:KS} {H:Nat->Nat->Option Value} (hok: ∀(H:Nat->Nat->Option Value) (v:V) (c:Value),BN ks v=true->Ab H v c->ok c): ∀ {kvs:List (V×V)} {es:List MapEntry},Fb H kvs es->(∀kv∈kvs,BN ks kv.1=true)-> ∀e∈es,ok e.key
 | (k,v)::r,e0::es,h,hks,e,he=>by
   obtain⟨h1,h2,h3⟩:=h;rcases Fm.1 he with rfl|he
   .exact hok H k _ (hks _ (.head _)) h1
   .exact eT hok h3 (fun kv hkv=>hks kv (.tail _ hkv)) e he
 | [],[],_,_,_,he=>by cases he
 | [],_::_,h,_,_,_=>h.elim
 | _::_,[],h,_,_,_=>h.elim
def Vi (hR:Rel F Z w) {n:Nat} {kvs:List (V×V)} (h:Z n=some (.map kvs)): ∃es clk,w.heap[n]? =some (.map es clk)/\Fb (Hh F Z w) kvs es.toList/\es.toList.Pairwise (fun a b=>a.key≠b.key):=by
 obtain⟨_,ob,h2,es,clk,rfl,h4⟩:=hR.own n _ h;exact⟨es,clk,h2,h4⟩
def UO {t kt e:TypeId} {ks:KS} {z:V} {ok:Bool} (hu:P.underlying t=some (.map kt e)) (hks:Uo P kt=some ks) (hz:zeroOf P e=some z) (hR:Rel F Z w) {vm vk:V} {cm ck:Value}
    (hm:Ab (Hh F Z w) vm cm) (hk:Ab (Hh F Z w) vk ck) (h:AM Z ks z ok vm vk fun v=>k v Z):CW F Z w k kp ((Instr.lookup t cm ck ok).run P w):=by
 obtain⟨h0,h⟩:=h;obtain⟨okk,K,hok⟩:=oV hks;have hck:=hok _ _ _ h0 hk;obtain⟨zc,hz1,hz2⟩:=EM hz w;have hzr:Ab (Hh F Z w) z zc:=Ga hz2;have hch: ∀em,(Instr.checkKey em 10000 kt ck).run P w= .ok () w:=fun em=>K.check w em hck
 unfold Instr.lookup;simp only[DG,BI hu,GS]
 have fin: ∀ {o:Option V} {x:Value} {b:Bool},(match o with|some v=>b=true/\Ab (Hh F Z w) v x|none=>b=false/\x=zc)->k (found z ok o) Z->CW F Z w k kp (Result.ok (if ok=true then Value.tuple #[x,.bool b]else x) w):=fun {o x b} ho hk=>by
  have tup: ∀ {v:V} {x:Value} {b:Bool},Ab (Hh F Z w) v x->Ab (Hh F Z w) (.t [v,.b b]) (.tuple #[x,.bool b]):=fun hv=>⟨_,rfl,rfl,⟨_,rfl,hv⟩,⟨_,rfl,rfl⟩,trivial⟩
  cases o with
  | some v=>
    obtain⟨rfl,hv⟩:=ho;cases ok
    .exact As hR hk hv
    .exact As hR hk (tup hv)
  | none=>
    obtain⟨rfl,rfl⟩:=ho;cases ok
    .exact As hR hk hzr
    .exact As hR hk (tup hzr)
 cases vm<;>first|exact h.elim|skip
 .rename_i n
  simp only at h;split at h
  .rename_i kvs hn
   obtain⟨h1,h2⟩:=h;simp only[Ab]at hm;subst hm;obtain⟨es,clk,h3,h4,h5⟩:=Vi hR hn;have hg:(getObj n).run P w= .ok (.map es clk) w:=by simp[getObj,Sem.run,h3]
   simp only[DG,hg,GS,Ej,hch];rcases K.find w hck es.toList (eT hok h4 h1)with⟨h6,h7⟩|⟨j,e',h6,h7,h8⟩
   .obtain⟨h9,_⟩:=T1 h0 hk hk 0 h4 h1 h7
    simp only[h6,GS,DG,hz1,Ej];rw[h9]at h2;exact fin (o:=none) ⟨rfl,rfl⟩ h2
   .obtain⟨v,h9,h10,_⟩:=T0 h0 hk hk h4 h1 h5 h7 h8
    simp only[h6,GS,Ej];rw[h9]at h2;exact fin (o:=some v) ⟨rfl,h10⟩ h2
  .exact h.elim
 .simp only[Ab]at hm
  subst hm;simp only[DG,Ej,GS,hch];rcases K.find w hck [] (fun e he=>by cases he)with⟨h6,_⟩|⟨j,e',_,h7,_⟩
  .simp only[h6,GS,DG,hz1,Ej]
   exact fin (o:=none) ⟨rfl,rfl⟩ h
  .simp at h7
def QB {n:Nat} {ob:Obj} {es:Array MapEntry} {clk:Nat} (h:w.heap[n]? =some (.map es clk)):(setObj n ob).run P w= .ok () (CO w n ob):=by
 simp[setObj,Sem.run,h,CO]
def Ik {c x:Value}: ∀ {es:List MapEntry} {j:Nat} {e:MapEntry},es[j]? =some e->e.key=c->es.Pairwise (fun a b=>a.key≠b.key)->(es.modify j fun e=>{e with key:=c,val:=x}).Pairwise (fun a b=>a.key≠b.key)
 | [],_,_,h,_,_=>by simp at h
 | e0::es,0,e,h,he,hp=>by
   simp only[nr,Hl]at h;subst h;obtain⟨h1,h2⟩:=List.pairwise_cons.1 hp;exact List.pairwise_cons.2 ⟨fun a ha=>by simpa only[<-he]using h1 a ha,h2⟩
 | e0::es,j+1,e,h,he,hp=>by
   simp only[vT]at h;obtain⟨h1,h2⟩:=List.pairwise_cons.1 hp;refine List.pairwise_cons.2 ⟨fun a ha=>?_,Ik h he h2⟩;have ha:a∈es.modify j fun e=>{e with key:=c,val:=x}:=ha
   obtain⟨i,hi⟩:=List.mem_iff_getElem?.1 ha;rw[List.getElem?_modify]at hi;cases hb:es[i]? with
   | none=>rw[hb]at hi;cases hi
   | some b=>
     rw[hb]at hi;simp only[Option.map_eq_map,W6,Hl]at hi;split at hi
     .rename_i hji
      subst hi;subst hji;rw[h]at hb;cases hb;simpa only[<-he]using h1 e (B1 h)
     .subst hi
      exact h1 b (B1 hb)
def UN {t kt e:TypeId} {ks:KS} (hu:P.underlying t=some (.map kt e)) (hks:Uo P kt=some ks) (hR:Rel F Z w) {vm vk vx:V} {cm ck cx:Value}
    (hm:Ab (Hh F Z w) vm cm) (hk:Ab (Hh F Z w) vk ck) (hx:Ab (Hh F Z w) vx cx) (h:AN Z ks vm vk vx fun Z'=>k (.t []) Z') :
    ∃Z' w',(Instr.mapUpdate t cm ck cx).run P w= .ok () w'/\k (.t []) Z'/\Rel F Z' w'/\Bu F Z w Z' w':=by
 obtain⟨h0,h⟩:=h;obtain⟨okk,K,hok⟩:=oV hks;have hck:=hok _ _ _ h0 hk;have hch: ∀em,(Instr.checkKey em 10000 kt ck).run P w= .ok () w:=fun em=>K.check w em hck
 cases vm<;>first|exact h.elim|skip
 rename_i n;simp only at h;split at h
 .rename_i kvs hn
  obtain⟨h1,h2⟩:=h;simp only[Ab]at hm;subst hm;obtain⟨es,clk,h3,h4,h5⟩:=Vi hR hn;have hg:(getObj n).run P w= .ok (.map es clk) w:=by simp[getObj,Sem.run,h3]
  unfold Instr.mapUpdate;simp only[DG,BI hu,GS,hg,hch];rcases K.find w hck es.toList (eT hok h4 h1)with⟨h6,h7⟩|⟨j,e',h6,h7,h8⟩
  .obtain⟨_,h9⟩:=T1 h0 hk hx clk h4 h1 h7
   refine⟨_,CO w n (.map (es.push {key:=ck,val:=cx,born:=clk}) (clk+1)),?_,h2,JV hR hn ⟨_,_,rfl,?_,?_⟩,Gf hn _ _⟩
   .simp only[h6,GS]
    exact QB h3
   .simpa using h9
   .rw[Array.toList_push,List.pairwise_append]
    exact⟨h5,by simp,fun a ha b hb=>by simp at hb;subst hb;exact h7 a ha⟩
  .obtain⟨v,_,_,h9⟩:=T0 h0 hk hx h4 h1 h5 h7 h8
   have hj:es[j]? =some e':=by rw[<-h7];simp
   refine⟨_,CO w n (.map (es.modify j fun e=>{e with key:=ck,val:=cx}) clk),?_,h2,JV hR hn ⟨_,_,rfl,?_,?_⟩,Gf hn _ _⟩
   .simp only[h6,GS,DG,hj,W6,Option.getD_some,h8,K.stays w hck]
    exact QB h3
   .simpa using h9
   .simpa using Ik (x:=cx) h7 h8 h5
 .exact h.elim
def pZ (P:Program):Op->Option Fh
 | .makeMap t r=>match r,P.underlying t with
   | none,_=>some .Np
   | some _,_=>none
 | .lookup t x i ok=>match P.underlying t with
   | some (.map kt e)=>match Uo P kt,zeroOf P e,BR x,BR i with
     | some ks,some z,some x,some i=>some (.lookup ks z ok x i)
     | _,_,_,_=>none
   | _=>none
 | .mapUpdate t m i x=>match P.underlying t with
   | some (.map kt _)=>match Uo P kt,BR m,BR i,BR x with
     | some ks,some m,some i,some x=>some (.FG ks m i x)
     | _,_,_,_=>none
   | _=>none
 | .insert t m i x=>match P.underlying t with
   | some (.map kt _)=>match Uo P kt,BR m,BR i,BR x with
     | some ks,some m,some i,some x=>some (.FG ks m i x)
     | _,_,_,_=>none
   | _=>none
 | _=>none
def X1 {env:Env} {a:Act} {o:Oper} {ao:Fh} (ho:pZ P o.op=some ao) (h:FQ P ao env Z k kp) (he:CD (Hh F Z w) env a.tmps) (hR:Rel F Z w) :
    Good P F Z w k kp ((execOp a.eval o).run P w):=by
 have put: ∀ {t:TypeId} {m i x:Operand},(match P.underlying t with
  | some (.map kt _)=>match Uo P kt,BR m,BR i,BR x with
    | some ks,some m,some i,some x=>some (Fh.FG ks m i x)
    | _,_,_,_=>none
  | _=>none)=some ao->Good P F Z w k kp ((do Instr.mapUpdate t (a.eval m) (a.eval i) (a.eval x);pure Next.skip:Sem Next).run P w):=fun {t m i x} ho=>by
  split at ho
  .rename_i kt e hu
   split at ho
   .rename_i ks m' i' x' hks hm hi hx
    cases ho;obtain⟨vm,h1,g⟩:=Ai h;obtain⟨vi,h2,g⟩:=Ai g;obtain⟨vx,h3,g⟩:=Ai g;obtain⟨Z',w',e1,e2,e3,e4⟩:=UN hu hks hR (An he hm h1) (An he hi h2) (An he hx h3) g;simp only[DG,e1,GS,Ej];exact⟨Z',e2,e3,e4⟩
   .cases ho
  .cases ho
 unfold execOp;unfold pZ at ho;split at ho
 .rename_i t r hop
  rw[hop];dsimp only;split at ho
  .cases ho
   refine Az ?_;simp only[FQ]at h;exact⟨_,_,h w.heap.size hR.new,rfl,HZ hR (o:= .map []) ⟨#[],0,rfl,trivial,by simp⟩,Dw _ _⟩
  .cases ho
 .rename_i t x i ok hop
  rw[hop];dsimp only;split at ho
  .rename_i kt e hu
   split at ho
   .rename_i ks z x' i' hks hz hx hi
    cases ho;obtain⟨vx,h1,g⟩:=Ai h;obtain⟨vi,h2,g⟩:=Ai g;exact Az (UO hu hks hz hR (An he hx h1) (An he hi h2) g)
   .cases ho
  .cases ho
 .rename_i t m i x hop
  rw[hop];exact put ho
 .rename_i t m i x hop
  rw[hop];exact put ho
 .cases ho
def XX (P:Program) (name:String):List (TypeId×FuncId):=(List.range P.types.size).filterMap fun t=>
 match P.info? t,P.underlying t with
 | some i,some d=>match i.methods.find? (·.name==name)with
   | some m=>if m.path.isEmpty then match m.func,d with
     | some (f,true),.pointer _=>some (t,f)
     | some (_,false),.pointer _=>none
     | some (f,false),_=>some (t,f)
     | _,_=>none
     else none
   | none=>none
 | _,_=>none
def pb (P:Program):Op->Option Fh
 | .call c=>match c.callee with
   | .invoke x name=>match BR x,J2 c.args.toList with
     | some x,some as=>some (.inv (XX P name) x as)
     | _,_=>none
   | _=>none
 | _=>none
def Vj {t:TypeId} {f:FuncId}: ∀ {l:List (TypeId×FuncId)},look t l=some f->(t,f)∈l
 | [],h=>by cases h
 | (u,g)::r,h=>by
   simp only[look]at h;cases hb:Nat.beq u t with
   | true=>
     rw[hb]at h;simp only[cond_true,Hl]at h;rw[UX hb,h];exact .head _
   | false=>
     rw[hb]at h;exact .tail _ (Vj h)
def Xs {name:String} {t:TypeId} {f:FuncId} (h:(t,f)∈XX P name) (c:Value):(method (P.types.size+Made.depth) t c name).run P w= .ok (f,c) w:=by
 unfold XX at h;rw[List.mem_filterMap]at h;obtain⟨u,hu,h⟩:=h;rw[List.mem_range]at hu;split at h
 rotate_left
 .cases h
 rename_i i d hi hd;split at h
 rotate_left
 .cases h
 rename_i m hm;split at h
 rotate_left
 .cases h
 rename_i hp
 have hpl:m.path.toList= []:=by
  have:m.path= #[]:=by simpa using hp
  rw[this]
 obtain⟨n,hn⟩: ∃n,P.types.size+Made.depth=n+1:=⟨P.types.size+Made.depth - 1,by omega⟩
 have key: ∀ptr,u=t->m.func=some (f,ptr)->(ptr=true-> ∃e,d= .pointer e)->(ptr=false-> ∀e,d≠ .pointer e)->(method (P.types.size+Made.depth) t c name).run P w= .ok (f,c) w:=fun ptr e1 e2 e3 e4=>by
  subst e1;rw[hn];unfold method;simp only[DG,run_typeInfo w hi,GS,hm,hpl,follow,Ej,e2,receiverAt,run_underlying hd];cases ptr with
  | true=>
    obtain⟨e,rfl⟩:=e3 rfl;simp[Place.get]
  | false=>
    have:=e4 rfl;cases d<;>first|exact absurd rfl (this _)|simp[Place.get]
 split at h
 .rename_i f' e hfun
  cases h;exact key true rfl hfun (fun _=>⟨_,rfl⟩) (fun h=>by cases h)
 .cases h
 .rename_i f' hfun hne
  cases h;exact key false rfl hfun (fun h=>by cases h) (fun _ e he=>by subst he;exact hne e rfl)
 .cases h
def dU {tab:List (TypeId×FuncId)} {x:V} {args:List V} {Q:R->AE->Prop} (h:A5 P tab x args Z Q): ∃t v f,x= .Ey t v/\look t tab=some f/\A3 P f (v::args) Z Q:=by
 unfold A5 at h;split at h
 .split at h
  .exact⟨_,_,_,rfl,by assumption,h⟩
  .exact h.elim
 .exact h.elim
def X2 {env:Env} {a:Act} {o:Oper} {ao:Fh} (ho:pb P o.op=some ao) (h:FQ P ao env Z k kp) (he:CD (Hh F Z w) env a.tmps) (hR:Rel F Z w) :
    Good P F Z w k kp ((execOp a.eval o).run P w):=by
 unfold pb at ho;split at ho
 rotate_left
 .cases ho
 rename_i c hop;split at ho
 rotate_left
 .cases ho
 rename_i x name hc;split at ho
 rotate_left
 .cases ho
 rename_i x' as hx has;cases ho;obtain⟨vx,h1,g⟩:=Ai h;obtain⟨vs,h2,g⟩:=Hy g;obtain⟨t,v,f,rfl,hf,g⟩:=dU g;obtain⟨cv,hcv,hvr⟩:=An he hx h1
 have hext:(#[Value.iface t cv]++c.args.map a.eval).extract 1 (#[Value.iface t cv]++c.args.map a.eval).size=c.args.map a.eval:=by
  apply Array.ext';simp[List.take_of_length_le]
 have h0:(#[Value.iface t cv]++c.args.map a.eval)[0]? =some (.iface t cv):=by rw[Array.getElem?_append_left (Nat.zero_lt_one)];rfl
 have hrun:(execOp a.eval o).run P w=(callFunc f (#[cv]++c.args.map a.eval)).run P w:=by
  unfold execOp;simp only[hop,resolve,hc,DG,Ej,GS,invoke,hcv,h0,hext,callMethod];have hprog:(program).run P w= .ok P w:=rfl;simp only[hprog,GS,Xs (Vj hf)]
 rw[hrun];refine Pn hR ?_ g;have:=H7 (H:=Hh F Z w) (vs:=[v]) (cs:= #[cv]) ⟨rfl,⟨cv,rfl,hvr⟩,trivial⟩ (Jd he has h2);simpa using this
def YF {t u e:TypeId} {i:TypeInfo} (ty:TypeId) (ht:P.underlying t=some (.slice e)) (hi:P.info? e=some i) (hR:Rel F Z w) {vx vy:V} {cx cy:Value} (hx:Ab (Hh F Z w) vx cx) (hy:Ab (Hh F Z w) vy cy)
    (h:Ac Z i.size vx vy k):CW F Z w k kp ((Builtin.copy_ #[t,u] ty #[cx,cy]).run P w):=by
 have h':=Kt hR hy h;clear h;obtain⟨ys,base,c2,⟨hone,h⟩,rfl,hyl,hys⟩:=h'
 have main: ∀(n off len:Nat) (a:Option Addr) (cap:Nat),(len≠0->a=some ⟨n,off*i.size,none⟩)->O3 Z i.size ys n off len k->CW F Z w k kp ((Builtin.copy_ #[t,u] ty #[.slice a len cap,.slice base ys.length c2]).run P w):=fun n off len a cap ha hk=>by
  unfold O3 at hk;split at hk
  .rename_i s es c hs
   obtain⟨rfl,hle,hk⟩:=hk;obtain⟨cur,et,h3,h4,h5,h6,h7⟩:=Er hR hs;have hsz:sizeOf e=(do pure (<-typeInfo e).size:Sem Nat):=rfl;have hmin:Nat.min ys.length len=min ys.length len:=rfl;have hmL:min ys.length len<=AY:=by omega
   have hrng: ∀H,Ab H (.i .i64 (min ys.length len:Nat)) (goInt (min ys.length len:Nat)):=fun H=>⟨rfl,Ja hmL⟩
   by_cases h0:min ys.length len=0
   ·
    have hrun:(Builtin.copy_ #[t,u] ty #[.slice a len cap,.slice base ys.length c2]).run P w= .ok (goInt 0) w:=by
     have hm0:Nat.min ys.length len=0:=h0;cases a<;>cases base<;>simp[Builtin.copy_,run_underlying ht,sizeOf,typeInfo,hi,Builtin.lenOf,hm0,Builtin.firstCells,loadCells,loadCellsFrom,storeCells]
    rw[hrun];rw[h0]at hk;simp only[Nat.add_zero]at hk;have e1:es.take off++(ys.take 0++es.drop off)=es:=by simp
    rw[e1]at hk
    have e2:Bd Z n (.arr i.size es c)=Z:=by
     funext m;unfold Bd;split
     .rename_i e;rw[e,hs]
     .rfl
    rw[e2]at hk;exact As hR hk ⟨rfl,Ja (n:=0) (by simp)⟩
   .obtain⟨b,o,g,rfl,hg,hrow⟩:=hys.resolve_left (fun e=>by rw[e]at h0;simp at h0)
    obtain rfl:=ha (by omega);obtain⟨news,h8,h9,h10⟩:=Jp (HY hrow (min ys.length len));have hcnt:(ys.take (min ys.length len)).length=min ys.length len:=by simp
    rw[hcnt]at h8;have hmul:(off+min ys.length len)*i.size<=c*i.size:=UW _ (by omega);rw[Nat.add_mul]at hmul
    have hn1: ∀u∈news,u.oneCell'=true:=fun u hu=>by
     obtain⟨j,hj⟩:=List.mem_iff_getElem?.1 hu;have hlt:j<(ys.take (min ys.length len)).length*i.size:=by rw[hcnt,<-h8];exact(IN.1 hj).1
     obtain⟨h4,h5⟩:=Tq hlt;obtain⟨h6,h7⟩:=BE.1 h10 (j / i.size) _ (Cy h4);obtain⟨c,hc,hr⟩:=BW.1 h7 (j % i.size) _ (Cy (by omega));have hdm:=Nat.div_add_mod' j i.size;rw[show 0+j / i.size*i.size+j % i.size=j by omega,hj]at hc;cases hc;exact Pc hr (hone _ (List.mem_of_mem_take (List.getElem_mem h4)) _ (List.getElem_mem _))
    have hrunF:=run_firstCells_some (P:=P) w i.size (min ys.length len) ⟨b,o,none⟩ ys.length c2 news h8 (fun j v hv=>by rw[Ch];exact hg _ _ (h9 j v hv));have hst:=Ci (P:=P) news w cur (off*i.size) 0 h3 (by omega) hn1;simp only[Nat.add_zero]at hst
    have hrun:(Builtin.copy_ #[t,u] ty #[.slice (some ⟨n,off*i.size,none⟩) len cap,.slice (some ⟨b,o,none⟩) ys.length c2]).run P w= .ok (goInt (min ys.length len:Nat)) (CO w n (.cells (Cu cur (off*i.size) news) et (0,0))):=by
     simp[Builtin.copy_,run_underlying ht,sizeOf,typeInfo,hi,Builtin.lenOf,hmin,hrunF,hst]
    rw[hrun];refine⟨_,_,hk,hrng _,JV hR hs ⟨_,et,rfl,by rw[Dq];exact h4,by simp;omega,by simp;omega,?_⟩,Gf hs _ _⟩;have hol:off<=es.length:=by omega
    refine Gh (EN (HY h7 off) fun j hj=>?_) (Gh (EN h10 fun j hj=>?_) (EN (NL h7 (off+min ys.length len)) fun j hj=>?_))
    .rw[Mf,Nat.min_eq_left hol]at hj
     exact DD _ _ _ _ (by omega)
    .rw[hcnt]at hj
     rw[Mf,Nat.min_eq_left hol];simp only[Gj];exact F3 _ _ _ _ (by omega) (by omega)
    .rw[Mf,Nat.min_eq_left hol,hcnt,Gj,Gj,Nat.add_mul]
     exact DD _ _ _ _ (by omega)
  .exact hk.elim
 cases vx
 case sl n len cap=>
  obtain⟨rfl,_⟩:=hx;exact main n 0 len _ cap (fun _=>by simp) h
 case sv n s off len=>
  obtain⟨rfl,h⟩:=h;obtain⟨a,cap,rfl,_,h6⟩:=hx;exact main n off len a cap h6 h
 all_goals exact h.elim
def eO (P:Program):Op->Option Fh
 | .call c=>match c.callee,c.args.toList,c.argTypes.toList with
   | .builtin .copy,[x,y],[t,_]=>match P.underlying t with
     | some (.slice e)=>match BR x,BR y,P.info? e with
       | some x,some y,some i=>some (.copy i.size x y)
       | _,_,_=>none
     | _=>none
   | _,_,_=>none
 | _=>none
def WX {env:Env} {a:Act} {o:Oper} {ao:Fh} (ho:eO P o.op=some ao) (h:FQ P ao env Z k kp) (he:CD (Hh F Z w) env a.tmps) (hR:Rel F Z w) :
    Good P F Z w k kp ((execOp a.eval o).run P w):=by
 unfold eO at ho;split at ho
 rotate_left
 .cases ho
 rename_i c hop;split at ho
 rotate_left
 .cases ho
 rename_i x y t u hc hargs htys;split at ho
 rotate_left
 .cases ho
 rename_i e hu;split at ho
 rotate_left
 .cases ho
 rename_i x' y' i hx hy hi;cases ho;obtain⟨vx,h1,g⟩:=Ai h;obtain⟨vy,h2,g⟩:=Ai g;have ea:c.args= #[x,y]:=by apply Array.ext';simpa using hargs
 have et:c.argTypes= #[t,u]:=by apply Array.ext';simpa using htys
 unfold execOp;simp only[hop,resolve,hc,ea,et,DG,Ej,GS,invoke,builtin,List.map_toArray,Ex,List.map_nil];exact EP (YF (P:=P) (kp:=kp) o.type hu hi hR (An he hx h1) (An he hy h2) g)
def dk (P:Program) (o:Op):Option Fh:=match pY P o with|some a=>some a|none=>match pZ P o with|some a=>some a|none=>match pb P o with|some a=>some a|none=>eO P o
def Xz {env:Env} {a:Act} {o:Oper} {ao:Fh} (ho:dk P o.op=some ao) (h:FQ P ao env Z k kp) (he:CD (Hh F Z w) env a.tmps) (hR:Rel F Z w) :
    Good P F Z w k kp ((execOp a.eval o).run P w):=by
 unfold dk at ho;split at ho
 .rename_i h';cases ho;exact X0 h' h he hR
 .split at ho
  .rename_i h';cases ho;exact X1 h' h he hR
  .split at ho
   .rename_i h';cases ho;exact X2 h' h he hR
   .exact WX ho h he hR
end Go.Gl
namespace Go.Gl
variable {P:Program} {F:Nat->Prop}
def emp:AE:=fun _=>none
def Pure (P:Program) (f:FuncId) (args:List V) (v:V):Prop:=A3 P f args emp fun r Z'=>r= .ret v/\Z'=emp
def ZI {w:World} (F:Nat->Prop) (h: ∀n,F n->n<w.heap.size):Rel F emp w:=⟨fun n o ho=>(by cases ho),h⟩
def UG {Z:AE} {w w':World} {F':Nat->Prop} (h:Bu F' emp w emp w'):Bu F Z w Z w':=
 ⟨fun n hn _=>h.frame n hn rfl,h.size,h.os,h.tape,h.output,fun _ h0 _=>h0⟩
def R3 {Z:AE} {w w':World} {F':Nat->Prop} (hR:Rel F Z w) (h:Bu F' emp w emp w'):Rel F Z w':=
 hR.step (UG h) fun n _ hn=> .inl ⟨hn,h.frame n (hR.lt hn) rfl⟩
def Pure.use {f:FuncId} {args:List V} {v:V} (h:Pure P f args v) {Z:AE} {k kp:V->AE->Prop} (hk:k v Z):A3 P f args Z (qk k kp):=by
 refine⟨h.1,fun F w cs hR hv=>?_⟩
 have hH: ∀w:World,(Hh (fun n=>F n\/Z n≠none) emp w)=Hh F Z w:=fun w=>by
  funext b o;unfold Hh;by_cases hb:F b\/(Z b).isSome=true
  .rw[if_pos hb,if_pos]
   rcases hb with hb|hb
   .exact .inl (.inl hb)
   .exact .inl (.inr (by intro e;rw[e]at hb;cases hb))
  .rw[if_neg hb,if_neg]
   rintro((h|h)|h)
   .exact hb (.inl h)
   .exact hb (.inr (by cases hs:Z b with|none=>exact absurd hs h|some o=>rfl))
   .cases h
 refine Calls.mono (h.2 (fun n=>F n\/Z n≠none) w cs (ZI _ fun n hn=>?_) (by rw[hH];exact hv)) fun e w' ⟨r,Z',⟨hr,hs⟩,h1,h2,h3⟩=>?_
 .rcases hn with hn|hn
  .exact hR.lock n hn
  .cases hs:Z n with
   | none=>exact absurd hs hn
   | some o=>exact hR.lt hs
 .subst hr
  subst hs;rw[hH]at h1;exact⟨.ret v,Z,hk,h1,R3 hR h3,UG h3⟩
def A3.mono {f:FuncId} {args:List V} {Z:AE} {Q Q':R->AE->Prop} (h:A3 P f args Z Q) (hq: ∀r Z',Q r Z'->Q' r Z'):A3 P f args Z Q':=
 ⟨h.1,fun F w cs hR hv=>Calls.mono (h.2 F w cs hR hv) fun _ _ ⟨r,Z',h1,h2⟩=>⟨r,Z',hq _ _ h1,h2⟩⟩
def LR.mono {l:Nat} {args:List V} {Z:AE} {Q Q':R->AE->Prop} (h:LR P l args Z Q) (hq: ∀r Z',Q r Z'->Q' r Z'):LR P l args Z Q':=
 fun F w cs hR hv=>let⟨f,tmps,assign,body,h1,h2⟩:=h F w cs hR hv;⟨f,tmps,assign,body,h1,h2.mono fun e w' ⟨r,Z',h3,h4⟩=>⟨r,Z',hq _ _ h3,h4⟩⟩
def Ax.mono {x:V} {args:List V} {Z:AE} {Q Q':R->AE->Prop} (h:Ax P x args Z Q) (hq: ∀r Z',Q r Z'->Q' r Z'):Ax P x args Z Q':=by
 unfold Ax at *;split at h
 .exact A3.mono h hq
 .exact LR.mono h hq
 .exact h.elim
def A5.mono {tab:List (TypeId×FuncId)} {x:V} {args:List V} {Z:AE} {Q Q':R->AE->Prop} (h:A5 P tab x args Z Q) (hq: ∀r Z',Q r Z'->Q' r Z'):A5 P tab x args Z Q':=by
 unfold A5 at *;split at h
 .split at h
  .exact A3.mono h hq
  .exact h.elim
 .exact h.elim
def rd:Bf->List Nat| .t n=>[n]| .c _=>[]
def xq:Option Bf->List Nat|some x=>rd x|none=>[]
def dV (l:List Bf):List Nat:=l.flatMap rd
def reads:Fh->List Nat
 | .mv x| .jy x| .not x| .neg _ x| .conv _ x| .box x| .Q8 x| .load _ x| .Bs _ x| .field _ _ x| .len x| .TC x| .str x| .extract _ x| .EX x| .Nq _ x| .aT _ _ _ x| .panic x| .aX _ _ x=>rd x
 | .pick a b c=>rd a++rd b++rd c
 | .Uk x y| .bin _ x y| .kD _ x y| .W9 _ _ x y| .store _ x y| .I7 _ _ x y| .index _ _ _ x y| .append _ _ x y| .Q9 _ _ x y| .copy _ x y| .Um x y| .Ul x y| .Fp _ _ _ x y| .lookup _ _ _ x y=>rd x++rd y
 | .alloc _| .Np=>[]
 | .build _ ps=>dV (ps.map fun p=>p.2.2)
 | .Di _ _ _ ps=>dV (ps.map fun p=>p.2)
 | .slice _ x a b c=>rd x++xq a++xq b++xq c
 | .Yi _ a b=>dV a++dV b
 | .FG _ m k v=>rd m++rd k++rd v
 | .call _ as| .HK _ as=>dV as
 | .Ih x as| .Xg x as| .inv _ x as=>rd x++dV as
variable {env env':Env}
def AZ {x:Bf} (h: ∀s∈rd x,get s env'=get s env):ev env' x=ev env x:=by
 cases x with
 | t n=>exact h n (by simp[rd])
 | c v=>rfl
def FK: ∀ {l:List Bf},(∀s∈dV l,get s env'=get s env)->Ud env' l=Ud env l
 | [],_=>rfl
 | x::r,h=>by
   simp only[dV,List.flatMap_cons,E4]at h;simp only[Ud,AZ (fun s hs=>h s (.inl hs)),FK (l:=r) (fun s hs=>h s (.inr hs))]
def JL {x:Option Bf} (h: ∀s∈xq x,get s env'=get s env):HG env' x=HG env x:=by
 cases x with
 | none=>rfl
 | some x=>simp only[HG,AZ (x:=x) h]
def OC: ∀ {ps:List (Nat×Nat×Bf)} {cs:List V},(∀s∈dV (ps.map fun p=>p.2.2),get s env'=get s env)->J9 env' cs ps=J9 env cs ps
 | [],_,_=>rfl
 | (off,sz,x)::r,cs,h=>by
   simp only[dV,Ex,List.flatMap_cons,E4]at h;simp only[J9,AZ (fun s hs=>h s (.inl hs))];split<;>try rfl
   split<;>try rfl
   cases hb:(Nat.beq _ sz&&Nat.ble (off+sz) cs.length)<;>simp only[cond_true,cond_false]
   exact OC (ps:=r) fun s hs=>h s (.inr hs)
def OD {sz:Nat}: ∀ {ps:List (Nat×Bf)} {es:List (List V)},(∀s∈dV (ps.map fun p=>p.2),get s env'=get s env)->I8 env' sz es ps=I8 env sz es ps
 | [],_,_=>rfl
 | (i,x)::r,es,h=>by
   simp only[dV,Ex,List.flatMap_cons,E4]at h;simp only[I8,AZ (fun s hs=>h s (.inl hs))];split<;>try rfl
   split<;>try rfl
   cases hb:(Nat.beq _ sz&&Nat.blt i es.length)<;>simp only[cond_true,cond_false]
   exact OD (ps:=r) fun s hs=>h s (.inr hs)
def S0 {o:Fh} {Z:AE} {k kp:V->AE->Prop} (h: ∀s∈reads o,get s env'=get s env):FQ P o env' Z k kp=FQ P o env Z k kp:=by
 cases o<;>simp only[reads,E4,or_imp,forall_and]at h<;>simp only[FQ]
 case mv x=>rw[AZ h]
 case jy x=>rw[AZ h]
 case pick a b c=>rw[AZ h.1.1,AZ h.1.2,AZ h.2]
 case bin op x y=>rw[AZ h.1,AZ h.2]
 case kD n x y=>rw[AZ h.1,AZ h.2]
 case W9 q n x y=>rw[AZ h.1,AZ h.2]
 case aX q n x=>rw[AZ h]
 case lookup a b c x y=>rw[AZ h.1,AZ h.2]
 case FG a x y z=>rw[AZ h.1.1,AZ h.1.2,AZ h.2]
 case Fp a b c x y=>rw[AZ h.1,AZ h.2]
 case not x=>rw[AZ h]
 case neg n x=>rw[AZ h]
 case conv n x=>rw[AZ h]
 case box x=>rw[AZ h]
 case Q8 x=>rw[AZ h]
 case Q9 a b x y=>rw[AZ h.1,AZ h.2]
 case build z ps=>rw[OC h]
 case Di a b c ps=>rw[OD h]
 case load a x=>rw[AZ h]
 case store a x y=>rw[AZ h.1,AZ h.2]
 case Bs a x=>rw[AZ h]
 case field a b x=>rw[AZ h]
 case I7 a b x y=>rw[AZ h.1,AZ h.2]
 case index a b c x y=>rw[AZ h.1,AZ h.2]
 case slice s x a b c=>rw[AZ h.1.1.1,JL h.1.1.2,JL h.1.2,JL h.2]
 case len x=>rw[AZ h]
 case TC x=>rw[AZ h]
 case str x=>rw[AZ h]
 case Uk x y=>rw[AZ h.1,AZ h.2]
 case append a b x y=>rw[AZ h.1,AZ h.2]
 case copy a x y=>rw[AZ h.1,AZ h.2]
 case inv tab x as=>rw[AZ h.1,FK h.2]
 case Um x y=>rw[AZ h.1,AZ h.2]
 case Ul x y=>rw[AZ h.1,AZ h.2]
 case extract i x=>rw[AZ h]
 case EX x=>rw[AZ h]
 case Yi f a b=>rw[FK h.1,FK h.2]
 case Nq t x=>rw[AZ h]
 case aT a b c x=>rw[AZ h]
 case panic x=>rw[AZ h]
 case call f as=>rw[FK h]
 case HK f as=>rw[FK h]
 case Ih x as=>rw[AZ h.1,FK h.2]
end Go.Gl
