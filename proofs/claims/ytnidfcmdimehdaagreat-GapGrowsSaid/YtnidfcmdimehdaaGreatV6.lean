import Derived.DeepKeys3
import Derived.StringKeys
import Derived.Test.YtnidfcmdimehdaaGreatV5
set_option linter.all false
set_option linter.defProp false
set_option maxHeartbeats 8000000
noncomputable section
namespace Go.Gl
variable {P:Program} {F:Nat->Prop} {Z:AE} {w:World} {k kp:V->AE->Prop}
structure KL (P:Program) (kt:TypeId) (ok:Value->Prop):Prop where
 check: ∀(w:World) (em:Bool) {v:Value},ok v->(Instr.checkKey em 10000 kt v).run P w= .ok () w
 find: ∀(w:World) {x:Value},ok x-> ∀es:List MapEntry,(∀e∈es,ok e.key)->
  ((Instr.findKey kt x es).run P w= .ok none w/\ ∀e∈es,e.key≠x)\/ ∃j e,(Instr.findKey kt x es).run P w= .ok (some (j,e.val)) w/\es[j]? =some e/\e.key=x
 stays: ∀(w:World) {v:Value},ok v->(Instr.keyThatStays v v).run P w= .ok v w
def KL.of_law {kt:TypeId} (K:WideMaps.KeyLaw P kt):KL P kt fun v=> ∃l,keyOf P kt v=some l where
 check w em _ h:=let⟨_,h⟩:=h;K.check w em h
 find w _ h es hes:=let⟨_,h⟩:=h;K.find w h es hes
 stays w _ h:=let⟨_,h⟩:=h;K.stays w h
def Ou {q:IntKind} {ki:IntKind} (a:Int): ∀(es:List MapEntry) (i:Nat),(∀e∈es,∃b,e.key= .int ki b)->
    (Instr.findNow (.int q) (.int ki a) es i=some none/\ ∀e∈es,e.key≠ .int ki a)\/ ∃j e,Instr.findNow (.int q) (.int ki a) es i=some (some (i+j,e.val))/\es[j]? =some e/\e.key= .int ki a
 | [],i,_=> .inl ⟨rfl,by simp⟩
 | e ::es,i,h=>by
   obtain⟨b,hb⟩:=h e (.head _);simp only[Instr.findNow,hb,Instr.sameNow,if_true];by_cases hab:a=b
   .subst hab
    refine .inr ⟨0,e,by simp,rfl,hb⟩
   .have:(a==b)=false:=by simpa using hab
    rw[this];rcases Ou a es (i+1) (fun e he=>h e (.tail _ he))with⟨h1,h2⟩|⟨j,e',h1,h2,h3⟩
    .refine .inl ⟨h1,fun e' he'=>?_⟩
     rcases Fg.1 he' with rfl|he'
     .rw[hb];intro e;cases e;exact hab rfl
     .exact h2 e' he'
    .exact .inr ⟨j+1,e',by rw[h1,show i+1+j=i+(j+1) by omega],h2,h3⟩
def eH {kt:TypeId} {q:IntKind} (hu:P.underlying kt=some (.int q)) (em:Bool) (n:Nat) (ki:IntKind) (b:Int):(Instr.checkKey em (n+1) kt (.int ki b)).run P w= .ok () w:=by
 simp only[Instr.checkKey,DQ,BF hu,Gr,Ew]
def KL.int {kt:TypeId} {q:IntKind} (hu:P.underlying kt=some (.int q)) (ki:IntKind):KL P kt fun v=> ∃b,v= .int ki b where
 check w em v h:=by
  obtain⟨b,rfl⟩:=h;exact eH hu em 9999 ki b
 find w x h es hes:=by
  obtain⟨b,rfl⟩:=h;unfold Instr.findKey;simp only[DQ,BF hu,Gr];rcases Ou (q:=q) b es 0 hes with⟨h1,h2⟩|⟨j,e,h1,h2,h3⟩
  .exact .inl ⟨by rw[h1];rfl,h2⟩
  .exact .inr ⟨j,e,by rw[h1,Gq];rfl,h2,h3⟩
 stays w v h:=by
  obtain⟨b,rfl⟩:=h;unfold Instr.keyThatStays;have:Instr.sameBits 10000 (.int ki b) (.int ki b)=true:=by simp[Instr.sameBits]
  rw[this];rfl
def Ints (cs cs':List Value):Prop:=cs.length=cs'.length/\ ∀(i:Nat) (a:Value),cs[i]? =some a-> ∃(q:IntKind) (n m:Int),a=Value.int q n/\cs'[i]? =some (Value.int q m)/\(Lit.int q m).wf=true
def Ints.part {cs cs':List Value} (h:Ints cs cs') (o n:Nat):Ints ((cs.drop o).take n) ((cs'.drop o).take n):=by
 refine⟨by simp[h.1],fun i a ha=>?_⟩;rw[List.getElem?_take]at ha ⊢;split at ha
 .rename_i hi
  rw[if_pos hi];rw[xW]at ha ⊢;exact h.2 _ _ ha
 .cases ha
def UY {α β:Type} {f g:α->Option β}: ∀ {l:List α} {ys:List β},(∀x∈l,∀y,f x=some y-> ∃y',g x=some y')->l.mapM f=some ys-> ∃ys',l.mapM g=some ys'
 | [],_,_,_=>⟨[],by simp⟩
 | x::l,ys,h,hm=>by
   rw[List.mapM_cons]at hm;simp only[bind,Option.bind_eq_some_iff,pure,Iy]at hm;obtain⟨y,h1,ys',h2,rfl⟩:=hm;obtain⟨y',h3⟩:=h x (.head _) y h1;obtain⟨ys'',h4⟩:=UY (fun x hx=>h x (.tail _ hx)) h2;exact⟨y'::ys'',by rw[List.mapM_cons];simp[h3,h4]⟩
def Lj: ∀(D:Nat) (t:TypeId) {cs cs':List Value} {l:List Lit},Ints cs cs'->P.keyLits D t cs=some l-> ∃l',P.keyLits D t cs'=some l'
 | 0,_,_,_,_,_,h=>by simp[Program.keyLits]at h
 | D + 1,t,cs,cs',l,hi,h=>by
   unfold Program.keyLits at h ⊢;split at h
   .rename_i b _
    obtain⟨q,n,m,e,_⟩:=hi.2 0 _ rfl;cases e
   .rename_i q q' n hu
    obtain⟨q2,n2,m,e,e2,e3⟩:=hi.2 0 _ rfl;cases e;have hl:cs'.length=1:=hi.1.symm
    match cs',hl,e2 with
    | [c],_,e2=>
      simp only[rM,Iy]at e2;subst e2;split at h
      .rename_i hq
       obtain⟨rfl,_⟩:=hq;simp only[hu];exact⟨_,if_pos ⟨trivial,e3⟩⟩
      .cases h
   .obtain⟨q,n,m,e,_⟩:=hi.2 0 _ rfl
    cases e
   .rename_i n e hu
    simp only[hu];split at h
    .rename_i hl
     rw[if_pos (by rw[<-hi.1];exact hl)];obtain⟨ys,h1,_⟩:=Ai h;obtain⟨ys',h2⟩:=UY (g:=fun i=>P.keyLits D e ((cs'.drop (i*P.cellsOf e)).take (P.cellsOf e))) (fun i _ y hy=>Lj D e (hi.part _ _) hy) h1;exact⟨_,by rw[h2];rfl⟩
    .cases h
   .rename_i fs hu
    simp only[hu];split at h
    .rename_i hl
     rw[if_pos (by rw[<-hi.1];exact hl)];obtain⟨ys,h1,_⟩:=Ai h;obtain⟨ys',h2⟩:=UY (g:=fun f=>P.keyLits D f.type ((cs'.drop f.offset).take (P.cellsOf f.type))) (fun f _ y hy=>Lj D f.type (hi.part _ _) hy) h1;exact⟨_,by rw[h2];rfl⟩
    .cases h
   .cases h
def ta:V->Option IntKind| .i q _=>some q|_=>none
def Uc:List V->Option (List IntKind)
 | []=>some []
 | c::cs=>match ta c,Uc cs with|some q,some l=>some (q::l)|_,_=>none
def VN (P:Program) (kt:TypeId):Option KS:=
 match P.underlying kt with
 | some (.int k)=>some (.i k)
 | some .string=>some .s
 | some (.array _ _)|some (.struct _)=>match zeroOf P kt with
   | some (.a cs)=>match Uc cs with
     | some l=>if P.keyType kt&&P.keyTypeAt 6 kt&&P.tiled 6 kt&&(P.keyLits (P.types.size+1) kt (l.map fun q=> .int q 0)).isSome&&Nat.beq l.length (P.cellsOf kt)then some (.a l)else none
     | none=>none
   | _=>none
 | _=>none
def Iq {H:Nat->Nat->Option Value} {g:Nat->Option Value}: ∀ {l:List IntKind} {cs:List V} {o:Nat},Dh l cs=true->BV H g o cs->
    cs.length=l.length/\ ∀(i:Nat) (q:IntKind),l[i]? =some q-> ∃m:Int,cs[i]? =some (.i q m)/\g (o+i)=some (.int q m)/\q.min<=m/\m<=q.max
 | [],[],_,_,_=>⟨rfl,by simp⟩
 | [],_::_,_,h,_=>by simp[Dh]at h
 | q::l,[],_,h,_=>by simp[Dh]at h
 | q ::l,c::cs,o,h,hv=>by
   cases c<;>simp only[Dh,NN]at h
   rename_i q' n;simp only[A4,Cp]at h;obtain⟨rfl,h⟩:=h;obtain⟨⟨c,h1,⟨rfl,h2⟩⟩,h3⟩:=hv;obtain⟨h4,h5⟩:=Iq h h3;refine⟨by simp[h4],fun i q' hq=>?_⟩;cases i with
   | zero=>simp only[rM,Iy]at hq;subst hq;exact⟨n,rfl,h1,h2⟩
   | succ i=>
     obtain⟨m,h6,h7,h8⟩:=h5 i q' (by simpa using hq);exact⟨m,by simpa using h6,by rw[<-h7];congr 1;omega,h8⟩
def qd {kt:TypeId} {ks:KS} (h:VN P kt=some ks): ∃ok,KL P kt ok/\ ∀(H:Nat->Nat->Option Value) (v:V) (c:Value),BQ ks v=true->AY H v c->ok c:=by
 unfold VN at h
 have agg: ∀(hw:(match P.underlying kt with|some (.array _ _)|some (.struct _)=>true|_=>false)=true),(match zeroOf P kt with
  | some (.a cs)=>match Uc cs with
    | some l=>if P.keyType kt&&P.keyTypeAt 6 kt&&P.tiled 6 kt&&(P.keyLits (P.types.size+1) kt (l.map fun q=>Value.int q 0)).isSome&&Nat.beq l.length (P.cellsOf kt)then some (.a l)else none
    | none=>none
  | _=>none)=some ks-> ∃ok,KL P kt ok/\ ∀(H:Nat->Nat->Option Value) (v:V) (c:Value),BQ ks v=true->AY H v c->ok c:=fun hw h=>by
  split at h
  .split at h
   .rename_i l _
    split at h
    .rename_i hc
     cases h;simp only[A4]at hc;obtain⟨⟨⟨⟨c1,c2⟩,c3⟩,c4⟩,c5⟩:=hc;refine⟨_,KL.of_law (deep_law (m:=6) (by omega) c2 c3 hw),fun H v c hv hr=>?_⟩;cases v<;>simp only[BQ,NN]at hv
     rename_i cs;obtain⟨c',rfl,h1,h2⟩:=hr;obtain⟨h3,h4⟩:=Iq hv h2;have hsz:c'.size=P.cellsOf kt:=by rw[h1,h3];exact U7 c5
     obtain⟨L,hL⟩:=Option.isSome_iff_exists.1 c4
     obtain⟨L',hL'⟩:=Lj (P:=P) (P.types.size+1) kt (cs:=l.map fun q=>Value.int q 0) (cs':=c'.toList) ⟨by simp[h1,h3],fun i a ha=>by
      rw[OU]at ha;obtain⟨q,hq,rfl⟩:=Ai ha;obtain⟨m,_,h6,h7⟩:=h4 i q hq
      refine⟨q,0,m,rfl,by simpa using h6,by simpa[Lit.wf]using h7⟩⟩ hL
     have hf:(Value.agg c').formed P kt=true:=by
      unfold Value.formed;split at hw<;>simp_all
     refine⟨.string (keyBytes L'),?_⟩;unfold keyOf;split at hw
     .rename_i hu;simp only[hu,c1,hf,Bool.and_self,if_true];show Option.map _ (P.keyLits _ kt c'.toList)=_;rw[hL'];rfl
     .rename_i hu;simp only[hu,c1,hf,Bool.and_self,if_true];show Option.map _ (P.keyLits _ kt c'.toList)=_;rw[hL'];rfl
     .cases hw
    .cases h
   .cases h
  .cases h
 split at h
 .rename_i q0 hu
  cases h;refine⟨_,KL.int hu q0,fun H v c hv hr=>?_⟩;cases v<;>simp only[BQ,NN]at hv
  rename_i q n;obtain⟨rfl,_⟩:=hr;have:=of_decide_eq_true hv;subst this;exact⟨n,rfl⟩
 .rename_i hu
  cases h;refine⟨_,KL.of_law (WideMaps.string_law hu),fun H v c hv hr=>?_⟩;cases v<;>simp only[BQ,NN]at hv
  have hr':c= .string _:=hr;subst hr';exact⟨_,WideMaps.keyOf_string_mk hu (Nat.le_trans (Nat.le_of_ble_eq_true hv) (by decide))⟩
 .rename_i hu;exact agg (by rw[hu]) h
 .rename_i hu;exact agg (by rw[hu]) h
 .cases h
def RN: ∀ {l:List IntKind} {cs ds:List V},Dh l cs=true->Dh l ds=true-> ∃r,Bt cs ds=some r/\(r=true↔cs=ds)
 | [],[],[],_,_=>⟨true,rfl,by simp⟩
 | [],_::_,_,h,_=>by simp[Dh]at h
 | [],[],_::_,_,h=>by simp[Dh]at h
 | _::_,[],_,h,_=>by simp[Dh]at h
 | _::_,_::_,[],_,h=>by simp[Dh]at h
 | q ::l,c::cs,d::ds,h,h'=>by
   cases c<;>simp only[Dh,NN]at h
   cases d<;>simp only[Dh,NN]at h'
   rename_i k a k' b;simp only[A4,Cp]at h h';obtain⟨rfl,h⟩:=h;obtain⟨rfl,h'⟩:=h';obtain⟨r,h1,h2⟩:=RN h h';refine⟨(a==b)&&r,by simp[Bt,h1],?_⟩;rw[A4,h2];constructor
   .rintro⟨h3,rfl⟩
    rw[show a=b by simpa using h3]
   .intro e
    cases e;exact⟨by simp,rfl⟩
def TC {ks:KS} {H:Nat->Nat->Option Value} {x y:V} {c d:Value} (hx:BQ ks x=true) (hy:BQ ks y=true) (hc:AY H x c) (hd:AY H y d):Dz x y=true↔c=d:=by
 cases ks with
 | i q=>
   cases x<;>simp only[BQ,NN]at hx
   cases y<;>simp only[BQ,NN]at hy
   rename_i k a k' b;obtain⟨rfl,_⟩:=hc;obtain⟨rfl,_⟩:=hd;have h1:=of_decide_eq_true hx;have h2:=of_decide_eq_true hy;subst h1;subst h2;simp[Dz]
 | s=>
   cases x<;>simp only[BQ,NN]at hx
   cases y<;>simp only[BQ,NN]at hy
   have h1:c= .string _:=hc;have h2:d= .string _:=hd;subst h1;subst h2;simp[Dz]
 | a l =>
   cases x<;>simp only[BQ,NN]at hx
   cases y<;>simp only[BQ,NN]at hy
   rename_i cs ds;obtain⟨c',rfl,h1,h2⟩:=hc;obtain⟨d',rfl,h3,h4⟩:=hd;obtain⟨r,h5,h6⟩:=RN hx hy;obtain⟨g1,g2⟩:=Iq hx h2;obtain⟨g3,g4⟩:=Iq hy h4;simp only[Dz,h5,Option.getD_some,h6,Value.agg.injEq];constructor
   .rintro rfl
    refine Array.ext (by omega) fun i hi hj=>?_
    obtain⟨m,a1,a2,_⟩:=g2 i l[i] (Dp (by omega));obtain⟨m',b1,b2,_⟩:=g4 i l[i] (Dp (by omega));rw[a1]at b1;cases b1;simp only[Gq,Array.getElem?_eq_getElem hi,Array.getElem?_eq_getElem hj,Iy]at a2 b2;rw[a2,b2]
   .rintro rfl
    refine List.ext_getElem? fun i=>?_
    by_cases hi:i<l.length
    .obtain⟨m,a1,a2,_⟩:=g2 i l[i] (Dp hi)
     obtain⟨m',b1,b2,_⟩:=g4 i l[i] (Dp hi);rw[a2]at b2;cases b2;rw[a1,b1]
    .rw[List.getElem?_eq_none (by omega),List.getElem?_eq_none (by omega)]
def Ub {ks:KS} {H:Nat->Nat->Option Value} {key:V} {c x:Value} {val:V} (hk:BQ ks key=true) (hc:AY H key c) (hx:AY H val x) (clk:Nat): ∀ {kvs:List (V×V)} {es:List MapEntry},Fp H kvs es->(∀kv∈kvs,BQ ks kv.1=true)->(∀e∈es,e.key≠c)->
    Ch key kvs=none/\Fp H (DU key val kvs) (es++[{key:=c,val:=x,born:=clk}])
 | [],[],_,_,_=>⟨rfl,hc,hx,trivial⟩
 | [],_::_,h,_,_=>h.elim
 | _::_,[],h,_,_=>h.elim
 | (k,v)::r,e::es,h,hks,hne=>by
   obtain⟨h1,h2,h3⟩:=h
   have hf:Dz key k=false:=by
    cases hb:Dz key k with
    | false=>rfl
    | true=>exact absurd ((TC hk (hks _ (.head _)) hc h1).1 hb).symm (hne e (.head _))
   obtain⟨h4,h5⟩:=Ub hk hc hx clk h3 (fun kv hkv=>hks kv (.tail _ hkv)) (fun e he=>hne e (.tail _ he));simp only[Ch,DU,hf,cond_false];exact⟨h4,h1,h2,h5⟩
def Ua {ks:KS} {H:Nat->Nat->Option Value} {key:V} {c x:Value} {val:V} (hk:BQ ks key=true) (hc:AY H key c) (hx:AY H val x): ∀ {kvs:List (V×V)} {es:List MapEntry} {j:Nat} {e:MapEntry},Fp H kvs es->(∀kv∈kvs,BQ ks kv.1=true)->
    es.Pairwise (fun a b=>a.key≠b.key)->es[j]? =some e->e.key=c->
    ∃v,Ch key kvs=some v/\AY H v e.val/\Fp H (DU key val kvs) (es.modify j fun e=>{e with key:=c,val:=x})
 | [],[],j,_,_,_,_,hj,_=>by simp at hj
 | [],_::_,_,_,h,_,_,_,_=>h.elim
 | _::_,[],_,_,h,_,_,_,_=>h.elim
 | (k, v)::r,e0::es,j,e,h,hks,hd,hj,he=>by
   obtain⟨h1,h2,h3⟩:=h;obtain⟨hd1,hd2⟩:=List.pairwise_cons.1 hd;have hiff:=TC hk (hks _ (.head _)) hc h1;cases j with
   | zero=>
     simp only[rM,Iy]at hj;subst hj;have hb:Dz key k=true:=hiff.2 he.symm;simp only[Ch,DU,hb,cond_true];exact⟨v,rfl,h2,hc,hx,h3⟩
   | succ j=>
     simp only[xX]at hj
     have hb:Dz key k=false:=by
      cases hb:Dz key k with
      | false=>rfl
      | true=>
        have:=hiff.1 hb;exact absurd (this.symm.trans he.symm) (hd1 e (Cm hj))
     obtain⟨v',h4,h5,h6⟩:=Ua hk hc hx h3 (fun kv hkv=>hks kv (.tail _ hkv)) hd2 hj he;simp only[Ch,DU,hb,cond_false];exact⟨v',h4,h5,h1,h2,h6⟩
def gF {ok:Value->Prop} {ks:KS} {H:Nat->Nat->Option Value} (hok: ∀(H:Nat->Nat->Option Value) (v:V) (c:Value),BQ ks v=true->AY H v c->ok c): ∀ {kvs:List (V×V)} {es:List MapEntry},Fp H kvs es->(∀kv∈kvs,BQ ks kv.1=true)-> ∀e∈es,ok e.key
 | (k,v)::r,e0::es,h,hks,e,he=>by
   obtain⟨h1,h2,h3⟩:=h;rcases Fg.1 he with rfl|he
   .exact hok H k _ (hks _ (.head _)) h1
   .exact gF hok h3 (fun kv hkv=>hks kv (.tail _ hkv)) e he
 | [],[],_,_,_,he=>by cases he
 | [],_::_,h,_,_,_=>h.elim
 | _::_,[],h,_,_,_=>h.elim
def We (hR:Rel F Z w) {n:Nat} {kvs:List (V×V)} (h:Z n=some (.map kvs)): ∃es clk,w.heap[n]? =some (.map es clk)/\Fp (Hh F Z w) kvs es.toList/\es.toList.Pairwise (fun a b=>a.key≠b.key):=by
 obtain⟨_,ob,h2,es,clk,rfl,h4⟩:=hR.own n _ h;exact⟨es,clk,h2,h4⟩
def U0 {t kt e:TypeId} {ks:KS} {z:V} {ok:Bool} (hu:P.underlying t=some (.map kt e)) (hks:VN P kt=some ks) (hz:zeroOf P e=some z) (hR:Rel F Z w) {vm vk:V} {cm ck:Value}
    (hm:AY (Hh F Z w) vm cm) (hk:AY (Hh F Z w) vk ck) (h:AN Z ks z ok vm vk fun v=>k v Z):Cf F Z w k kp ((Instr.lookup t cm ck ok).run P w):=by
 obtain⟨h0,h⟩:=h;obtain⟨okk,K,hok⟩:=qd hks;have hck:=hok _ _ _ h0 hk;obtain⟨zc,hz1,hz2⟩:=Ei hz w;have hzr:AY (Hh F Z w) z zc:=G2 hz2;have hch: ∀em,(Instr.checkKey em 10000 kt ck).run P w= .ok () w:=fun em=>K.check w em hck
 unfold Instr.lookup;simp only[DQ,BF hu,Gr]
 have fin: ∀ {o:Option V} {x:Value} {b:Bool},(match o with|some v=>b=true/\AY (Hh F Z w) v x|none=>b=false/\x=zc)->k (found z ok o) Z->Cf F Z w k kp (Result.ok (if ok=true then Value.tuple #[x,.bool b]else x) w):=fun {o x b} ho hk=>by
  have tup: ∀ {v:V} {x:Value} {b:Bool},AY (Hh F Z w) v x->AY (Hh F Z w) (.t [v,.b b]) (.tuple #[x,.bool b]):=fun hv=>⟨_,rfl,rfl,⟨_,rfl,hv⟩,⟨_,rfl,rfl⟩,trivial⟩
  cases o with
  | some v=>
    obtain⟨rfl,hv⟩:=ho;cases ok
    .exact Ar hR hk hv
    .exact Ar hR hk (tup hv)
  | none=>
    obtain⟨rfl,rfl⟩:=ho;cases ok
    .exact Ar hR hk hzr
    .exact Ar hR hk (tup hzr)
 cases vm<;>first|exact h.elim|skip
 .rename_i n
  simp only at h;split at h
  .rename_i kvs hn
   obtain⟨h1,h2⟩:=h;simp only[AY]at hm;subst hm;obtain⟨es,clk,h3,h4,h5⟩:=We hR hn;have hg:(getObj n).run P w= .ok (.map es clk) w:=by simp[getObj,Sem.run,h3]
   simp only[DQ,hg,Gr,Ew,hch];rcases K.find w hck es.toList (gF hok h4 h1)with⟨h6,h7⟩|⟨j,e',h6,h7,h8⟩
   .obtain⟨h9,_⟩:=Ub h0 hk hk 0 h4 h1 h7
    simp only[h6,Gr,DQ,hz1,Ew];rw[h9]at h2;exact fin (o:=none) ⟨rfl,rfl⟩ h2
   .obtain⟨v,h9,h10,_⟩:=Ua h0 hk hk h4 h1 h5 h7 h8
    simp only[h6,Gr,Ew];rw[h9]at h2;exact fin (o:=some v) ⟨rfl,h10⟩ h2
  .exact h.elim
 .simp only[AY]at hm
  subst hm;simp only[DQ,Ew,Gr,hch];rcases K.find w hck [] (fun e he=>by cases he)with⟨h6,_⟩|⟨j,e',_,h7,_⟩
  .simp only[h6,Gr,DQ,hz1,Ew]
   exact fin (o:=none) ⟨rfl,rfl⟩ h
  .simp at h7
def Qs {n:Nat} {ob:Obj} {es:Array MapEntry} {clk:Nat} (h:w.heap[n]? =some (.map es clk)):(setObj n ob).run P w= .ok () (CZ w n ob):=by
 simp[setObj,Sem.run,h,CZ]
def JG {c x:Value}: ∀ {es:List MapEntry} {j:Nat} {e:MapEntry},es[j]? =some e->e.key=c->es.Pairwise (fun a b=>a.key≠b.key)->(es.modify j fun e=>{e with key:=c,val:=x}).Pairwise (fun a b=>a.key≠b.key)
 | [],_,_,h,_,_=>by simp at h
 | e0::es,0,e,h,he,hp=>by
   simp only[rM,Iy]at h;subst h;obtain⟨h1,h2⟩:=List.pairwise_cons.1 hp;exact List.pairwise_cons.2 ⟨fun a ha=>by simpa only[<-he]using h1 a ha,h2⟩
 | e0::es,j+1,e,h,he,hp=>by
   simp only[xX]at h;obtain⟨h1,h2⟩:=List.pairwise_cons.1 hp;refine List.pairwise_cons.2 ⟨fun a ha=>?_,JG h he h2⟩;have ha:a∈es.modify j fun e=>{e with key:=c,val:=x}:=ha
   obtain⟨i,hi⟩:=List.mem_iff_getElem?.1 ha;rw[List.getElem?_modify]at hi;cases hb:es[i]? with
   | none=>rw[hb]at hi;cases hi
   | some b=>
     rw[hb]at hi;simp only[Option.map_eq_map,eY,Iy]at hi;split at hi
     .rename_i hji
      subst hi;subst hji;rw[h]at hb;cases hb;simpa only[<-he]using h1 e (Cm h)
     .subst hi
      exact h1 b (Cm hb)
def Uz {t kt e:TypeId} {ks:KS} (hu:P.underlying t=some (.map kt e)) (hks:VN P kt=some ks) (hR:Rel F Z w) {vm vk vx:V} {cm ck cx:Value}
    (hm:AY (Hh F Z w) vm cm) (hk:AY (Hh F Z w) vk ck) (hx:AY (Hh F Z w) vx cx) (h:AO Z ks vm vk vx fun Z'=>k (.t []) Z') :
    ∃Z' w',(Instr.mapUpdate t cm ck cx).run P w= .ok () w'/\k (.t []) Z'/\Rel F Z' w'/\B7 F Z w Z' w':=by
 obtain⟨h0,h⟩:=h;obtain⟨okk,K,hok⟩:=qd hks;have hck:=hok _ _ _ h0 hk;have hch: ∀em,(Instr.checkKey em 10000 kt ck).run P w= .ok () w:=fun em=>K.check w em hck
 cases vm<;>first|exact h.elim|skip
 rename_i n;simp only at h;split at h
 .rename_i kvs hn
  obtain⟨h1,h2⟩:=h;simp only[AY]at hm;subst hm;obtain⟨es,clk,h3,h4,h5⟩:=We hR hn;have hg:(getObj n).run P w= .ok (.map es clk) w:=by simp[getObj,Sem.run,h3]
  unfold Instr.mapUpdate;simp only[DQ,BF hu,Gr,hg,hch];rcases K.find w hck es.toList (gF hok h4 h1)with⟨h6,h7⟩|⟨j,e',h6,h7,h8⟩
  .obtain⟨_,h9⟩:=Ub h0 hk hx clk h4 h1 h7
   refine⟨_,CZ w n (.map (es.push {key:=ck,val:=cx,born:=clk}) (clk+1)),?_,h2,J3 hR hn ⟨_,_,rfl,?_,?_⟩,G9 hn _ _⟩
   .simp only[h6,Gr]
    exact Qs h3
   .simpa using h9
   .rw[Array.toList_push,List.pairwise_append]
    exact⟨h5,by simp,fun a ha b hb=>by simp at hb;subst hb;exact h7 a ha⟩
  .obtain⟨v,_,_,h9⟩:=Ua h0 hk hx h4 h1 h5 h7 h8
   have hj:es[j]? =some e':=by rw[<-h7];simp
   refine⟨_,CZ w n (.map (es.modify j fun e=>{e with key:=ck,val:=cx}) clk),?_,h2,J3 hR hn ⟨_,_,rfl,?_,?_⟩,G9 hn _ _⟩
   .simp only[h6,Gr,DQ,hj,eY,Option.getD_some,h8,K.stays w hck]
    exact Qs h3
   .simpa using h9
   .simpa using JG (x:=cx) h7 h8 h5
 .exact h.elim
def rj (P:Program):Op->Option F4
 | .makeMap t r=>match r,P.underlying t with
   | none,_=>some .OY
   | some _,_=>none
 | .lookup t x i ok=>match P.underlying t with
   | some (.map kt e)=>match VN P kt,zeroOf P e,BU x,BU i with
     | some ks,some z,some x,some i=>some (.lookup ks z ok x i)
     | _,_,_,_=>none
   | _=>none
 | .mapUpdate t m i x=>match P.underlying t with
   | some (.map kt _)=>match VN P kt,BU m,BU i,BU x with
     | some ks,some m,some i,some x=>some (.Ed ks m i x)
     | _,_,_,_=>none
   | _=>none
 | .insert t m i x=>match P.underlying t with
   | some (.map kt _)=>match VN P kt,BU m,BU i,BU x with
     | some ks,some m,some i,some x=>some (.Ed ks m i x)
     | _,_,_,_=>none
   | _=>none
 | _=>none
def Yt {env:Env} {a:Act} {o:Oper} {ao:F4} (ho:rj P o.op=some ao) (h:FX P ao env Z k kp) (he:CO (Hh F Z w) env a.tmps) (hR:Rel F Z w) :
    Good P F Z w k kp ((execOp a.eval o).run P w):=by
 have put: ∀ {t:TypeId} {m i x:Operand},(match P.underlying t with
  | some (.map kt _)=>match VN P kt,BU m,BU i,BU x with
    | some ks,some m,some i,some x=>some (F4.Ed ks m i x)
    | _,_,_,_=>none
  | _=>none)=some ao->Good P F Z w k kp ((do Instr.mapUpdate t (a.eval m) (a.eval i) (a.eval x);pure Next.skip:Sem Next).run P w):=fun {t m i x} ho=>by
  split at ho
  .rename_i kt e hu
   split at ho
   .rename_i ks m' i' x' hks hm hi hx
    cases ho;obtain⟨vm,h1,g⟩:=Aj h;obtain⟨vi,h2,g⟩:=Aj g;obtain⟨vx,h3,g⟩:=Aj g;obtain⟨Z',w',e1,e2,e3,e4⟩:=Uz hu hks hR (Am he hm h1) (Am he hi h2) (Am he hx h3) g;simp only[DQ,e1,Gr,Ew];exact⟨Z',e2,e3,e4⟩
   .cases ho
  .cases ho
 unfold execOp;unfold rj at ho;split at ho
 .rename_i t r hop
  rw[hop];dsimp only;split at ho
  .cases ho
   refine Az ?_;simp only[FX]at h;exact⟨_,_,h w.heap.size hR.new,rfl,IE hR (o:= .map []) ⟨#[],0,rfl,trivial,by simp⟩,EF _ _⟩
  .cases ho
 .rename_i t x i ok hop
  rw[hop];dsimp only;split at ho
  .rename_i kt e hu
   split at ho
   .rename_i ks z x' i' hks hz hx hi
    cases ho;obtain⟨vx,h1,g⟩:=Aj h;obtain⟨vi,h2,g⟩:=Aj g;exact Az (U0 hu hks hz hR (Am he hx h1) (Am he hi h2) g)
   .cases ho
  .cases ho
 .rename_i t m i x hop
  rw[hop];exact put ho
 .rename_i t m i x hop
  rw[hop];exact put ho
 .cases ho
def YP (P:Program) (name:String):List (TypeId×FuncId):=(List.range P.types.size).filterMap fun t=>
 match P.info? t,P.underlying t with
 | some i,some d=>match i.methods.find? (·.name==name)with
   | some m=>if m.path.isEmpty then match m.func,d with
     | some (f,true),.pointer _=>some (t,f)
     | some (_,false),.pointer _=>none
     | some (f,false),_=>some (t,f)
     | _,_=>none
     else none
   | none=>none
 | _,_=>none
def rl (P:Program):Op->Option F4
 | .call c=>match c.callee with
   | .invoke x name=>match BU x,Kq c.args.toList with
     | some x,some as=>some (.inv (YP P name) x as)
     | _,_=>none
   | _=>none
 | _=>none
def Wf {t:TypeId} {f:FuncId}: ∀ {l:List (TypeId×FuncId)},look t l=some f->(t,f)∈l
 | [],h=>by cases h
 | (u,g)::r,h=>by
   simp only[look]at h;cases hb:Nat.beq u t with
   | true=>
     rw[hb]at h;simp only[cond_true,Iy]at h;rw[U7 hb,h];exact .head _
   | false=>
     rw[hb]at h;exact .tail _ (Wf h)
def Yk {name:String} {t:TypeId} {f:FuncId} (h:(t,f)∈YP P name) (c:Value):(method (P.types.size+Made.depth) t c name).run P w= .ok (f,c) w:=by
 unfold YP at h;rw[List.mem_filterMap]at h;obtain⟨u,hu,h⟩:=h;rw[List.mem_range]at hu;split at h
 rotate_left
 .cases h
 rename_i i d hi hd;split at h
 rotate_left
 .cases h
 rename_i m hm;split at h
 rotate_left
 .cases h
 rename_i hp
 have hpl:m.path.toList= []:=by
  have:m.path= #[]:=by simpa using hp
  rw[this]
 obtain⟨n,hn⟩: ∃n,P.types.size+Made.depth=n+1:=⟨P.types.size+Made.depth - 1,by omega⟩
 have key: ∀ptr,u=t->m.func=some (f,ptr)->(ptr=true-> ∃e,d= .pointer e)->(ptr=false-> ∀e,d≠ .pointer e)->(method (P.types.size+Made.depth) t c name).run P w= .ok (f,c) w:=fun ptr e1 e2 e3 e4=>by
  subst e1;rw[hn];unfold method;simp only[DQ,run_typeInfo w hi,Gr,hm,hpl,follow,Ew,e2,receiverAt,run_underlying hd];cases ptr with
  | true=>
    obtain⟨e,rfl⟩:=e3 rfl;simp[Place.get]
  | false=>
    have:=e4 rfl;cases d<;>first|exact absurd rfl (this _)|simp[Place.get]
 split at h
 .rename_i f' e hfun
  cases h;exact key true rfl hfun (fun _=>⟨_,rfl⟩) (fun h=>by cases h)
 .cases h
 .rename_i f' hfun hne
  cases h;exact key false rfl hfun (fun h=>by cases h) (fun _ e he=>by subst he;exact hne e rfl)
 .cases h
def eW {tab:List (TypeId×FuncId)} {x:V} {args:List V} {Q:R->AE->Prop} (h:A3 P tab x args Z Q): ∃t v f,x= .FD t v/\look t tab=some f/\Av P f (v::args) Z Q:=by
 unfold A3 at h;split at h
 .split at h
  .exact⟨_,_,_,rfl,by assumption,h⟩
  .exact h.elim
 .exact h.elim
def Yu {env:Env} {a:Act} {o:Oper} {ao:F4} (ho:rl P o.op=some ao) (h:FX P ao env Z k kp) (he:CO (Hh F Z w) env a.tmps) (hR:Rel F Z w) :
    Good P F Z w k kp ((execOp a.eval o).run P w):=by
 unfold rl at ho;split at ho
 rotate_left
 .cases ho
 rename_i c hop;split at ho
 rotate_left
 .cases ho
 rename_i x name hc;split at ho
 rotate_left
 .cases ho
 rename_i x' as hx has;cases ho;obtain⟨vx,h1,g⟩:=Aj h;obtain⟨vs,h2,g⟩:=Ia g;obtain⟨t,v,f,rfl,hf,g⟩:=eW g;obtain⟨cv,hcv,hvr⟩:=Am he hx h1
 have hext:(#[Value.iface t cv]++c.args.map a.eval).extract 1 (#[Value.iface t cv]++c.args.map a.eval).size=c.args.map a.eval:=by
  apply Array.ext';simp[List.take_of_length_le]
 have h0:(#[Value.iface t cv]++c.args.map a.eval)[0]? =some (.iface t cv):=by rw[Array.getElem?_append_left (Nat.zero_lt_one)];rfl
 have hrun:(execOp a.eval o).run P w=(callFunc f (#[cv]++c.args.map a.eval)).run P w:=by
  unfold execOp;simp only[hop,resolve,hc,DQ,Ew,Gr,invoke,hcv,h0,hext,callMethod];have hprog:(program).run P w= .ok P w:=rfl;simp only[hprog,Gr,Yk (Wf hf)]
 rw[hrun];refine QW hR ?_ g;have:=Ik (H:=Hh F Z w) (vs:=[v]) (cs:= #[cv]) ⟨rfl,⟨cv,rfl,hvr⟩,trivial⟩ (J9 he has h2);simpa using this
def ZA {t u e:TypeId} {i:TypeInfo} (ty:TypeId) (ht:P.underlying t=some (.slice e)) (hi:P.info? e=some i) (hR:Rel F Z w) {vx vy:V} {cx cy:Value} (hx:AY (Hh F Z w) vx cx) (hy:AY (Hh F Z w) vy cy)
    (h:Ab Z i.size vx vy k):Cf F Z w k kp ((Builtin.copy_ #[t,u] ty #[cx,cy]).run P w):=by
 have h':=LZ hR hy h;clear h;obtain⟨ys,base,c2,⟨hone,h⟩,rfl,hyl,hys⟩:=h'
 have main: ∀(n off len:Nat) (a:Option Addr) (cap:Nat),(len≠0->a=some ⟨n,off*i.size,none⟩)->Ps Z i.size ys n off len k->Cf F Z w k kp ((Builtin.copy_ #[t,u] ty #[.slice a len cap,.slice base ys.length c2]).run P w):=fun n off len a cap ha hk=>by
  unfold Ps at hk;split at hk
  .rename_i s es c hs
   obtain⟨rfl,hle,hk⟩:=hk;obtain⟨cur,et,h3,h4,h5,h6,h7⟩:=E5 hR hs;have hsz:sizeOf e=(do pure (<-typeInfo e).size:Sem Nat):=rfl;have hmin:Nat.min ys.length len=min ys.length len:=rfl;have hmL:min ys.length len<=Ad:=by omega
   have hrng: ∀H,AY H (.i .i64 (min ys.length len:Nat)) (goInt (min ys.length len:Nat)):=fun H=>⟨rfl,J7 hmL⟩
   by_cases h0:min ys.length len=0
   ·
    have hrun:(Builtin.copy_ #[t,u] ty #[.slice a len cap,.slice base ys.length c2]).run P w= .ok (goInt 0) w:=by
     have hm0:Nat.min ys.length len=0:=h0;cases a<;>cases base<;>simp[Builtin.copy_,run_underlying ht,sizeOf,typeInfo,hi,Builtin.lenOf,hm0,Builtin.firstCells,loadCells,loadCellsFrom,storeCells]
    rw[hrun];rw[h0]at hk;simp only[Nat.add_zero]at hk;have e1:es.take off++(ys.take 0++es.drop off)=es:=by simp
    rw[e1]at hk
    have e2:Bu Z n (.arr i.size es c)=Z:=by
     funext m;unfold Bu;split
     .rename_i e;rw[e,hs]
     .rfl
    rw[e2]at hk;exact Ar hR hk ⟨rfl,J7 (n:=0) (by simp)⟩
   .obtain⟨b,o,g,rfl,hg,hrow⟩:=hys.resolve_left (fun e=>by rw[e]at h0;simp at h0)
    obtain rfl:=ha (by omega);obtain⟨news,h8,h9,h10⟩:=KQ (ID hrow (min ys.length len));have hcnt:(ys.take (min ys.length len)).length=min ys.length len:=by simp
    rw[hcnt]at h8;have hmul:(off+min ys.length len)*i.size<=c*i.size:=VC _ (by omega);rw[Nat.add_mul]at hmul
    have hn1: ∀u∈news,u.oneCell'=true:=fun u hu=>by
     obtain⟨j,hj⟩:=List.mem_iff_getElem?.1 hu;have hlt:j<(ys.take (min ys.length len)).length*i.size:=by rw[hcnt,<-h8];exact(JM.1 hj).1
     obtain⟨h4,h5⟩:=UQ hlt;obtain⟨h6,h7⟩:=BC.1 h10 (j / i.size) _ (Dp h4);obtain⟨c,hc,hr⟩:=BY.1 h7 (j % i.size) _ (Dp (by omega));have hdm:=Nat.div_add_mod' j i.size;rw[show 0+j / i.size*i.size+j % i.size=j by omega,hj]at hc;cases hc;exact QN hr (hone _ (List.mem_of_mem_take (List.getElem_mem h4)) _ (List.getElem_mem _))
    have hrunF:=run_firstCells_some (P:=P) w i.size (min ys.length len) ⟨b,o,none⟩ ys.length c2 news h8 (fun j v hv=>by rw[Cv];exact hg _ _ (h9 j v hv));have hst:=Cw (P:=P) news w cur (off*i.size) 0 h3 (by omega) hn1;simp only[Nat.add_zero]at hst
    have hrun:(Builtin.copy_ #[t,u] ty #[.slice (some ⟨n,off*i.size,none⟩) len cap,.slice (some ⟨b,o,none⟩) ys.length c2]).run P w= .ok (goInt (min ys.length len:Nat)) (CZ w n (.cells (C7 cur (off*i.size) news) et (0,0))):=by
     simp[Builtin.copy_,run_underlying ht,sizeOf,typeInfo,hi,Builtin.lenOf,hmin,hrunF,hst]
    rw[hrun];refine⟨_,_,hk,hrng _,J3 hR hs ⟨_,et,rfl,by rw[EB];exact h4,by simp;omega,by simp;omega,?_⟩,G9 hs _ _⟩;have hol:off<=es.length:=by omega
    refine HA (Ej (ID h7 off) fun j hj=>?_) (HA (Ej h10 fun j hj=>?_) (Ej (N6 h7 (off+min ys.length len)) fun j hj=>?_))
    .rw[Lv,Nat.min_eq_left hol]at hj
     exact DN _ _ _ _ (by omega)
    .rw[hcnt]at hj
     rw[Lv,Nat.min_eq_left hol];simp only[Gq];exact GN _ _ _ _ (by omega) (by omega)
    .rw[Lv,Nat.min_eq_left hol,hcnt,Gq,Gq,Nat.add_mul]
     exact DN _ _ _ _ (by omega)
  .exact hk.elim
 cases vx
 case sl n len cap=>
  obtain⟨rfl,_⟩:=hx;exact main n 0 len _ cap (fun _=>by simp) h
 case sv n s off len=>
  obtain⟨rfl,h⟩:=h;obtain⟨a,cap,rfl,_,h6⟩:=hx;exact main n off len a cap h6 h
 all_goals exact h.elim
def fv (P:Program):Op->Option F4
 | .call c=>match c.callee,c.args.toList,c.argTypes.toList with
   | .builtin .copy,[x,y],[t,_]=>match P.underlying t with
     | some (.slice e)=>match BU x,BU y,P.info? e with
       | some x,some y,some i=>some (.copy i.size x y)
       | _,_,_=>none
     | _=>none
   | _,_,_=>none
 | _=>none
def XT {env:Env} {a:Act} {o:Oper} {ao:F4} (ho:fv P o.op=some ao) (h:FX P ao env Z k kp) (he:CO (Hh F Z w) env a.tmps) (hR:Rel F Z w) :
    Good P F Z w k kp ((execOp a.eval o).run P w):=by
 unfold fv at ho;split at ho
 rotate_left
 .cases ho
 rename_i c hop;split at ho
 rotate_left
 .cases ho
 rename_i x y t u hc hargs htys;split at ho
 rotate_left
 .cases ho
 rename_i e hu;split at ho
 rotate_left
 .cases ho
 rename_i x' y' i hx hy hi;cases ho;obtain⟨vx,h1,g⟩:=Aj h;obtain⟨vy,h2,g⟩:=Aj g;have ea:c.args= #[x,y]:=by apply Array.ext';simpa using hargs
 have et:c.argTypes= #[t,u]:=by apply Array.ext';simpa using htys
 unfold execOp;simp only[hop,resolve,hc,ea,et,DQ,Ew,Gr,invoke,builtin,List.map_toArray,EZ,List.map_nil];exact Ek (ZA (P:=P) (kp:=kp) o.type hu hi hR (Am he hx h1) (Am he hy h2) g)
def fU (P:Program) (o:Op):Option F4:=match ri P o with|some a=>some a|none=>match rj P o with|some a=>some a|none=>match rl P o with|some a=>some a|none=>fv P o
def Yr {env:Env} {a:Act} {o:Oper} {ao:F4} (ho:fU P o.op=some ao) (h:FX P ao env Z k kp) (he:CO (Hh F Z w) env a.tmps) (hR:Rel F Z w) :
    Good P F Z w k kp ((execOp a.eval o).run P w):=by
 unfold fU at ho;split at ho
 .rename_i h';cases ho;exact Ys h' h he hR
 .split at ho
  .rename_i h';cases ho;exact Yt h' h he hR
  .split at ho
   .rename_i h';cases ho;exact Yu h' h he hR
   .exact XT ho h he hR
end Go.Gl
namespace Go.Gl
variable {P:Program} {F:Nat->Prop}
def emp:AE:=fun _=>none
def Pure (P:Program) (f:FuncId) (args:List V) (v:V):Prop:=Av P f args emp fun r Z'=>r= .ret v/\Z'=emp
def Z3 {w:World} (F:Nat->Prop) (h: ∀n,F n->n<w.heap.size):Rel F emp w:=⟨fun n o ho=>(by cases ho),h⟩
def Ur {Z:AE} {w w':World} {F':Nat->Prop} (h:B7 F' emp w emp w'):B7 F Z w Z w':=
 ⟨fun n hn _=>h.frame n hn rfl,h.size,h.os,h.tape,h.output,fun _ h0 _=>h0⟩
def Sf {Z:AE} {w w':World} {F':Nat->Prop} (hR:Rel F Z w) (h:B7 F' emp w emp w'):Rel F Z w':=
 hR.step (Ur h) fun n _ hn=> .inl ⟨hn,h.frame n (hR.lt hn) rfl⟩
def Pure.use {f:FuncId} {args:List V} {v:V} (h:Pure P f args v) {Z:AE} {k kp:V->AE->Prop} (hk:k v Z):Av P f args Z (qk k kp):=by
 refine⟨h.1,fun F w cs hR hv=>?_⟩
 have hH: ∀w:World,(Hh (fun n=>F n\/Z n≠none) emp w)=Hh F Z w:=fun w=>by
  funext b o;unfold Hh;by_cases hb:F b\/(Z b).isSome=true
  .rw[if_pos hb,if_pos]
   rcases hb with hb|hb
   .exact .inl (.inl hb)
   .exact .inl (.inr (by intro e;rw[e]at hb;cases hb))
  .rw[if_neg hb,if_neg]
   rintro((h|h)|h)
   .exact hb (.inl h)
   .exact hb (.inr (by cases hs:Z b with|none=>exact absurd hs h|some o=>rfl))
   .cases h
 refine Calls.mono (h.2 (fun n=>F n\/Z n≠none) w cs (Z3 _ fun n hn=>?_) (by rw[hH];exact hv)) fun e w' ⟨r,Z',⟨hr,hs⟩,h1,h2,h3⟩=>?_
 .rcases hn with hn|hn
  .exact hR.lock n hn
  .cases hs:Z n with
   | none=>exact absurd hs hn
   | some o=>exact hR.lt hs
 .subst hr
  subst hs;rw[hH]at h1;exact⟨.ret v,Z,hk,h1,Sf hR h3,Ur h3⟩
def Av.mono {f:FuncId} {args:List V} {Z:AE} {Q Q':R->AE->Prop} (h:Av P f args Z Q) (hq: ∀r Z',Q r Z'->Q' r Z'):Av P f args Z Q':=
 ⟨h.1,fun F w cs hR hv=>Calls.mono (h.2 F w cs hR hv) fun _ _ ⟨r,Z',h1,h2⟩=>⟨r,Z',hq _ _ h1,h2⟩⟩
def Nd.mono {l:Nat} {args:List V} {Z:AE} {Q Q':R->AE->Prop} (h:Nd P l args Z Q) (hq: ∀r Z',Q r Z'->Q' r Z'):Nd P l args Z Q':=
 fun F w cs hR hv=>let⟨f,tmps,assign,body,h1,h2⟩:=h F w cs hR hv;⟨f,tmps,assign,body,h1,h2.mono fun e w' ⟨r,Z',h3,h4⟩=>⟨r,Z',hq _ _ h3,h4⟩⟩
def As.mono {x:V} {args:List V} {Z:AE} {Q Q':R->AE->Prop} (h:As P x args Z Q) (hq: ∀r Z',Q r Z'->Q' r Z'):As P x args Z Q':=by
 unfold As at *;split at h
 .exact Av.mono h hq
 .exact Nd.mono h hq
 .exact h.elim
def A3.mono {tab:List (TypeId×FuncId)} {x:V} {args:List V} {Z:AE} {Q Q':R->AE->Prop} (h:A3 P tab x args Z Q) (hq: ∀r Z',Q r Z'->Q' r Z'):A3 P tab x args Z Q':=by
 unfold A3 at *;split at h
 .split at h
  .exact Av.mono h hq
  .exact h.elim
 .exact h.elim
def rd:Bk->List Nat| .t n=>[n]| .c _=>[]
def rdO:Option Bk->List Nat|some x=>rd x|none=>[]
def eo (l:List Bk):List Nat:=l.flatMap rd
def reads:F4->List Nat
 | .mv x| .mC x| .not x| .neg _ x| .conv _ x| .box x| .PA x| .load _ x| .F7 _ x| .field _ _ x| .len x| .Tg x| .str x| .extract _ x| .I3 x| .OZ _ x| .ee _ _ _ x| .panic x| .ew _ _ x=>rd x
 | .pick a b c=>rd a++rd b++rd c
 | .VG x y| .bin _ x y| .mI _ x y| .mH _ _ x y| .store _ x y| .L5 _ _ x y| .index _ _ _ x y| .append _ _ x y| .Rz _ _ x y| .copy _ x y| .VK x y| .VJ x y| .GC _ _ _ x y| .lookup _ _ _ x y=>rd x++rd y
 | .alloc _| .OY=>[]
 | .build _ ps=>eo (ps.map fun p=>p.2.2)
 | .HT _ _ _ ps=>eo (ps.map fun p=>p.2)
 | .slice _ x a b c=>rd x++rdO a++rdO b++rdO c
 | .ep _ a b=>eo a++eo b
 | .Ed _ m k v=>rd m++rd k++rd v
 | .call _ as| .L8 _ as=>eo as
 | .Je x as| .YY x as| .inv _ x as=>rd x++eo as
variable {env env':Env}
def AX {x:Bk} (h: ∀s∈rd x,get s env'=get s env):ev env' x=ev env x:=by
 cases x with
 | t n=>exact h n (by simp[rd])
 | c v=>rfl
def FQ: ∀ {l:List Bk},(∀s∈eo l,get s env'=get s env)->VA env' l=VA env l
 | [],_=>rfl
 | x::r,h=>by
   simp only[eo,List.flatMap_cons,Ds]at h;simp only[VA,AX (fun s hs=>h s (.inl hs)),FQ (l:=r) (fun s hs=>h s (.inr hs))]
def Jv {x:Option Bk} (h: ∀s∈rdO x,get s env'=get s env):Hs env' x=Hs env x:=by
 cases x with
 | none=>rfl
 | some x=>simp only[Hs,AX (x:=x) h]
def Ov: ∀ {ps:List (Nat×Nat×Bk)} {cs:List V},(∀s∈eo (ps.map fun p=>p.2.2),get s env'=get s env)->K1 env' cs ps=K1 env cs ps
 | [],_,_=>rfl
 | (off,sz,x)::r,cs,h=>by
   simp only[eo,EZ,List.flatMap_cons,Ds]at h;simp only[K1,AX (fun s hs=>h s (.inl hs))];split<;>try rfl
   split<;>try rfl
   cases hb:(Nat.beq _ sz&&Nat.ble (off+sz) cs.length)<;>simp only[cond_true,cond_false]
   exact Ov (ps:=r) fun s hs=>h s (.inr hs)
def Ow {sz:Nat}: ∀ {ps:List (Nat×Bk)} {es:List (List V)},(∀s∈eo (ps.map fun p=>p.2),get s env'=get s env)->Jc env' sz es ps=Jc env sz es ps
 | [],_,_=>rfl
 | (i,x)::r,es,h=>by
   simp only[eo,EZ,List.flatMap_cons,Ds]at h;simp only[Jc,AX (fun s hs=>h s (.inl hs))];split<;>try rfl
   split<;>try rfl
   cases hb:(Nat.beq _ sz&&Nat.blt i es.length)<;>simp only[cond_true,cond_false]
   exact Ow (ps:=r) fun s hs=>h s (.inr hs)
def TQ {o:F4} {Z:AE} {k kp:V->AE->Prop} (h: ∀s∈reads o,get s env'=get s env):FX P o env' Z k kp=FX P o env Z k kp:=by
 cases o<;>simp only[reads,Ds,or_imp,forall_and]at h<;>simp only[FX]
 case mv x=>rw[AX h]
 case mC x=>rw[AX h]
 case pick a b c=>rw[AX h.1.1,AX h.1.2,AX h.2]
 case bin op x y=>rw[AX h.1,AX h.2]
 case mI n x y=>rw[AX h.1,AX h.2]
 case mH q n x y=>rw[AX h.1,AX h.2]
 case ew q n x=>rw[AX h]
 case lookup a b c x y=>rw[AX h.1,AX h.2]
 case Ed a x y z=>rw[AX h.1.1,AX h.1.2,AX h.2]
 case GC a b c x y=>rw[AX h.1,AX h.2]
 case not x=>rw[AX h]
 case neg n x=>rw[AX h]
 case conv n x=>rw[AX h]
 case box x=>rw[AX h]
 case PA x=>rw[AX h]
 case Rz a b x y=>rw[AX h.1,AX h.2]
 case build z ps=>rw[Ov h]
 case HT a b c ps=>rw[Ow h]
 case load a x=>rw[AX h]
 case store a x y=>rw[AX h.1,AX h.2]
 case F7 a x=>rw[AX h]
 case field a b x=>rw[AX h]
 case L5 a b x y=>rw[AX h.1,AX h.2]
 case index a b c x y=>rw[AX h.1,AX h.2]
 case slice s x a b c=>rw[AX h.1.1.1,Jv h.1.1.2,Jv h.1.2,Jv h.2]
 case len x=>rw[AX h]
 case Tg x=>rw[AX h]
 case str x=>rw[AX h]
 case VG x y=>rw[AX h.1,AX h.2]
 case append a b x y=>rw[AX h.1,AX h.2]
 case copy a x y=>rw[AX h.1,AX h.2]
 case inv tab x as=>rw[AX h.1,FQ h.2]
 case VK x y=>rw[AX h.1,AX h.2]
 case VJ x y=>rw[AX h.1,AX h.2]
 case extract i x=>rw[AX h]
 case I3 x=>rw[AX h]
 case ep f a b=>rw[FQ h.1,FQ h.2]
 case OZ t x=>rw[AX h]
 case ee a b c x=>rw[AX h]
 case panic x=>rw[AX h]
 case call f as=>rw[FQ h]
 case L8 f as=>rw[FQ h]
 case Je x as=>rw[AX h.1,FQ h.2]
end Go.Gl
