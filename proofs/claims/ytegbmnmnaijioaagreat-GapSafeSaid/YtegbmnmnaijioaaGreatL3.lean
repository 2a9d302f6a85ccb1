import Derived.DeepKeys3
import Derived.StringKeys
import Derived.Test.YtegbmnmnaijioaaGreatL2
set_option linter.all false
set_option linter.defProp false
noncomputable section
namespace Go.Gl
variable {P:Program} {Λ:Nat->Prop} {σ:AH} {w:World} {k kp:V->AH->Prop}
structure KL (P:Program) (kt:TypeId) (ok:Value->Prop):Prop where
 check: ∀(w:World) (em:Bool) {v:Value},ok v->(Instr.checkKey em 10000 kt v).run P w= .ok () w
 find: ∀(w:World) {x:Value},ok x-> ∀es:List MapEntry,(∀e∈es,ok e.key)->
  ((Instr.findKey kt x es).run P w= .ok none w/\ ∀e∈es,e.key≠x)\/ ∃j e,(Instr.findKey kt x es).run P w= .ok (some (j,e.val)) w/\es[j]? =some e/\e.key=x
 stays: ∀(w:World) {v:Value},ok v->(Instr.keyThatStays v v).run P w= .ok v w
def KL.of_law {kt:TypeId} (K:WideMaps.KeyLaw P kt):KL P kt fun v=> ∃l,keyOf P kt v=some l where
 check w em _ h:=let⟨_,h⟩:=h;K.check w em h
 find w _ h es hes:=let⟨_,h⟩:=h;K.find w h es hes
 stays w _ h:=let⟨_,h⟩:=h;K.stays w h
def NM {q:IntKind} {ki:IntKind} (a:Int): ∀(es:List MapEntry) (i:Nat),(∀e∈es,∃b,e.key= .int ki b)->
    (Instr.findNow (.int q) (.int ki a) es i=some none/\ ∀e∈es,e.key≠ .int ki a)\/ ∃j e,Instr.findNow (.int q) (.int ki a) es i=some (some (i+j,e.val))/\es[j]? =some e/\e.key= .int ki a
 | [],i,_=> .inl ⟨rfl,by simp⟩
 | e ::es,i,h=>by
   obtain⟨b,hb⟩:=h e (.head _);simp only[Instr.findNow,hb,Instr.sameNow,if_true];by_cases hab:a=b
   .subst hab
    refine .inr ⟨0,e,by simp,rfl,hb⟩
   .have:(a==b)=false:=by simpa using hab
    rw[this];rcases NM a es (i+1) (fun e he=>h e (.tail _ he))with⟨h1,h2⟩|⟨j,e',h1,h2,h3⟩
    .refine .inl ⟨h1,fun e' he'=>?_⟩
     rcases Fq.1 he' with rfl|he'
     .rw[hb];intro e;cases e;exact hab rfl
     .exact h2 e' he'
    .exact .inr ⟨j+1,e',by rw[h1,show i+1+j=i+(j+1) by omega],h2,h3⟩
def cE {kt:TypeId} {q:IntKind} (hu:P.underlying kt=some (.int q)) (em:Bool) (n:Nat) (ki:IntKind) (b:Int):(Instr.checkKey em (n+1) kt (.int ki b)).run P w= .ok () w:=by
 simp only[Instr.checkKey,C6,BE hu,GH,EY]
def KL.int {kt:TypeId} {q:IntKind} (hu:P.underlying kt=some (.int q)) (ki:IntKind):KL P kt fun v=> ∃b,v= .int ki b where
 check w em v h:=by
  obtain⟨b,rfl⟩:=h;exact cE hu em 9999 ki b
 find w x h es hes:=by
  obtain⟨b,rfl⟩:=h;unfold Instr.findKey;simp only[C6,BE hu,GH];rcases NM (q:=q) b es 0 hes with⟨h1,h2⟩|⟨j,e,h1,h2,h3⟩
  .exact .inl ⟨by rw[h1];rfl,h2⟩
  .exact .inr ⟨j,e,by rw[h1,GM];rfl,h2,h3⟩
 stays w v h:=by
  obtain⟨b,rfl⟩:=h;unfold Instr.keyThatStays;have:Instr.sameBits 10000 (.int ki b) (.int ki b)=true:=by simp[Instr.sameBits]
  rw[this];rfl
def Ints (cs cs':List Value):Prop:=cs.length=cs'.length/\ ∀(i:Nat) (a:Value),cs[i]? =some a-> ∃(q:IntKind) (n m:Int),a=Value.int q n/\cs'[i]? =some (Value.int q m)/\(Lit.int q m).wf=true
def Ints.part {cs cs':List Value} (h:Ints cs cs') (o n:Nat):Ints ((cs.drop o).take n) ((cs'.drop o).take n):=by
 refine⟨by simp[h.1],fun i a ha=>?_⟩;rw[List.getElem?_take]at ha ⊢;split at ha
 .rename_i hi
  rw[if_pos hi];rw[uM]at ha ⊢;exact h.2 _ _ ha
 .cases ha
def S7 {α β:Type} {f g:α->Option β}: ∀ {l:List α} {ys:List β},(∀x∈l,∀y,f x=some y-> ∃y',g x=some y')->l.mapM f=some ys-> ∃ys',l.mapM g=some ys'
 | [],_,_,_=>⟨[],by simp⟩
 | x::l,ys,h,hm=>by
   rw[List.mapM_cons]at hm;simp only[bind,Option.bind_eq_some_iff,pure,II]at hm;obtain⟨y,h1,ys',h2,rfl⟩:=hm;obtain⟨y',h3⟩:=h x (.head _) y h1;obtain⟨ys'',h4⟩:=S7 (fun x hx=>h x (.tail _ hx)) h2;exact⟨y'::ys'',by rw[List.mapM_cons];simp[h3,h4]⟩
def KQ: ∀(D:Nat) (t:TypeId) {cs cs':List Value} {l:List Lit},Ints cs cs'->P.keyLits D t cs=some l-> ∃l',P.keyLits D t cs'=some l'
 | 0,_,_,_,_,_,h=>by simp[Program.keyLits]at h
 | D + 1,t,cs,cs',l,hi,h=>by
   unfold Program.keyLits at h ⊢;split at h
   .rename_i b _
    obtain⟨q,n,m,e,_⟩:=hi.2 0 _ rfl;cases e
   .rename_i q q' n hu
    obtain⟨q2,n2,m,e,e2,e3⟩:=hi.2 0 _ rfl;cases e;have hl:cs'.length=1:=hi.1.symm
    match cs',hl,e2 with
    | [c],_,e2=>
      simp only[oU,II]at e2;subst e2;split at h
      .rename_i hq
       obtain⟨rfl,_⟩:=hq;simp only[hu];exact⟨_,if_pos ⟨trivial,e3⟩⟩
      .cases h
   .obtain⟨q,n,m,e,_⟩:=hi.2 0 _ rfl
    cases e
   .rename_i n e hu
    simp only[hu];split at h
    .rename_i hl
     rw[if_pos (by rw[<-hi.1];exact hl)];obtain⟨ys,h1,_⟩:=Aj h;obtain⟨ys',h2⟩:=S7 (g:=fun i=>P.keyLits D e ((cs'.drop (i*P.cellsOf e)).take (P.cellsOf e))) (fun i _ y hy=>KQ D e (hi.part _ _) hy) h1;exact⟨_,by rw[h2];rfl⟩
    .cases h
   .rename_i fs hu
    simp only[hu];split at h
    .rename_i hl
     rw[if_pos (by rw[<-hi.1];exact hl)];obtain⟨ys,h1,_⟩:=Aj h;obtain⟨ys',h2⟩:=S7 (g:=fun f=>P.keyLits D f.type ((cs'.drop f.offset).take (P.cellsOf f.type))) (fun f _ y hy=>KQ D f.type (hi.part _ _) hy) h1;exact⟨_,by rw[h2];rfl⟩
    .cases h
   .cases h
def qi:V->Option IntKind| .i q _=>some q|_=>none
def TB:List V->Option (List IntKind)
 | []=>some []
 | c::cs=>match qi c,TB cs with|some q,some l=>some (q::l)|_,_=>none
def T4 (P:Program) (kt:TypeId):Option KS:=
 match P.underlying kt with
 | some (.int k)=>some (.i k)
 | some .string=>some .s
 | some (.array _ _)|some (.struct _)=>match zeroOf P kt with
   | some (.a cs)=>match TB cs with
     | some l=>if P.keyType kt&&P.keyTypeAt 6 kt&&P.tiled 6 kt&&(P.keyLits (P.types.size+1) kt (l.map fun q=> .int q 0)).isSome&&Nat.beq l.length (P.cellsOf kt)then some (.a l)else none
     | none=>none
   | _=>none
 | _=>none
def Ht {H:Nat->Nat->Option Value} {g:Nat->Option Value}: ∀ {l:List IntKind} {cs:List V} {o:Nat},DN l cs=true->BO H g o cs->
    cs.length=l.length/\ ∀(i:Nat) (q:IntKind),l[i]? =some q-> ∃m:Int,cs[i]? =some (.i q m)/\g (o+i)=some (.int q m)/\q.min<=m/\m<=q.max
 | [],[],_,_,_=>⟨rfl,by simp⟩
 | [],_::_,_,h,_=>by simp[DN]at h
 | q::l,[],_,h,_=>by simp[DN]at h
 | q ::l,c::cs,o,h,hv=>by
   cases c<;>simp only[DN,Kc]at h
   rename_i q' n;simp only[A8,Cm]at h;obtain⟨rfl,h⟩:=h;obtain⟨⟨c,h1,⟨rfl,h2⟩⟩,h3⟩:=hv;obtain⟨h4,h5⟩:=Ht h h3;refine⟨by simp[h4],fun i q' hq=>?_⟩;cases i with
   | zero=>simp only[oU,II]at hq;subst hq;exact⟨n,rfl,h1,h2⟩
   | succ i=>
     obtain⟨m,h6,h7,h8⟩:=h5 i q' (by simpa using hq);exact⟨m,by simpa using h6,by rw[<-h7];congr 1;omega,h8⟩
def nr {kt:TypeId} {ks:KS} (h:T4 P kt=some ks): ∃ok,KL P kt ok/\ ∀(H:Nat->Nat->Option Value) (v:V) (c:Value),BI ks v=true->Ag H v c->ok c:=by
 unfold T4 at h
 have agg: ∀(hw:(match P.underlying kt with|some (.array _ _)|some (.struct _)=>true|_=>false)=true),(match zeroOf P kt with
  | some (.a cs)=>match TB cs with
    | some l=>if P.keyType kt&&P.keyTypeAt 6 kt&&P.tiled 6 kt&&(P.keyLits (P.types.size+1) kt (l.map fun q=>Value.int q 0)).isSome&&Nat.beq l.length (P.cellsOf kt)then some (.a l)else none
    | none=>none
  | _=>none)=some ks-> ∃ok,KL P kt ok/\ ∀(H:Nat->Nat->Option Value) (v:V) (c:Value),BI ks v=true->Ag H v c->ok c:=fun hw h=>by
  split at h
  .split at h
   .rename_i l _
    split at h
    .rename_i hc
     cases h;simp only[A8]at hc;obtain⟨⟨⟨⟨c1,c2⟩,c3⟩,c4⟩,c5⟩:=hc;refine⟨_,KL.of_law (deep_law (m:=6) (by omega) c2 c3 hw),fun H v c hv hr=>?_⟩;cases v<;>simp only[BI,Kc]at hv
     rename_i cs;obtain⟨c',rfl,h1,h2⟩:=hr;obtain⟨h3,h4⟩:=Ht hv h2;have hsz:c'.size=P.cellsOf kt:=by rw[h1,h3];exact Ti c5
     obtain⟨L,hL⟩:=Option.isSome_iff_exists.1 c4
     obtain⟨L',hL'⟩:=KQ (P:=P) (P.types.size+1) kt (cs:=l.map fun q=>Value.int q 0) (cs':=c'.toList) ⟨by simp[h1,h3],fun i a ha=>by
      rw[P8]at ha;obtain⟨q,hq,rfl⟩:=Aj ha;obtain⟨m,_,h6,h7⟩:=h4 i q hq
      refine⟨q,0,m,rfl,by simpa using h6,by simpa[Lit.wf]using h7⟩⟩ hL
     have hf:(Value.agg c').formed P kt=true:=by
      unfold Value.formed;split at hw<;>simp_all
     refine⟨.string (keyBytes L'),?_⟩;unfold keyOf;split at hw
     .rename_i hu;simp only[hu,c1,hf,Bool.and_self,if_true];show Option.map _ (P.keyLits _ kt c'.toList)=_;rw[hL'];rfl
     .rename_i hu;simp only[hu,c1,hf,Bool.and_self,if_true];show Option.map _ (P.keyLits _ kt c'.toList)=_;rw[hL'];rfl
     .cases hw
    .cases h
   .cases h
  .cases h
 split at h
 .rename_i q0 hu
  cases h;refine⟨_,KL.int hu q0,fun H v c hv hr=>?_⟩;cases v<;>simp only[BI,Kc]at hv
  rename_i q n;obtain⟨rfl,_⟩:=hr;have:=of_decide_eq_true hv;subst this;exact⟨n,rfl⟩
 .rename_i hu
  cases h;refine⟨_,KL.of_law (WideMaps.string_law hu),fun H v c hv hr=>?_⟩;cases v<;>simp only[BI,Kc]at hv
  have hr':c= .string _:=hr;subst hr';exact⟨_,WideMaps.keyOf_string_mk hu (Nat.le_trans (Nat.le_of_ble_eq_true hv) (by decide))⟩
 .rename_i hu;exact agg (by rw[hu]) h
 .rename_i hu;exact agg (by rw[hu]) h
 .cases h
def Pt: ∀ {l:List IntKind} {cs ds:List V},DN l cs=true->DN l ds=true-> ∃r,Bp cs ds=some r/\(r=true↔cs=ds)
 | [],[],[],_,_=>⟨true,rfl,by simp⟩
 | [],_::_,_,h,_=>by simp[DN]at h
 | [],[],_::_,_,h=>by simp[DN]at h
 | _::_,[],_,h,_=>by simp[DN]at h
 | _::_,_::_,[],_,h=>by simp[DN]at h
 | q ::l,c::cs,d::ds,h,h'=>by
   cases c<;>simp only[DN,Kc]at h
   cases d<;>simp only[DN,Kc]at h'
   rename_i k a k' b;simp only[A8,Cm]at h h';obtain⟨rfl,h⟩:=h;obtain⟨rfl,h'⟩:=h';obtain⟨r,h1,h2⟩:=Pt h h';refine⟨(a==b)&&r,by simp[Bp,h1],?_⟩;rw[A8,h2];constructor
   .rintro⟨h3,rfl⟩
    rw[show a=b by simpa using h3]
   .intro e
    cases e;exact⟨by simp,rfl⟩
def Rf {ks:KS} {H:Nat->Nat->Option Value} {x y:V} {c d:Value} (hx:BI ks x=true) (hy:BI ks y=true) (hc:Ag H x c) (hd:Ag H y d):DZ x y=true↔c=d:=by
 cases ks with
 | i q=>
   cases x<;>simp only[BI,Kc]at hx
   cases y<;>simp only[BI,Kc]at hy
   rename_i k a k' b;obtain⟨rfl,_⟩:=hc;obtain⟨rfl,_⟩:=hd;have h1:=of_decide_eq_true hx;have h2:=of_decide_eq_true hy;subst h1;subst h2;simp[DZ]
 | s=>
   cases x<;>simp only[BI,Kc]at hx
   cases y<;>simp only[BI,Kc]at hy
   have h1:c= .string _:=hc;have h2:d= .string _:=hd;subst h1;subst h2;simp[DZ]
 | a l =>
   cases x<;>simp only[BI,Kc]at hx
   cases y<;>simp only[BI,Kc]at hy
   rename_i cs ds;obtain⟨c',rfl,h1,h2⟩:=hc;obtain⟨d',rfl,h3,h4⟩:=hd;obtain⟨r,h5,h6⟩:=Pt hx hy;obtain⟨g1,g2⟩:=Ht hx h2;obtain⟨g3,g4⟩:=Ht hy h4;simp only[DZ,h5,Option.getD_some,h6,Value.agg.injEq];constructor
   .rintro rfl
    refine Array.ext (by omega) fun i hi hj=>?_
    obtain⟨m,a1,a2,_⟩:=g2 i l[i] (ES (by omega));obtain⟨m',b1,b2,_⟩:=g4 i l[i] (ES (by omega));rw[a1]at b1;cases b1;simp only[GM,Array.getElem?_eq_getElem hi,Array.getElem?_eq_getElem hj,II]at a2 b2;rw[a2,b2]
   .rintro rfl
    refine List.ext_getElem? fun i=>?_
    by_cases hi:i<l.length
    .obtain⟨m,a1,a2,_⟩:=g2 i l[i] (ES hi)
     obtain⟨m',b1,b2,_⟩:=g4 i l[i] (ES hi);rw[a2]at b2;cases b2;rw[a1,b1]
    .rw[List.getElem?_eq_none (by omega),List.getElem?_eq_none (by omega)]
def TA {ks:KS} {H:Nat->Nat->Option Value} {key:V} {c x:Value} {val:V} (hk:BI ks key=true) (hc:Ag H key c) (hx:Ag H val x) (clk:Nat): ∀ {kvs:List (V×V)} {es:List MapEntry},FL H kvs es->(∀kv∈kvs,BI ks kv.1=true)->(∀e∈es,e.key≠c)->
    CU key kvs=none/\FL H (DA key val kvs) (es++[{key:=c,val:=x,born:=clk}])
 | [],[],_,_,_=>⟨rfl,hc,hx,trivial⟩
 | [],_::_,h,_,_=>h.elim
 | _::_,[],h,_,_=>h.elim
 | (k,v)::r,e::es,h,hks,hne=>by
   obtain⟨h1,h2,h3⟩:=h
   have hf:DZ key k=false:=by
    cases hb:DZ key k with
    | false=>rfl
    | true=>exact absurd ((Rf hk (hks _ (.head _)) hc h1).1 hb).symm (hne e (.head _))
   obtain⟨h4,h5⟩:=TA hk hc hx clk h3 (fun kv hkv=>hks kv (.tail _ hkv)) (fun e he=>hne e (.tail _ he));simp only[CU,DA,hf,cond_false];exact⟨h4,h1,h2,h5⟩
def S9 {ks:KS} {H:Nat->Nat->Option Value} {key:V} {c x:Value} {val:V} (hk:BI ks key=true) (hc:Ag H key c) (hx:Ag H val x): ∀ {kvs:List (V×V)} {es:List MapEntry} {j:Nat} {e:MapEntry},FL H kvs es->(∀kv∈kvs,BI ks kv.1=true)->
    es.Pairwise (fun a b=>a.key≠b.key)->es[j]? =some e->e.key=c->
    ∃v,CU key kvs=some v/\Ag H v e.val/\FL H (DA key val kvs) (es.modify j fun e=>{e with key:=c,val:=x})
 | [],[],j,_,_,_,_,hj,_=>by simp at hj
 | [],_::_,_,_,h,_,_,_,_=>h.elim
 | _::_,[],_,_,h,_,_,_,_=>h.elim
 | (k, v)::r,e0::es,j,e,h,hks,hd,hj,he=>by
   obtain⟨h1,h2,h3⟩:=h;obtain⟨hd1,hd2⟩:=List.pairwise_cons.1 hd;have hiff:=Rf hk (hks _ (.head _)) hc h1;cases j with
   | zero=>
     simp only[oU,II]at hj;subst hj;have hb:DZ key k=true:=hiff.2 he.symm;simp only[CU,DA,hb,cond_true];exact⟨v,rfl,h2,hc,hx,h3⟩
   | succ j=>
     simp only[uO]at hj
     have hb:DZ key k=false:=by
      cases hb:DZ key k with
      | false=>rfl
      | true=>
        have:=hiff.1 hb;exact absurd (this.symm.trans he.symm) (hd1 e (Dm hj))
     obtain⟨v',h4,h5,h6⟩:=S9 hk hc hx h3 (fun kv hkv=>hks kv (.tail _ hkv)) hd2 hj he;simp only[CU,DA,hb,cond_false];exact⟨v',h4,h5,h1,h2,h6⟩
def dc {ok:Value->Prop} {ks:KS} {H:Nat->Nat->Option Value} (hok: ∀(H:Nat->Nat->Option Value) (v:V) (c:Value),BI ks v=true->Ag H v c->ok c): ∀ {kvs:List (V×V)} {es:List MapEntry},FL H kvs es->(∀kv∈kvs,BI ks kv.1=true)-> ∀e∈es,ok e.key
 | (k,v)::r,e0::es,h,hks,e,he=>by
   obtain⟨h1,h2,h3⟩:=h;rcases Fq.1 he with rfl|he
   .exact hok H k _ (hks _ (.head _)) h1
   .exact dc hok h3 (fun kv hkv=>hks kv (.tail _ hkv)) e he
 | [],[],_,_,_,he=>by cases he
 | [],_::_,h,_,_,_=>h.elim
 | _::_,[],h,_,_,_=>h.elim
def VE (G:Rel Λ σ w) {n:Nat} {kvs:List (V×V)} (h:σ n=some (.map kvs)): ∃es clk,w.heap[n]? =some (.map es clk)/\FL (Hh Λ σ w) kvs es.toList/\es.toList.Pairwise (fun a b=>a.key≠b.key):=by
 obtain⟨_,ob,h2,es,clk,rfl,h4⟩:=G.own n _ h;exact⟨es,clk,h2,h4⟩
def Tc {t kt e:TypeId} {ks:KS} {z:V} {ok:Bool} (hu:P.underlying t=some (.map kt e)) (hks:T4 P kt=some ks) (hz:zeroOf P e=some z) (G:Rel Λ σ w) {vm vk:V} {cm ck:Value}
    (hm:Ag (Hh Λ σ w) vm cm) (hk:Ag (Hh Λ σ w) vk ck) (h:AN σ ks z ok vm vk fun v=>k v σ):CQ Λ σ w k kp ((Instr.lookup t cm ck ok).run P w):=by
 obtain⟨h0,h⟩:=h;obtain⟨okk,K,hok⟩:=nr hks;have hck:=hok _ _ _ h0 hk;obtain⟨zc,hz1,hz2⟩:=EE hz w;have hzr:Ag (Hh Λ σ w) z zc:=GS hz2;have hch: ∀em,(Instr.checkKey em 10000 kt ck).run P w= .ok () w:=fun em=>K.check w em hck
 unfold Instr.lookup;simp only[C6,BE hu,GH]
 have fin: ∀ {o:Option V} {x:Value} {b:Bool},(match o with|some v=>b=true/\Ag (Hh Λ σ w) v x|none=>b=false/\x=zc)->k (found z ok o) σ->CQ Λ σ w k kp (Result.ok (if ok=true then Value.tuple #[x,.bool b]else x) w):=fun {o x b} ho hk=>by
  have tup: ∀ {v:V} {x:Value} {b:Bool},Ag (Hh Λ σ w) v x->Ag (Hh Λ σ w) (.t [v,.b b]) (.tuple #[x,.bool b]):=fun hv=>⟨_,rfl,rfl,⟨_,rfl,hv⟩,⟨_,rfl,rfl⟩,trivial⟩
  cases o with
  | some v=>
    obtain⟨rfl,hv⟩:=ho;cases ok
    .exact Aw G hk hv
    .exact Aw G hk (tup hv)
  | none=>
    obtain⟨rfl,rfl⟩:=ho;cases ok
    .exact Aw G hk hzr
    .exact Aw G hk (tup hzr)
 cases vm<;>first|exact h.elim|skip
 .rename_i n
  simp only at h;split at h
  .rename_i kvs hn
   obtain⟨h1,h2⟩:=h;simp only[Ag]at hm;subst hm;obtain⟨es,clk,h3,h4,h5⟩:=VE G hn;have hg:(getObj n).run P w= .ok (.map es clk) w:=by simp[getObj,Sem.run,h3]
   simp only[C6,hg,GH,EY,hch];rcases K.find w hck es.toList (dc hok h4 h1)with⟨h6,h7⟩|⟨j,e',h6,h7,h8⟩
   .obtain⟨h9,_⟩:=TA h0 hk hk 0 h4 h1 h7
    simp only[h6,GH,C6,hz1,EY];rw[h9]at h2;exact fin (o:=none) ⟨rfl,rfl⟩ h2
   .obtain⟨v,h9,h10,_⟩:=S9 h0 hk hk h4 h1 h5 h7 h8
    simp only[h6,GH,EY];rw[h9]at h2;exact fin (o:=some v) ⟨rfl,h10⟩ h2
  .exact h.elim
 .simp only[Ag]at hm
  subst hm;simp only[C6,EY,GH,hch];rcases K.find w hck [] (fun e he=>by cases he)with⟨h6,_⟩|⟨j,e',_,h7,_⟩
  .simp only[h6,GH,C6,hz1,EY]
   exact fin (o:=none) ⟨rfl,rfl⟩ h
  .simp at h7
def PT {n:Nat} {ob:Obj} {es:Array MapEntry} {clk:Nat} (h:w.heap[n]? =some (.map es clk)):(setObj n ob).run P w= .ok () (CN w n ob):=by
 simp[setObj,Sem.run,h,CN]
def IG {c x:Value}: ∀ {es:List MapEntry} {j:Nat} {e:MapEntry},es[j]? =some e->e.key=c->es.Pairwise (fun a b=>a.key≠b.key)->(es.modify j fun e=>{e with key:=c,val:=x}).Pairwise (fun a b=>a.key≠b.key)
 | [],_,_,h,_,_=>by simp at h
 | e0::es,0,e,h,he,hp=>by
   simp only[oU,II]at h;subst h;obtain⟨h1,h2⟩:=List.pairwise_cons.1 hp;exact List.pairwise_cons.2 ⟨fun a ha=>by simpa only[<-he]using h1 a ha,h2⟩
 | e0::es,j+1,e,h,he,hp=>by
   simp only[uO]at h;obtain⟨h1,h2⟩:=List.pairwise_cons.1 hp;refine List.pairwise_cons.2 ⟨fun a ha=>?_,IG h he h2⟩;have ha:a∈es.modify j fun e=>{e with key:=c,val:=x}:=ha
   obtain⟨i,hi⟩:=List.mem_iff_getElem?.1 ha;rw[List.getElem?_modify]at hi;cases hb:es[i]? with
   | none=>rw[hb]at hi;cases hi
   | some b=>
     rw[hb]at hi;simp only[Option.map_eq_map,cS,II]at hi;split at hi
     .rename_i hji
      subst hi;subst hji;rw[h]at hb;cases hb;simpa only[<-he]using h1 e (Dm h)
     .subst hi
      exact h1 b (Dm hb)
def Tb {t kt e:TypeId} {ks:KS} (hu:P.underlying t=some (.map kt e)) (hks:T4 P kt=some ks) (G:Rel Λ σ w) {vm vk vx:V} {cm ck cx:Value}
    (hm:Ag (Hh Λ σ w) vm cm) (hk:Ag (Hh Λ σ w) vk ck) (hx:Ag (Hh Λ σ w) vx cx) (h:AO σ ks vm vk vx fun σ'=>k (.t []) σ') :
    ∃σ' w',(Instr.mapUpdate t cm ck cx).run P w= .ok () w'/\k (.t []) σ'/\Rel Λ σ' w'/\B2 Λ σ w σ' w':=by
 obtain⟨h0,h⟩:=h;obtain⟨okk,K,hok⟩:=nr hks;have hck:=hok _ _ _ h0 hk;have hch: ∀em,(Instr.checkKey em 10000 kt ck).run P w= .ok () w:=fun em=>K.check w em hck
 cases vm<;>first|exact h.elim|skip
 rename_i n;simp only at h;split at h
 .rename_i kvs hn
  obtain⟨h1,h2⟩:=h;simp only[Ag]at hm;subst hm;obtain⟨es,clk,h3,h4,h5⟩:=VE G hn;have hg:(getObj n).run P w= .ok (.map es clk) w:=by simp[getObj,Sem.run,h3]
  unfold Instr.mapUpdate;simp only[C6,BE hu,GH,hg,hch];rcases K.find w hck es.toList (dc hok h4 h1)with⟨h6,h7⟩|⟨j,e',h6,h7,h8⟩
  .obtain⟨_,h9⟩:=TA h0 hk hx clk h4 h1 h7
   refine⟨_,CN w n (.map (es.push {key:=ck,val:=cx,born:=clk}) (clk+1)),?_,h2,I3 G hn ⟨_,_,rfl,?_,?_⟩,GZ hn _ _⟩
   .simp only[h6,GH]
    exact PT h3
   .simpa using h9
   .rw[Array.toList_push,List.pairwise_append]
    exact⟨h5,by simp,fun a ha b hb=>by simp at hb;subst hb;exact h7 a ha⟩
  .obtain⟨v,_,_,h9⟩:=S9 h0 hk hx h4 h1 h5 h7 h8
   have hj:es[j]? =some e':=by rw[<-h7];simp
   refine⟨_,CN w n (.map (es.modify j fun e=>{e with key:=ck,val:=cx}) clk),?_,h2,I3 G hn ⟨_,_,rfl,?_,?_⟩,GZ hn _ _⟩
   .simp only[h6,GH,C6,hj,cS,Option.getD_some,h8,K.stays w hck]
    exact PT h3
   .simpa using h9
   .simpa using IG (x:=cx) h7 h8 h5
 .exact h.elim
def oy (P:Program):Op->Option FY
 | .makeMap t r=>match r,P.underlying t with
   | none,_=>some .M5
   | some _,_=>none
 | .lookup t x i ok=>match P.underlying t with
   | some (.map kt e)=>match T4 P kt,zeroOf P e,BL x,BL i with
     | some ks,some z,some x,some i=>some (.lookup ks z ok x i)
     | _,_,_,_=>none
   | _=>none
 | .mapUpdate t m i x=>match P.underlying t with
   | some (.map kt _)=>match T4 P kt,BL m,BL i,BL x with
     | some ks,some m,some i,some x=>some (.D8 ks m i x)
     | _,_,_,_=>none
   | _=>none
 | .insert t m i x=>match P.underlying t with
   | some (.map kt _)=>match T4 P kt,BL m,BL i,BL x with
     | some ks,some m,some i,some x=>some (.D8 ks m i x)
     | _,_,_,_=>none
   | _=>none
 | _=>none
def Xg {env:Env} {a:Act} {o:Oper} {ao:FY} (ho:oy P o.op=some ao) (h:E5 P ao env σ k kp) (he:CE (Hh Λ σ w) env a.tmps) (G:Rel Λ σ w) :
    Good P Λ σ w k kp ((execOp a.eval o).run P w):=by
 have put: ∀ {t:TypeId} {m i x:Operand},(match P.underlying t with
  | some (.map kt _)=>match T4 P kt,BL m,BL i,BL x with
    | some ks,some m,some i,some x=>some (FY.D8 ks m i x)
    | _,_,_,_=>none
  | _=>none)=some ao->Good P Λ σ w k kp ((do Instr.mapUpdate t (a.eval m) (a.eval i) (a.eval x);pure Next.skip:Sem Next).run P w):=fun {t m i x} ho=>by
  split at ho
  .rename_i kt e hu
   split at ho
   .rename_i ks m' i' x' hks hm hi hx
    cases ho;obtain⟨vm,h1,g⟩:=Ak h;obtain⟨vi,h2,g⟩:=Ak g;obtain⟨vx,h3,g⟩:=Ak g;obtain⟨σ',w',e1,e2,e3,e4⟩:=Tb hu hks G (Ap he hm h1) (Ap he hi h2) (Ap he hx h3) g;simp only[C6,e1,GH,EY];exact⟨σ',e2,e3,e4⟩
   .cases ho
  .cases ho
 unfold execOp;unfold oy at ho;split at ho
 .rename_i t r hop
  rw[hop];dsimp only;split at ho
  .cases ho
   refine A0 ?_;simp only[E5]at h;exact⟨_,_,h w.heap.size G.new,rfl,HV G (o:= .map []) ⟨#[],0,rfl,trivial,by simp⟩,Dl _ _⟩
  .cases ho
 .rename_i t x i ok hop
  rw[hop];dsimp only;split at ho
  .rename_i kt e hu
   split at ho
   .rename_i ks z x' i' hks hz hx hi
    cases ho;obtain⟨vx,h1,g⟩:=Ak h;obtain⟨vi,h2,g⟩:=Ak g;exact A0 (Tc hu hks hz G (Ap he hx h1) (Ap he hi h2) g)
   .cases ho
  .cases ho
 .rename_i t m i x hop
  rw[hop];exact put ho
 .rename_i t m i x hop
  rw[hop];exact put ho
 .cases ho
def XA (P:Program) (name:String):List (TypeId×FuncId):=(List.range P.types.size).filterMap fun t=>
 match P.info? t,P.underlying t with
 | some i,some d=>match i.methods.find? (·.name==name)with
   | some m=>if m.path.isEmpty then match m.func,d with
     | some (f,true),.pointer _=>some (t,f)
     | some (_,false),.pointer _=>none
     | some (f,false),_=>some (t,f)
     | _,_=>none
     else none
   | none=>none
 | _,_=>none
def oz (P:Program):Op->Option FY
 | .call c=>match c.callee with
   | .invoke x name=>match BL x,Jf c.args.toList with
     | some x,some as=>some (.inv (XA P name) x as)
     | _,_=>none
   | _=>none
 | _=>none
def VF {t:TypeId} {f:FuncId}: ∀ {l:List (TypeId×FuncId)},look t l=some f->(t,f)∈l
 | [],h=>by cases h
 | (u,g)::r,h=>by
   simp only[look]at h;cases hb:Nat.beq u t with
   | true=>
     rw[hb]at h;simp only[cond_true,II]at h;rw[Ti hb,h];exact .head _
   | false=>
     rw[hb]at h;exact .tail _ (VF h)
def XX {name:String} {t:TypeId} {f:FuncId} (h:(t,f)∈XA P name) (c:Value):(method (P.types.size+Made.depth) t c name).run P w= .ok (f,c) w:=by
 unfold XA at h;rw[List.mem_filterMap]at h;obtain⟨u,hu,h⟩:=h;rw[List.mem_range]at hu;split at h
 rotate_left
 .cases h
 rename_i i d hi hd;split at h
 rotate_left
 .cases h
 rename_i m hm;split at h
 rotate_left
 .cases h
 rename_i hp
 have hpl:m.path.toList= []:=by
  have:m.path= #[]:=by simpa using hp
  rw[this]
 obtain⟨n,hn⟩: ∃n,P.types.size+Made.depth=n+1:=⟨P.types.size+Made.depth - 1,by omega⟩
 have key: ∀ptr,u=t->m.func=some (f,ptr)->(ptr=true-> ∃e,d= .pointer e)->(ptr=false-> ∀e,d≠ .pointer e)->(method (P.types.size+Made.depth) t c name).run P w= .ok (f,c) w:=fun ptr e1 e2 e3 e4=>by
  subst e1;rw[hn];unfold method;simp only[C6,run_typeInfo w hi,GH,hm,hpl,follow,EY,e2,receiverAt,run_underlying hd];cases ptr with
  | true=>
    obtain⟨e,rfl⟩:=e3 rfl;simp[Place.get]
  | false=>
    have:=e4 rfl;cases d<;>first|exact absurd rfl (this _)|simp[Place.get]
 split at h
 .rename_i f' e hfun
  cases h;exact key true rfl hfun (fun _=>⟨_,rfl⟩) (fun h=>by cases h)
 .cases h
 .rename_i f' hfun hne
  cases h;exact key false rfl hfun (fun h=>by cases h) (fun _ e he=>by subst he;exact hne e rfl)
 .cases h
def cR {tab:List (TypeId×FuncId)} {x:V} {args:List V} {Q:R->AH->Prop} (h:Ax P tab x args σ Q): ∃t v f,x= .Eo t v/\look t tab=some f/\As P f (v::args) σ Q:=by
 unfold Ax at h;split at h
 .split at h
  .exact⟨_,_,_,rfl,by assumption,h⟩
  .exact h.elim
 .exact h.elim
def Xh {env:Env} {a:Act} {o:Oper} {ao:FY} (ho:oz P o.op=some ao) (h:E5 P ao env σ k kp) (he:CE (Hh Λ σ w) env a.tmps) (G:Rel Λ σ w) :
    Good P Λ σ w k kp ((execOp a.eval o).run P w):=by
 unfold oz at ho;split at ho
 rotate_left
 .cases ho
 rename_i c hop;split at ho
 rotate_left
 .cases ho
 rename_i x name hc;split at ho
 rotate_left
 .cases ho
 rename_i x' as hx has;cases ho;obtain⟨vx,h1,g⟩:=Ak h;obtain⟨vs,h2,g⟩:=Hm g;obtain⟨t,v,f,rfl,hf,g⟩:=cR g;obtain⟨cv,hcv,hvr⟩:=Ap he hx h1
 have hext:(#[Value.iface t cv]++c.args.map a.eval).extract 1 (#[Value.iface t cv]++c.args.map a.eval).size=c.args.map a.eval:=by
  apply Array.ext';simp[List.take_of_length_le]
 have h0:(#[Value.iface t cv]++c.args.map a.eval)[0]? =some (.iface t cv):=by rw[Array.getElem?_append_left (Nat.zero_lt_one)];rfl
 have hrun:(execOp a.eval o).run P w=(callFunc f (#[cv]++c.args.map a.eval)).run P w:=by
  unfold execOp;simp only[hop,resolve,hc,C6,EY,GH,invoke,hcv,h0,hext,callMethod];have hprog:(program).run P w= .ok P w:=rfl;simp only[hprog,GH,XX (VF hf)]
 rw[hrun];refine O7 G ?_ g;have:=Hr (H:=Hh Λ σ w) (vs:=[v]) (cs:= #[cv]) ⟨rfl,⟨cv,rfl,hvr⟩,trivial⟩ (I7 he has h2);simpa using this
set_option maxHeartbeats 1000000 in
def Xw {t u e:TypeId} {i:TypeInfo} (ty:TypeId) (ht:P.underlying t=some (.slice e)) (hi:P.info? e=some i) (G:Rel Λ σ w) {vx vy:V} {cx cy:Value} (hx:Ag (Hh Λ σ w) vx cx) (hy:Ag (Hh Λ σ w) vy cy)
    (h:Aa σ i.size vx vy k):CQ Λ σ w k kp ((Builtin.copy_ #[t,u] ty #[cx,cy]).run P w):=by
 have h':=KF G hy h;clear h;obtain⟨ys,base,c2,⟨hone,h⟩,rfl,hyl,hys⟩:=h'
 have main: ∀(n off len:Nat) (a:Option Addr) (cap:Nat),(len≠0->a=some ⟨n,off*i.size,none⟩)->OE σ i.size ys n off len k->CQ Λ σ w k kp ((Builtin.copy_ #[t,u] ty #[.slice a len cap,.slice base ys.length c2]).run P w):=fun n off len a cap ha hk=>by
  unfold OE at hk;split at hk
  .rename_i s es c hs
   obtain⟨rfl,hle,hk⟩:=hk;obtain⟨cur,et,h3,h4,h5,h6,h7⟩:=Eh G hs;have hsz:sizeOf e=(do pure (<-typeInfo e).size:Sem Nat):=rfl;have hmin:Nat.min ys.length len=min ys.length len:=rfl;have hmL:min ys.length len<=Ay:=by omega
   have hrng: ∀H,Ag H (.i .i64 (min ys.length len:Nat)) (goInt (min ys.length len:Nat)):=fun H=>⟨rfl,Ho hmL⟩
   by_cases h0:min ys.length len=0
   ·
    have hrun:(Builtin.copy_ #[t,u] ty #[.slice a len cap,.slice base ys.length c2]).run P w= .ok (goInt 0) w:=by
     have hm0:Nat.min ys.length len=0:=h0;cases a<;>cases base<;>simp[Builtin.copy_,run_underlying ht,sizeOf,typeInfo,hi,Builtin.lenOf,hm0,Builtin.firstCells,loadCells,loadCellsFrom,storeCells]
    rw[hrun];rw[h0]at hk;simp only[Nat.add_zero]at hk;have e1:es.take off++(ys.take 0++es.drop off)=es:=by simp
    rw[e1]at hk
    have e2:A6 σ n (.arr i.size es c)=σ:=by
     funext m;unfold A6;split
     .rename_i e;rw[e,hs]
     .rfl
    rw[e2]at hk;exact Aw G hk ⟨rfl,Ho (n:=0) (by simp)⟩
   .obtain⟨b,o,g,rfl,hg,hrow⟩:=hys.resolve_left (fun e=>by rw[e]at h0;simp at h0)
    obtain rfl:=ha (by omega);obtain⟨news,h8,h9,h10⟩:=JI (HU hrow (min ys.length len));have hcnt:(ys.take (min ys.length len)).length=min ys.length len:=by simp
    rw[hcnt]at h8;have hmul:(off+min ys.length len)*i.size<=c*i.size:=YG _ (by omega);rw[Nat.add_mul]at hmul
    have hn1: ∀u∈news,u.oneCell'=true:=fun u hu=>by
     obtain⟨j,hj⟩:=List.mem_iff_getElem?.1 hu;have hlt:j<(ys.take (min ys.length len)).length*i.size:=by rw[hcnt,<-h8];exact(JX.1 hj).1
     obtain⟨h4,h5⟩:=S0 hlt;obtain⟨h6,h7⟩:=A9.1 h10 (j / i.size) _ (ES h4);obtain⟨c,hc,hr⟩:=BV.1 h7 (j % i.size) _ (ES (by omega));have hdm:=Nat.div_add_mod' j i.size;rw[show 0+j / i.size*i.size+j % i.size=j by omega,hj]at hc;cases hc;exact Oz hr (hone _ (List.mem_of_mem_take (List.getElem_mem h4)) _ (List.getElem_mem _))
    have hrunF:=run_firstCells_some (P:=P) w i.size (min ys.length len) ⟨b,o,none⟩ ys.length c2 news h8 (fun j v hv=>by rw[Cc];exact hg _ _ (h9 j v hv));have hst:=Cd (P:=P) news w cur (off*i.size) 0 h3 (by omega) hn1;simp only[Nat.add_zero]at hst
    have hrun:(Builtin.copy_ #[t,u] ty #[.slice (some ⟨n,off*i.size,none⟩) len cap,.slice (some ⟨b,o,none⟩) ys.length c2]).run P w= .ok (goInt (min ys.length len:Nat)) (CN w n (.cells (Co cur (off*i.size) news) et (0,0))):=by
     simp[Builtin.copy_,run_underlying ht,sizeOf,typeInfo,hi,Builtin.lenOf,hmin,hrunF,hst]
    rw[hrun];refine⟨_,_,hk,hrng _,I3 G hs ⟨_,et,rfl,by rw[Dg];exact h4,by simp;omega,by simp;omega,?_⟩,GZ hs _ _⟩;have hol:off<=es.length:=by omega
    refine Ga (EF (HU h7 off) fun j hj=>?_) (Ga (EF h10 fun j hj=>?_) (EF (Mc h7 (off+min ys.length len)) fun j hj=>?_))
    .rw[NT,Nat.min_eq_left hol]at hj
     exact C3 _ _ _ _ (by omega)
    .rw[hcnt]at hj
     rw[NT,Nat.min_eq_left hol];simp only[GM];exact Fu _ _ _ _ (by omega) (by omega)
    .rw[NT,Nat.min_eq_left hol,hcnt,GM,GM,Nat.add_mul]
     exact C3 _ _ _ _ (by omega)
  .exact hk.elim
 cases vx
 case sl n len cap=>
  obtain⟨rfl,_⟩:=hx;exact main n 0 len _ cap (fun _=>by simp) h
 case sv n s off len=>
  obtain⟨rfl,h⟩:=h;obtain⟨a,cap,rfl,_,h6⟩:=hx;exact main n off len a cap h6 h
 all_goals exact h.elim
def dV (P:Program):Op->Option FY
 | .call c=>match c.callee,c.args.toList,c.argTypes.toList with
   | .builtin .copy,[x,y],[t,_]=>match P.underlying t with
     | some (.slice e)=>match BL x,BL y,P.info? e with
       | some x,some y,some i=>some (.copy i.size x y)
       | _,_,_=>none
     | _=>none
   | _,_,_=>none
 | _=>none
def V2 {env:Env} {a:Act} {o:Oper} {ao:FY} (ho:dV P o.op=some ao) (h:E5 P ao env σ k kp) (he:CE (Hh Λ σ w) env a.tmps) (G:Rel Λ σ w) :
    Good P Λ σ w k kp ((execOp a.eval o).run P w):=by
 unfold dV at ho;split at ho
 rotate_left
 .cases ho
 rename_i c hop;split at ho
 rotate_left
 .cases ho
 rename_i x y t u hc hargs htys;split at ho
 rotate_left
 .cases ho
 rename_i e hu;split at ho
 rotate_left
 .cases ho
 rename_i x' y' i hx hy hi;cases ho;obtain⟨vx,h1,g⟩:=Ak h;obtain⟨vy,h2,g⟩:=Ak g;have ea:c.args= #[x,y]:=by apply Array.ext';simpa using hargs
 have et:c.argTypes= #[t,u]:=by apply Array.ext';simpa using htys
 unfold execOp;simp only[hop,resolve,hc,ea,et,C6,EY,GH,invoke,builtin,List.map_toArray,E4,List.map_nil];exact EG (Xw (P:=P) (kp:=kp) o.type hu hi G (Ap he hx h1) (Ap he hy h2) g)
def dB (P:Program) (o:Op):Option FY:=match ox P o with|some a=>some a|none=>match oy P o with|some a=>some a|none=>match oz P o with|some a=>some a|none=>dV P o
def Xe {env:Env} {a:Act} {o:Oper} {ao:FY} (ho:dB P o.op=some ao) (h:E5 P ao env σ k kp) (he:CE (Hh Λ σ w) env a.tmps) (G:Rel Λ σ w) :
    Good P Λ σ w k kp ((execOp a.eval o).run P w):=by
 unfold dB at ho;split at ho
 .rename_i h';cases ho;exact Xf h' h he G
 .split at ho
  .rename_i h';cases ho;exact Xg h' h he G
  .split at ho
   .rename_i h';cases ho;exact Xh h' h he G
   .exact V2 ho h he G
end Go.Gl
namespace Go.Gl
variable {P:Program} {Λ:Nat->Prop}
def emp:AH:=fun _=>none
def Pure (P:Program) (f:FuncId) (args:List V) (v:V):Prop:=As P f args emp fun r σ'=>r= .ret v/\σ'=emp
def Yo {w:World} (Λ:Nat->Prop) (h: ∀n,Λ n->n<w.heap.size):Rel Λ emp w:=⟨fun n o ho=>(by cases ho),h⟩
def TS {σ:AH} {w w':World} {Λ':Nat->Prop} (h:B2 Λ' emp w emp w'):B2 Λ σ w σ w':=
 ⟨fun n hn _=>h.frame n hn rfl,h.size,h.os,h.tape,h.output,fun _ h0 _=>h0⟩
def Qy {σ:AH} {w w':World} {Λ':Nat->Prop} (G:Rel Λ σ w) (h:B2 Λ' emp w emp w'):Rel Λ σ w':=
 G.step (TS h) fun n _ hn=> .inl ⟨hn,h.frame n (G.lt hn) rfl⟩
def Pure.use {f:FuncId} {args:List V} {v:V} (h:Pure P f args v) {σ:AH} {k kp:V->AH->Prop} (hk:k v σ):As P f args σ (qk k kp):=by
 refine⟨h.1,fun Λ w cs G hv=>?_⟩
 have hH: ∀w:World,(Hh (fun n=>Λ n\/σ n≠none) emp w)=Hh Λ σ w:=fun w=>by
  funext b o;unfold Hh;by_cases hb:Λ b\/(σ b).isSome=true
  .rw[if_pos hb,if_pos]
   rcases hb with hb|hb
   .exact .inl (.inl hb)
   .exact .inl (.inr (by intro e;rw[e]at hb;cases hb))
  .rw[if_neg hb,if_neg]
   rintro((h|h)|h)
   .exact hb (.inl h)
   .exact hb (.inr (by cases hs:σ b with|none=>exact absurd hs h|some o=>rfl))
   .cases h
 refine Calls.mono (h.2 (fun n=>Λ n\/σ n≠none) w cs (Yo _ fun n hn=>?_) (by rw[hH];exact hv)) fun e w' ⟨r,σ',⟨hr,hs⟩,h1,h2,h3⟩=>?_
 .rcases hn with hn|hn
  .exact G.lock n hn
  .cases hs:σ n with
   | none=>exact absurd hs hn
   | some o=>exact G.lt hs
 .subst hr
  subst hs;rw[hH]at h1;exact⟨.ret v,σ,hk,h1,Qy G h3,TS h3⟩
def As.mono {f:FuncId} {args:List V} {σ:AH} {Q Q':R->AH->Prop} (h:As P f args σ Q) (hq: ∀r σ',Q r σ'->Q' r σ'):As P f args σ Q':=
 ⟨h.1,fun Λ w cs G hv=>Calls.mono (h.2 Λ w cs G hv) fun _ _ ⟨r,σ',h1,h2⟩=>⟨r,σ',hq _ _ h1,h2⟩⟩
def L9.mono {l:Nat} {args:List V} {σ:AH} {Q Q':R->AH->Prop} (h:L9 P l args σ Q) (hq: ∀r σ',Q r σ'->Q' r σ'):L9 P l args σ Q':=
 fun Λ w cs G hv=>let⟨f,tmps,assign,body,h1,h2⟩:=h Λ w cs G hv;⟨f,tmps,assign,body,h1,h2.mono fun e w' ⟨r,σ',h3,h4⟩=>⟨r,σ',hq _ _ h3,h4⟩⟩
def Ao.mono {x:V} {args:List V} {σ:AH} {Q Q':R->AH->Prop} (h:Ao P x args σ Q) (hq: ∀r σ',Q r σ'->Q' r σ'):Ao P x args σ Q':=by
 unfold Ao at *;split at h
 .exact As.mono h hq
 .exact L9.mono h hq
 .exact h.elim
def Ax.mono {tab:List (TypeId×FuncId)} {x:V} {args:List V} {σ:AH} {Q Q':R->AH->Prop} (h:Ax P tab x args σ Q) (hq: ∀r σ',Q r σ'->Q' r σ'):Ax P tab x args σ Q':=by
 unfold Ax at *;split at h
 .split at h
  .exact As.mono h hq
  .exact h.elim
 .exact h.elim
def rd:Bg->List Nat| .t n=>[n]| .c _=>[]
def wV:Option Bg->List Nat|some x=>rd x|none=>[]
def cU (l:List Bg):List Nat:=l.flatMap rd
def reads:FY->List Nat
 | .mv x| .jW x| .not x| .neg _ x| .conv _ x| .box x| .Nd x| .load _ x| .Fc _ x| .field _ _ x| .len x| .SE x| .str x| .extract _ x| .H5 x| .M6 _ x| .cT _ _ _ x| .panic x| .cZ _ _ x=>rd x
 | .pick a b c=>rd a++rd b++rd c
 | .Tw x y| .bin _ x y| .jb _ x y| .ja _ _ x y| .store _ x y| .Kq _ _ x y| .index _ _ _ x y| .append _ _ x y| .QJ _ _ x y| .copy _ x y| .T0 x y| .Tz x y| .Fj _ _ _ x y| .lookup _ _ _ x y=>rd x++rd y
 | .alloc _| .M5=>[]
 | .build _ ps=>cU (ps.map fun p=>p.2.2)
 | .Gt _ _ _ ps=>cU (ps.map fun p=>p.2)
 | .slice _ x a b c=>rd x++wV a++wV b++wV c
 | .cV _ a b=>cU a++cU b
 | .D8 _ m k v=>rd m++rd k++rd v
 | .call _ as| .Kt _ as=>cU as
 | .Ie x as| .XL x as| .inv _ x as=>rd x++cU as
variable {env env':Env}
def Ae {x:Bg} (h: ∀s∈rd x,get s env'=get s env):ev env' x=ev env x:=by
 cases x with
 | t n=>exact h n (by simp[rd])
 | c v=>rfl
def Ex: ∀ {l:List Bg},(∀s∈cU l,get s env'=get s env)->Tl env' l=Tl env l
 | [],_=>rfl
 | x::r,h=>by
   simp only[cU,List.flatMap_cons,Dr]at h;simp only[Tl,Ae (fun s hs=>h s (.inl hs)),Ex (l:=r) (fun s hs=>h s (.inr hs))]
def Iu {x:Option Bg} (h: ∀s∈wV x,get s env'=get s env):G9 env' x=G9 env x:=by
 cases x with
 | none=>rfl
 | some x=>simp only[G9,Ae (x:=x) h]
def NN: ∀ {ps:List (Nat×Nat×Bg)} {cs:List V},(∀s∈cU (ps.map fun p=>p.2.2),get s env'=get s env)->Jn env' cs ps=Jn env cs ps
 | [],_,_=>rfl
 | (off,sz,x)::r,cs,h=>by
   simp only[cU,E4,List.flatMap_cons,Dr]at h;simp only[Jn,Ae (fun s hs=>h s (.inl hs))];split<;>try rfl
   split<;>try rfl
   cases hb:(Nat.beq _ sz&&Nat.ble (off+sz) cs.length)<;>simp only[cond_true,cond_false]
   exact NN (ps:=r) fun s hs=>h s (.inr hs)
def NO {sz:Nat}: ∀ {ps:List (Nat×Bg)} {es:List (List V)},(∀s∈cU (ps.map fun p=>p.2),get s env'=get s env)->Ib env' sz es ps=Ib env sz es ps
 | [],_,_=>rfl
 | (i,x)::r,es,h=>by
   simp only[cU,E4,List.flatMap_cons,Dr]at h;simp only[Ib,Ae (fun s hs=>h s (.inl hs))];split<;>try rfl
   split<;>try rfl
   cases hb:(Nat.beq _ sz&&Nat.blt i es.length)<;>simp only[cond_true,cond_false]
   exact NO (ps:=r) fun s hs=>h s (.inr hs)
def Rx {o:FY} {σ:AH} {k kp:V->AH->Prop} (h: ∀s∈reads o,get s env'=get s env):E5 P o env' σ k kp=E5 P o env σ k kp:=by
 cases o<;>simp only[reads,Dr,or_imp,forall_and]at h<;>simp only[E5]
 case mv x=>rw[Ae h]
 case jW x=>rw[Ae h]
 case pick a b c=>rw[Ae h.1.1,Ae h.1.2,Ae h.2]
 case bin op x y=>rw[Ae h.1,Ae h.2]
 case jb n x y=>rw[Ae h.1,Ae h.2]
 case ja q n x y=>rw[Ae h.1,Ae h.2]
 case cZ q n x=>rw[Ae h]
 case lookup a b c x y=>rw[Ae h.1,Ae h.2]
 case D8 a x y z=>rw[Ae h.1.1,Ae h.1.2,Ae h.2]
 case Fj a b c x y=>rw[Ae h.1,Ae h.2]
 case not x=>rw[Ae h]
 case neg n x=>rw[Ae h]
 case conv n x=>rw[Ae h]
 case box x=>rw[Ae h]
 case Nd x=>rw[Ae h]
 case QJ a b x y=>rw[Ae h.1,Ae h.2]
 case build z ps=>rw[NN h]
 case Gt a b c ps=>rw[NO h]
 case load a x=>rw[Ae h]
 case store a x y=>rw[Ae h.1,Ae h.2]
 case Fc a x=>rw[Ae h]
 case field a b x=>rw[Ae h]
 case Kq a b x y=>rw[Ae h.1,Ae h.2]
 case index a b c x y=>rw[Ae h.1,Ae h.2]
 case slice s x a b c=>rw[Ae h.1.1.1,Iu h.1.1.2,Iu h.1.2,Iu h.2]
 case len x=>rw[Ae h]
 case SE x=>rw[Ae h]
 case str x=>rw[Ae h]
 case Tw x y=>rw[Ae h.1,Ae h.2]
 case append a b x y=>rw[Ae h.1,Ae h.2]
 case copy a x y=>rw[Ae h.1,Ae h.2]
 case inv tab x as=>rw[Ae h.1,Ex h.2]
 case T0 x y=>rw[Ae h.1,Ae h.2]
 case Tz x y=>rw[Ae h.1,Ae h.2]
 case extract i x=>rw[Ae h]
 case H5 x=>rw[Ae h]
 case cV f a b=>rw[Ex h.1,Ex h.2]
 case M6 t x=>rw[Ae h]
 case cT a b c x=>rw[Ae h]
 case panic x=>rw[Ae h]
 case call f as=>rw[Ex h]
 case Kt f as=>rw[Ex h]
 case Ie x as=>rw[Ae h.1,Ex h.2]
end Go.Gl
namespace Go.Gl
variable {P:Program} {Λ:Nat->Prop} {env env':Env} {σ:AH}
def An (AE:(V->Prop)->Prop):Prop:= ∀k,AE k-> ∃v,k v/\ ∀k':V->Prop,k' v->AE k'
def An.one (v:V):An fun k=>k v:=fun _ h=>⟨v,h,fun _ h=>h⟩
def An.no:An fun _=>False:=fun _ h=>h.elim
def An.and {p:Prop} {AE:(V->Prop)->Prop} (h:An AE):An fun k=>p/\AE k:=fun k ⟨hp,hF⟩=>let⟨v,h1,h2⟩:=h k hF;⟨v,h1,fun k' hk=>⟨hp,h2 k' hk⟩⟩
def An.wv {o:Option V} {AE:V->(V->Prop)->Prop} (h: ∀v,An (AE v)):An fun k=>wv o fun v=>AE v k:=by
 cases o with
 | none=>exact An.no
 | some v=>exact h v
def An.ws {o:Option (List V)} {AE:List V->(V->Prop)->Prop} (h: ∀v,An (AE v)):An fun k=>ws o fun v=>AE v k:=by
 cases o with
 | none=>exact An.no
 | some v=>exact h v
def An.wr {o:Option (List (List V))} {AE:List (List V)->(V->Prop)->Prop} (h: ∀v,An (AE v)):An fun k=>wr o fun v=>AE v k:=by
 cases o with
 | none=>exact An.no
 | some v=>exact h v
def An.wo {o:Option (Option V)} {AE:Option V->(V->Prop)->Prop} (h: ∀v,An (AE v)):An fun k=>wo o fun v=>AE v k:=by
 cases o with
 | none=>exact An.no
 | some v=>exact h v
def iZ (op:BinOp) (x y:V):An (T5 op x y):=by
 unfold T5;cases x<;>cases y<;>first|exact An.no|skip
 cases op<;>simp only<;>first|exact(An.one _).and|exact(An.one _).and.and
def LA (agg:Option Nat) (cs:List V) (off:Nat):An (cut agg cs off):=by
 unfold cut;cases agg with
 | none=>cases cs[off]? with
   | none=>exact An.no
   | some v=>exact An.one _
 | some n=>exact(An.one _).and
def bz (σ:AH) (agg:Option Nat) (x:V):An (AW σ agg x):=by
 unfold AW OQ OR;cases x<;>first|exact An.no|skip
 case p n off=>
  simp only;cases σ n with
  | none=>exact An.no
  | some o=>cases o<;>first|exact An.no|exact LA _ _ _
 case rp cs=>exact LA _ _ _
 case pe n sz i off=>
  simp only;cases σ n with
  | none=>exact An.no
  | some o=>
    cases o<;>first|exact An.no|skip
    simp only;refine An.and ?_;rename_i es _;cases es[i]? with
    | none=>exact An.no
    | some e=>exact LA _ _ _
def bJ {σ σ':AH} (hs:Sub σ σ') {agg:Option Nat} {x:V} {k:V->Prop} (h:AW σ agg x k):AW σ' agg x k:=by
 unfold AW OQ OR at *;cases x<;>first|exact h|skip
 case p n off=>
  simp only at *;cases hn:σ n with
  | none=>rw[hn]at h;exact h.elim
  | some o=>rw[hs n o hn];rw[hn]at h;exact h
 case pe n sz i off=>
  simp only at *;cases hn:σ n with
  | none=>rw[hn]at h;exact h.elim
  | some o=>rw[hs n o hn];rw[hn]at h;exact h
def X9 (off:Nat) (x:V):An (J5 off x):=by
 unfold J5;cases x<;>first|exact An.no|exact An.one _
def X8 (sz:Nat) (arr:Option Nat) (x i:V):An (AQ sz arr x i):=by
 unfold AQ;cases i<;>first|exact An.no|skip
 cases arr<;>cases x<;>first|exact An.no|exact(An.one _).and.and|exact(An.one _).and.and.and|skip
 intro k ⟨h0,e,h1,h2,h3⟩;exact⟨_,h3,fun k' hk=>⟨h0,e,h1,h2,hk⟩⟩
def X7 (len sz:Nat) (agg:Option Nat) (x i:V):An (J4 len sz agg x i):=by
 unfold J4;cases x<;>first|exact An.no|skip
 cases i<;>first|exact An.no|skip
 exact(LA _ _ _).and.and
def bw (x i:V):An (OU x i):=by
 unfold OU;cases x<;>first|exact An.no|skip
 cases i<;>first|exact An.no|skip
 refine An.and ?_;rename_i b _ j;cases b.data.toList[j.toNat]? with
 | none=>exact An.no
 | some c=>exact An.one _
def iY (x:V):An (Au x):=by
 unfold Au;cases x<;>first|exact An.no|exact An.one _|exact(An.one _).and
def b6 (σ:AH) (x:V):An (Jk σ x):=by
 unfold Jk;cases x<;>first|exact An.no|exact An.one _|skip
 case m n=>
  simp only;cases σ n with
  | none=>exact An.no
  | some o=>cases o<;>first|exact An.no|exact(An.one _).and
def bK {σ σ':AH} (hs:Sub σ σ') {x:V} {k:V->Prop} (h:Jk σ x k):Jk σ' x k:=by
 unfold Jk at *;cases x<;>first|exact h|skip
 case m n=>
  simp only at *;cases hn:σ n with
  | none=>rw[hn]at h;exact h.elim
  | some o=>rw[hs n o hn];rw[hn]at h;exact h
def I9 {o:Option V} {d:Int} {k:Int->Prop} (h:Nr o d k): ∃v,k v/\ ∀k':Int->Prop,k' v->Nr o d k':=by
 unfold Nr at *;split at h
 .exact⟨_,h,fun _ h=>h⟩
 .exact⟨_,h,fun _ h=>h⟩
 .exact h.elim
def X6 {sz:Nat} {x:V} {a b:Option V} {k:V->AH->Prop} (h:AP σ sz x a b none k): ∃v,k v σ/\ ∀σ' (k':V->AH->Prop),k' v σ'->AP σ' sz x a b none k':=by
 unfold AP at *;cases x<;>first|exact h.elim|skip
 .simp only at *
  obtain⟨h0,h⟩:=h;obtain⟨hh,h,g1⟩:=I9 h;obtain⟨l,h,g2⟩:=I9 h;exact⟨_,h.2.2.2,fun σ' k' hk=>⟨h0,g1 _ (g2 _ ⟨h.1,h.2.1,h.2.2.1,hk⟩)⟩⟩
 .simp only at *
  obtain⟨hh,h,g1⟩:=I9 h;obtain⟨l,h,g2⟩:=I9 h;exact⟨_,h.2.2.2,fun σ' k' hk=>g1 _ (g2 _ ⟨h.1,h.2.1,h.2.2.1,hk⟩)⟩
 .simp only at *
  obtain⟨hh,h,g1⟩:=I9 h;obtain⟨l,h,g2⟩:=I9 h;exact⟨_,h.2.2.2.2.2,fun σ' k' hk=>g1 _ (g2 _ ⟨h.1,h.2.1,h.2.2.1,h.2.2.2.1,trivial,hk⟩)⟩
def PU {sz:Nat} {y:V} {k:List (List V)->Prop} (h:rowsOf σ sz y k): ∃ys,k ys/\ ∀σ' (k':List (List V)->Prop),Sub σ σ'->k' ys->rowsOf σ' sz y k':=by
 unfold rowsOf at *;cases y<;>first|exact h.elim|skip
 .exact⟨_,h.2,fun _ _ _ hk=>⟨h.1,hk⟩⟩
 .rename_i m len cap
  simp only at *;cases hm:σ m with
  | none=>rw[hm]at h;exact h.elim
  | some o=>
    rw[hm]at h;cases o<;>first|exact h.elim|skip
    exact⟨_,h.2.2,fun σ' k' hs hk=>by rw[hs m _ hm];exact⟨h.1,h.2.1,hk⟩⟩
 .rename_i m s off len
  simp only at *;cases hm:σ m with
  | none=>rw[hm]at h;exact h.elim
  | some o=>
    rw[hm]at h;cases o<;>first|exact h.elim|skip
    exact⟨_,h.2.2.2,fun σ' k' hs hk=>by rw[hs m _ hm];exact⟨h.1,h.2.1,h.2.2.1,hk⟩⟩
def iH {x:V} {k:V->Prop} (h:dI σ x k): ∃v,k v/\ ∀σ' (k':V->Prop),Sub σ σ'->k' v->dI σ' x k':=by
 obtain⟨ys,h1,h2⟩:=PU h;cases hn:Eu ys with
 | none=>rw[hn]at h1;exact h1.elim
 | some ns=>
   rw[hn]at h1;exact⟨_,h1,fun σ' k' hs hk=>h2 σ' _ hs (by rw[hn];exact hk)⟩
def b7 {b sz:Nat} {x y:V} {k:V->Prop} (h:Ab b σ sz x y k): ∃v,k v/\ ∀σ' (k':V->Prop),Sub σ σ'->k' v->Ab b σ' sz x y k':=by
 unfold Ab at *;obtain⟨ys,⟨h1,h2⟩,h3⟩:=PU h;cases x<;>first|exact h2.elim|skip
 exact⟨_,h2.2.2.2,fun σ' k' hs hk=>h3 σ' _ hs ⟨h1,h2.1,h2.2.1,h2.2.2.1,hk⟩⟩
def WR {ks:KS} {z:V} {ok:Bool} {vm vk:V} {k:V->Prop} (h:AN σ ks z ok vm vk k): ∃v,k v/\ ∀σ' (k':V->Prop),Sub σ σ'->k' v->AN σ' ks z ok vm vk k':=by
 unfold AN at *;obtain⟨h0,h⟩:=h;cases vm<;>first|exact h.elim|skip
 .rename_i n
  simp only at *;cases hn:σ n with
  | none=>rw[hn]at h;exact h.elim
  | some o=>
    rw[hn]at h;cases o<;>first|exact h.elim|skip
    exact⟨_,h.2,fun σ' k' hs hk=>⟨h0,by rw[hs n _ hn];exact⟨h.1,hk⟩⟩⟩
 .exact⟨_,h,fun σ' k' hs hk=>⟨h0,hk⟩⟩
inductive Kd where
 | P|N|A|AB|H
 deriving DecidableEq,Repr
def kd:FY->Kd
 | .load _ _=> .N
 | .SE _=> .N
 | .str _=> .N
 | .QJ _ _ _ _=> .N
 | .box _=> .A
 | .append _ _ x _=>match x with| .c (.l [] true)=> .A|_=> .H
 | .alloc _=> .AB
 | .slice _ _ _ _ mx=>match mx with|none=> .N|some _=> .H
 | .store _ _ _| .copy _ _ _| .D8 _ _ _ _| .panic _| .call _ _| .Ie _ _| .XL _ _| .inv _ _ _| .M5| .Fj _ _ _ _ _| .cZ _ _ _| .jW _=> .H
 | .lookup _ _ _ _ _=> .N
 | _=> .P
def wA {o:FY} (hk:kd o= .P): ∃AE:(V->Prop)->Prop,An AE/\ ∀σ (k kp:V->AH->Prop),E5 P o env σ k kp=AE (fun v=>k v σ):=by
 cases o<;>first|(simp[kd]at hk;done)|skip
 case mv x=>exact⟨fun k=>wv (ev env x) k,An.wv fun v=>An.one v,fun _ _ _=>rfl⟩
 case pick c a b=>
  refine⟨fun k=>wv (ev env c) fun vc=>wv (ev env a) fun va=>wv (ev env b) fun vb=>match vc with| .b t=>(match va,vb with| .b x,.b y=>k (.b (bif t then x else y))|_,_=>k (bif t then va else vb))|_=>False,?_,fun _ _ _=>rfl⟩;refine An.wv fun vc=>An.wv fun va=>An.wv fun vb=>?_
  cases vc<;>first|exact An.no|skip
  cases va<;>first|exact An.one _|skip
  cases vb<;>exact An.one _
 case bin op x y=>exact⟨fun k=>wv (ev env x) fun vx=>wv (ev env y) fun vy=>T5 op vx vy k,An.wv fun _=>An.wv fun _=>iZ _ _ _,fun _ _ _=>rfl⟩
 case jb n x y=>
  refine⟨fun k=>wv (ev env x) fun vx=>wv (ev env y) fun vy=>match vx,vy with| .b p,.b q=>k (.b (bif n then p != q else p==q))|_,_=>False,?_,fun _ _ _=>rfl⟩;refine An.wv fun vx=>An.wv fun vy=>?_
  cases vx<;>cases vy<;>first|exact An.no|exact An.one _
 case ja q n x y=>
  refine⟨fun k=>wv (ev env x) fun vx=>wv (ev env y) fun vy=>SF q n vx vy k,An.wv fun vx=>An.wv fun vy=>?_,fun _ _ _=>rfl⟩;unfold SF;cases vx<;>first|exact An.no|skip
  cases vy<;>first|exact An.no|skip
  simp only;split<;>first|exact An.no|exact An.one _
 case not x=>
  refine⟨fun k=>wv (ev env x) fun vx=>match vx with| .b p=>k (.b (!p))|_=>False,An.wv fun vx=>?_,fun _ _ _=>rfl⟩;cases vx<;>first|exact An.no|exact An.one _
 case neg xor x=>
  refine⟨fun k=>wv (ev env x) fun vx=>match vx with| .i ka a=>k (.i ka (bif xor then bits .xor ka (bif ka.signed then -1 else ka.max) a else ka.wrap (0 - a)))|_=>False,An.wv fun vx=>?_,fun _ _ _=>rfl⟩;cases vx<;>first|exact An.no|exact An.one _
 case conv ka x=>
  refine⟨fun k=>wv (ev env x) fun vx=>match vx with| .i _ a=>k (.i ka (ka.wrap a))|_=>False,An.wv fun vx=>?_,fun _ _ _=>rfl⟩;cases vx<;>first|exact An.no|exact An.one _
 case Nd x=>
  refine⟨fun k=>wv (ev env x) fun vx=>match cellsOf vx with|some cs=>k (.rp cs)|none=>False,An.wv fun vx=>?_,fun _ _ _=>rfl⟩;cases cellsOf vx<;>first|exact An.no|exact An.one _
 case build z ps=>exact⟨fun k=>ws (Jn env z ps) fun cs=>k (.a cs),An.ws fun _=>An.one _,fun _ _ _=>rfl⟩
 case Gt sz len z ps=>exact⟨fun k=>wr (Ib env z.length (List.replicate len z) ps) fun es=>k (.l es true),An.wr fun _=>An.one _,fun _ _ _=>rfl⟩
 case Fc off x=>exact⟨fun k=>wv (ev env x) fun vx=>J5 off vx k,An.wv fun _=>X9 _ _,fun _ _ _=>rfl⟩
 case field agg off x=>
  refine⟨fun k=>wv (ev env x) fun vx=>match vx with| .a cs=>cut agg cs off k|_=>False,An.wv fun vx=>?_,fun _ _ _=>rfl⟩;cases vx<;>first|exact An.no|exact LA _ _ _
 case Kq sz arr x i=>exact⟨fun k=>wv (ev env x) fun vx=>wv (ev env i) fun vi=>AQ sz arr vx vi k,An.wv fun _=>An.wv fun _=>X8 _ _ _ _,fun _ _ _=>rfl⟩
 case Tw x i=>exact⟨fun k=>wv (ev env x) fun vx=>wv (ev env i) fun vi=>OU vx vi k,An.wv fun _=>An.wv fun _=>bw _ _,fun _ _ _=>rfl⟩
 case index len sz agg x i=>exact⟨fun k=>wv (ev env x) fun vx=>wv (ev env i) fun vi=>J4 len sz agg vx vi k,An.wv fun _=>An.wv fun _=>X7 _ _ _ _ _,fun _ _ _=>rfl⟩
 case len x=>exact⟨fun k=>wv (ev env x) fun vx=>Au vx k,An.wv fun _=>iY _,fun _ _ _=>rfl⟩
 case T0 x y=>
  refine⟨fun k=>wv (ev env x) fun vx=>wv (ev env y) fun vy=>match vx,vy with| .i ka a,.i kb b=>ka=kb/\k (.i ka (if b > a then b else a))|_,_=>False,?_,fun _ _ _=>rfl⟩;refine An.wv fun vx=>An.wv fun vy=>?_
  cases vx<;>cases vy<;>first|exact An.no|exact(An.one _).and
 case Tz x y=>
  refine⟨fun k=>wv (ev env x) fun vx=>wv (ev env y) fun vy=>match vx,vy with| .i ka a,.i kb b=>ka=kb/\k (.i ka (if b<a then b else a))|_,_=>False,?_,fun _ _ _=>rfl⟩;refine An.wv fun vx=>An.wv fun vy=>?_
  cases vx<;>cases vy<;>first|exact An.no|exact(An.one _).and
 case extract i x=>
  refine⟨fun k=>wv (ev env x) fun vx=>match vx with| .t vs=>(match vs[i]? with|some v=>k v|none=>False)|_=>False,An.wv fun vx=>?_,fun _ _ _=>rfl⟩;cases vx<;>first|exact An.no|skip
  rename_i vs;simp only;cases vs[i]? <;>first|exact An.no|exact An.one _
 case H5 x=>
  refine⟨fun k=>wv (ev env x) fun vx=>match vx with
   | .p n off=>k (.p n off)
   | .rp cs=>k (.rp cs)
   | .pe n sz i off=>k (.pe n sz i off)
   | .f (.func f) first cap=>k (.f (.func f) first cap)
   | .f (.yield l) first cap=>k (.f (.yield l) first cap)
   | _=>False,An.wv fun vx=>?_,fun _ _ _=>rfl⟩
  cases vx<;>first|exact An.no|exact An.one _|skip
  rename_i f a b;cases f<;>first|exact An.no|exact An.one _
 case cV f a b=>exact⟨fun k=>ws (Tl env a) fun vf=>ws (Tl env b) fun vc=>k (.f f vf vc),An.ws fun _=>An.ws fun _=>An.one _,fun _ _ _=>rfl⟩
 case M6 t x=>exact⟨fun k=>wv (ev env x) fun vx=>k (.Eo t vx),An.wv fun _=>An.one _,fun _ _ _=>rfl⟩
 case cT t z ok x=>
  refine⟨fun k=>wv (ev env x) fun vx=>match vx with
   | .Eo t' v=>(t'=t->k (bif ok then .t [v,.b true]else v))/\(t'≠t->ok=true/\k (.t [z,.b false]))
   | .DW=>ok=true/\k (.t [z,.b false])
   | _=>False,An.wv fun vx=>?_,fun _ _ _=>rfl⟩
  cases vx<;>first|exact An.no|exact(An.one _).and|skip
  rename_i t' v;simp only;by_cases ht:t'=t
  .simpa[ht]using An.one _
  .simpa[ht]using(An.one (.t [z,.b false])).and
 case Kt f as=>
  refine⟨fun k=>ws (Tl env as) fun vs=> ∃v,As P f vs (fun _=>none) (fun r σ'=>r= .ret v/\σ'=fun _=>none)/\k v,An.ws fun vs=>?_,fun _ _ _=>rfl⟩;intro k ⟨v,h1,h2⟩;exact⟨v,h2,fun k' hk=>⟨v,h1,hk⟩⟩
 case slice s x a b c=>
  exfalso;simp only[kd]at hk;split at hk<;>cases hk
 case append a b x y=>
  exfalso;simp only[kd]at hk;split at hk<;>cases hk
 all_goals exact⟨fun _=>False,An.no,fun _ _ _=>rfl⟩
def still (o:FY):Bool:=match kd o with| .P=>true| .N=>true|_=>false
def HZ {o : FY} (hs:still o=true) {k kp:V->AH->Prop} (h:E5 P o env σ k kp) :
    ∃v,k v σ/\ ∀σ' (k' kp':V->AH->Prop),(kd o= .P\/Sub σ σ')->k' v σ'->E5 P o env σ' k' kp':=by
 unfold still at hs;cases hk:kd o<;>rw[hk]at hs<;>first|(cases hs;done)|skip
 .obtain⟨AE,h1,h2⟩:=wA (P:=P) (env:=env) hk
  rw[h2]at h;obtain⟨v,h3,h4⟩:=h1 _ h;exact⟨v,h3,fun σ' k' kp' _ hv=>by rw[h2];exact h4 _ hv⟩
 .cases o <;>first|(simp[kd]at hk;done)|skip
  case load agg x=>
   simp only[E5]at *;cases hx:ev env x with
   | none=>rw[hx]at h;exact h.elim
   | some vx=>
     rw[hx]at h;obtain⟨v,h3,h4⟩:=bz σ agg vx _ h;refine⟨v,h3,fun σ' k' kp' hs hv=>bJ (hs.resolve_left (by simp)) (h4 _ hv)⟩
  case SE x=>
   simp only[E5]at *;cases hx:ev env x with
   | none=>rw[hx]at h;exact h.elim
   | some vx=>
     rw[hx]at h
     try simp only[Ef]at h ⊢
     obtain⟨v,h3,h4⟩:=b6 σ vx _ h;refine⟨v,h3,fun σ' k' kp' hs hv=>bK (hs.resolve_left (by simp)) (h4 _ hv)⟩
  case str x=>
   simp only[E5]at *;cases hx:ev env x with
   | none=>rw[hx]at h;exact h.elim
   | some vx=>
     rw[hx]at h
     try simp only[Ef]at h ⊢
     obtain⟨v,h3,h4⟩:=iH h;exact⟨v,h3,fun σ' k' kp' hs hv=>h4 _ _ (hs.resolve_left (by simp)) hv⟩
  case lookup ks z ok x y=>
   simp only[E5]at *;cases hx:ev env x with
   | none=>rw[hx]at h;exact h.elim
   | some vx=>
     rw[hx]at h
     try simp only[Ef]at h ⊢
     cases hy:ev env y with
     | none=>rw[hy]at h;exact h.elim
     | some vy=>
       rw[hy]at h
       try simp only[Ef]at h ⊢
       obtain⟨v,h1,h2⟩:=WR h;exact⟨v,h1,fun σ' k' kp' hs hk'=>h2 σ' _ (hs.resolve_left (by simp)) hk'⟩
  case QJ a b x y=>
   simp only[E5]at *;cases hx:ev env x with
   | none=>rw[hx]at h;exact h.elim
   | some vx=>
     rw[hx]at h
     try simp only[Ef]at h ⊢
     cases hy:ev env y with
     | none=>rw[hy]at h;exact h.elim
     | some vy=>
       rw[hy]at h
       try simp only[Ef]at h ⊢
       obtain⟨v,h1,h2⟩:=b7 h;exact⟨v,h1,fun σ' k' kp' hs hk'=>h2 σ' _ (hs.resolve_left (by simp)) hk'⟩
  case slice s x a b c=>
   cases c with
   | some c=>simp[kd]at hk
   | none=>
     simp only[E5]at *;cases hx:ev env x with
     | none=>rw[hx]at h;exact h.elim
     | some vx=>
       rw[hx]at h
       try simp only[Ef]at h ⊢
       cases ha:G9 env a with
       | none=>rw[ha]at h;exact h.elim
       | some va=>
         rw[ha]at h
         try simp only[Yc]at h ⊢
         cases hb:G9 env b with
         | none=>rw[hb]at h;exact h.elim
         | some vb=>
           rw[hb]at h;simp only[Yc,G9]at h ⊢;obtain⟨v,h1,h2⟩:=X6 h;exact⟨v,h1,fun σ' k' kp' _ hk'=>h2 σ' k' hk'⟩
  case append a b x y=>
   exfalso;simp only[kd]at hk;split at hk<;>cases hk
end Go.Gl
namespace Go.Gl
variable {P:Program} {Λ:Nat->Prop} {σ:AH}
def GN (σ:AH) (D:Nat->Prop):AH:=fun n=>open Classical in if D n then σ n else none
def DD {D:Nat->Prop} {n:Nat} (h:D n):GN σ D n=σ n:=by unfold GN;rw[if_pos h]
def DK {D:Nat->Prop} {n:Nat} (h: ¬D n):GN σ D n=none:=by unfold GN;rw[if_neg h]
def join (σ τ:AH):AH:=fun n=>match σ n with|some o=>some o|none=>τ n
def As.frame {f:FuncId} {args:List V} {Q:R->AH->Prop} (D:Nat->Prop) (h:As P f args (GN σ D) Q) :
    As P f args σ fun r σ'=> ∃σ1,Q r σ1/\(∀n,¬D n->σ n≠none->σ1 n=none)/\σ'=join σ1 (GN σ fun n=> ¬D n):=by
 refine⟨h.1,fun Λ w cs G hv=>?_⟩
 have hH:(Hh (fun n=>Λ n\/(¬D n/\σ n≠none)) (GN σ D) w)=Hh Λ σ w:=by
  funext b o;unfold Hh;by_cases hb:Λ b\/(σ b).isSome=true
  .rw[if_pos hb,if_pos]
   rcases hb with hb|hb
   .exact .inl (.inl hb)
   .by_cases hd:D b
    .exact .inr (by rw[DD hd];exact hb)
    .exact .inl (.inr ⟨hd,by intro e;rw[e]at hb;cases hb⟩)
  .rw[if_neg hb,if_neg]
   rintro((h|h)|h)
   .exact hb (.inl h)
   .exact hb (.inr (by cases hs:σ b with|none=>exact absurd hs h.2|some o=>rfl))
   .by_cases hd:D b
    .rw[DD hd]at h;exact hb (.inr h)
    .rw[DK hd]at h;cases h
 have hR1:Rel (fun n=>Λ n\/(¬D n/\σ n≠none)) (GN σ D) w:=by
  refine⟨fun n o ho=>?_,fun n hn=>?_⟩
  .by_cases hd:D n
   .rw[DD hd]at ho
    obtain⟨h1,ob,h2,h3⟩:=G.own n o ho;refine⟨?_,ob,h2,by rw[hH];exact h3⟩;rintro(h|h)
    .exact h1 h
    .exact h.1 hd
   .rw[DK hd]at ho;cases ho
  .rcases hn with hn|hn
   .exact G.lock n hn
   .cases hs:σ n with
    | none=>exact absurd hs hn.2
    | some o=>exact G.lt hs
 refine Calls.mono (h.2 _ w cs hR1 (by rw[hH];exact hv)) fun e w' ⟨r,σ1,hq,h1,h2,h3⟩=>?_
 have hfr: ∀n,¬D n->σ n≠none->σ1 n=none:=fun n hd hn=>by
  cases hs:σ1 n with
  | none=>rfl
  | some o=>exact absurd (.inr ⟨hd,hn⟩) (h2.own n o hs).1
 have hle:YJ (Hh (fun n=>Λ n\/(¬D n/\σ n≠none)) σ1 w') (Hh Λ (join σ1 (GN σ fun n=> ¬D n)) w'):=by
  intro b o c hc;obtain⟨k1,k2,k3⟩:=Fk hc;rw[NB (fun h=>k1 (.inl h)) ?_]
  .exact k3
  .simp only[join,k2]
   by_cases hd:D b
   .exact DK (fun h=>h hd)
   .rw[DD hd]
    cases hs:σ b with
    | none=>rfl
    | some o=>exact absurd (.inr ⟨hd,by rw[hs];simp⟩) k1
 have Y:B2 Λ σ w (join σ1 (GN σ fun n=> ¬D n)) w':=by
  refine⟨fun n hn h0=>h3.frame n hn ?_,h3.size,h3.os,h3.tape,h3.output,fun n h0 hn=>?_⟩
  .by_cases hd:D n
   .rw[DD hd];exact h0
   .exact DK hd
  .have:σ1 n=none:=h3.names n (by
    by_cases hd:D n
    .rw[DD hd];exact h0
    .exact DK hd) hn
   simp only[join,this];by_cases hd:D n
   .exact DK (fun h=>h hd)
   .rw[DD hd];exact h0
 refine⟨r,_,⟨σ1,hq,hfr,rfl⟩,?_,⟨fun n o ho=>?_,fun n hn=>h2.lock n (.inl hn)⟩,Y⟩
 .cases r with
  | ret v=>obtain⟨c,rfl,hv⟩:=h1;exact⟨c,rfl,hv.mono hle⟩
  | BZ v=>obtain⟨c,rfl,hv⟩:=h1;exact⟨c,rfl,hv.mono hle⟩
 .simp only[join]at ho
  cases hs:σ1 n with
  | some o1=>
    rw[hs]at ho;simp only[II]at ho;subst ho;obtain⟨k1,ob,k2,k3⟩:=h2.own n _ hs;exact⟨fun h=>k1 (.inl h),ob,k2,k3.mono hle⟩
  | none=>
    rw[hs]at ho;simp only at ho;by_cases hd:D n
    .rw[DK (fun h=>h hd)]at ho;cases ho
    .rw[DD hd]at ho
     obtain⟨k1,ob,k2,k3⟩:=G.own n o ho;refine⟨k1,ob,(h3.frame n (G.lt ho) (DK hd)).trans k2,k3.mono ?_⟩;exact Y.hle
end Go.Gl
namespace Go.Gl
variable {P:Program} {Λ:Nat->Prop} {env env':Env} {σ:AH}
def Bm {o:Option V} {k k':V->Prop} (h:wv o k) (hm: ∀v,k v->k' v):wv o k':=by
 cases o with
 | none=>exact h
 | some v=>exact hm v h
def Kx {o:Option (List V)} {k k':List V->Prop} (h:ws o k) (hm: ∀v,k v->k' v):ws o k':=by
 cases o with
 | none=>exact h
 | some v=>exact hm v h
def Sr {o:Option (Option V)} {k k':Option V->Prop} (h:wo o k) (hm: ∀v,k v->k' v):wo o k':=by
 cases o with
 | none=>exact h
 | some v=>exact hm v h
def WB {sz:Nat} {a x:V} {k k':AH->Prop} (h:AR σ sz a x k) (hm: ∀σ',k σ'->k' σ'):AR σ sz a x k':=by
 unfold AR at *;split at h
 .rename_i vc hc
  obtain⟨h1,h2,h3⟩:=h;refine⟨h1,h2,?_⟩;cases a<;>first|exact h3.elim|skip
  .simp only at *
   split at h3
   .exact⟨h3.1,hm _ h3.2⟩
   .exact h3.elim
  .simp only at *
   split at h3
   .refine⟨h3.1,?_⟩
    have h4:=h3.2;split at h4
    .exact⟨h4.1,hm _ h4.2⟩
    .exact h4.elim
   .exact h3.elim
 .exact h.elim
def FP {sz:Nat} {y:V} {k k':List (List V)->Prop} (h:rowsOf σ sz y k) (hm: ∀v,k v->k' v):rowsOf σ sz y k':=by
 unfold rowsOf at *;cases y<;>first|exact h.elim|skip
 .exact⟨h.1,hm _ h.2⟩
 .simp only at *
  split at h
  .exact⟨h.1,h.2.1,hm _ h.2.2⟩
  .exact h.elim
 .simp only at *
  split at h
  .exact⟨h.1,h.2.1,h.2.2.1,hm _ h.2.2.2⟩
  .exact h.elim
def Lq {b sz:Nat} {x y:V} {k k':V->AH->Prop} (h:AM b σ sz x y k) (hm: ∀v σ',k v σ'->k' v σ'):AM b σ sz x y k':=by
 unfold AM at *;refine FP h fun ys ⟨h1,h2⟩=>⟨h1,?_⟩
 cases x<;>first|exact h2.elim|skip
 .simp only at *
  exact⟨h2.1,h2.2.1,fun e=>hm _ _ (h2.2.2.1 e),fun e=>⟨(h2.2.2.2 e).1,fun n cap h3 h4=>hm _ _ ((h2.2.2.2 e).2 n cap h3 h4)⟩⟩
 .simp only at *
  split at h2
  .exact⟨h2.1,h2.2.1,h2.2.2.1,h2.2.2.2.1,fun n cap h3 h4=>hm _ _ (h2.2.2.2.2 n cap h3 h4)⟩
  .exact h2.elim
def HQ {o:Option V} {d:Int} {k k':Int->Prop} (h:Nr o d k) (hm: ∀v,k v->k' v):Nr o d k':=by
 unfold Nr at *;split at h
 .exact hm _ h
 .exact hm _ h
 .exact h.elim
def WE {sz:Nat} {x:V} {a b c:Option V} {k k':V->AH->Prop} (h:AP σ sz x a b c k) (hm: ∀v σ',k v σ'->k' v σ'):AP σ sz x a b c k':=by
 unfold AP at *;cases x<;>first|exact h.elim|skip
 .simp only at *
  refine⟨h.1,HQ h.2 fun hh h2=>HQ h2 fun l h3=>⟨h3.1,h3.2.1,h3.2.2.1,?_⟩⟩;have h4:=h3.2.2.2;split at h4
  .exact hm _ _ h4
  .exact⟨h4.1,hm _ _ h4.2⟩
  .exact h4.elim
 .simp only at *
  refine HQ h fun hh h2=>HQ h2 fun l h3=>⟨h3.1,h3.2.1,h3.2.2.1,?_⟩
  have h4:=h3.2.2.2;split at h4
  .exact hm _ _ h4
  .refine⟨h4.1,h4.2.1,h4.2.2.1,?_⟩
   have h5:=h4.2.2.2;split at h5
   .exact⟨h5.1,h5.2.1,h5.2.2.1,h5.2.2.2.elim (fun h=> .inl (hm _ _ h)) fun h=> .inr (hm _ _ h)⟩
   .exact h5.elim
  .exact h4.elim
 .simp only at *
  exact HQ h fun hh h2=>HQ h2 fun l h3=>⟨h3.1,h3.2.1,h3.2.2.1,h3.2.2.2.1,h3.2.2.2.2.1,hm _ _ h3.2.2.2.2.2⟩
def RG {sz:Nat} {ys:List (List V)} {n off len:Nat} {k k':V->AH->Prop} (h:OE σ sz ys n off len k) (hm: ∀v σ',k v σ'->k' v σ'):OE σ sz ys n off len k':=by
 unfold OE at *;split at h
 .exact⟨h.1,h.2.1,hm _ _ h.2.2⟩
 .exact h.elim
def Xp {sz:Nat} {x y:V} {k k':V->AH->Prop} (h:Aa σ sz x y k) (hm: ∀v σ',k v σ'->k' v σ'):Aa σ sz x y k':=by
 refine FP h fun ys h=>⟨h.1,?_⟩
 have h:=h.2;split at h
 .exact RG h hm
 .exact⟨h.1,RG h.2 hm⟩
 .exact h.elim
def PK {o:FY} {k k' kp kp':V->AH->Prop} (h:E5 P o env σ k kp) (hm: ∀v σ',k v σ'->k' v σ') (hp: ∀v σ',kp v σ'->kp' v σ'):E5 P o env σ k' kp':=by
 by_cases hs:still o=true
 .obtain⟨v,h1,h2⟩:=HZ hs h
  exact h2 σ k' kp' (.inr fun _ _ h=>h) (hm _ _ h1)
 .cases o<;>first|(exact absurd rfl hs)|skip
  all_goals simp only[E5]at *
  case box x=>
   refine Bm h fun v h=>?_
   split at h
   .exact fun n hn=>hm _ _ (h n hn)
   .exact h.elim
  case alloc z=>exact fun n hn=>hm _ _ (h n hn)
  case jW x=>exact Bm h fun v ⟨vf,σ2,h1,h2,h3⟩=>⟨vf,σ2,h1,h2,hm _ _ h3⟩
  case M5=>exact fun n hn=>hm _ _ (h n hn)
  case D8 ks x y z=>
   refine Bm h fun vm h=>Bm h fun vk h=>Bm h fun vx h=>?_
   unfold AO at *;obtain⟨h0,h⟩:=h;cases vm<;>first|exact h.elim|skip
   simp only at *;split at h
   .exact⟨h0,h.1,hm _ _ h.2⟩
   .exact h.elim
  case cZ q n x=>
   refine Bm h fun vx h=>?_
   unfold IU at *;split at h<;>first|exact h.elim|exact hm _ _ h|exact⟨fun e t=>hm _ _ (h.1 e t),fun e=>hm _ _ (h.2 e)⟩
  case Fj a b c x y=>
   refine Bm h fun vx h=>Bm h fun vy h=>?_
   unfold AL at *;split at h
   .exact⟨h.1,h.2.1,h.2.2.1,fun id hn=>hm _ _ (h.2.2.2 id hn)⟩
   .exact h.elim
  case store sz a x=>exact Bm h fun va h=>Bm h fun vx h=>WB h fun σ' h=>hm _ _ h
  case slice sz x a b c=>exact Bm h fun vx h=>Sr h fun l h=>Sr h fun hh h=>Sr h fun m h=>WE h hm
  case append sz b x y=>exact Bm h fun vx h=>Bm h fun vy h=>Lq h hm
  case copy sz x y=>exact Bm h fun vx h=>Bm h fun vy h=>Xp h hm
  case inv tab x as=>exact Bm h fun vx h=>Kx h fun vs h=>h.mono fun r σ' h=>by cases r<;>first|exact hm _ _ h|exact hp _ _ h
  case panic x=>
   refine Bm h fun vx h=>?_
   split at h
   .exact hp _ _ h
   .exact h.elim
  case call f as=>exact Kx h fun vs h=>h.mono fun r σ' h=>by cases r<;>first|exact hm _ _ h|exact hp _ _ h
  case Ie x as=>
   exact Bm h fun vx h=>Kx h fun vs h=>h.mono fun r σ' h=>by cases r<;>first|exact hm _ _ h|exact hp _ _ h
def GU {n:Nat} {o:O} (hn:σ n=none):Sub σ (A6 σ n o):=fun m p hp=>by
 unfold A6;split
 .rename_i e
  subst e;rw[hn]at hp;cases hp
 .exact hp
def calm (o:FY):Bool:=match kd o with| .H=>false|_=>true
def NL {b sz:Nat} {y:V} {k:V->AH->Prop}:AM b σ sz (.l [] true) y k=rowsOf σ sz y fun ys=>(∀e∈ys,∀v∈e,CA v=true)/\(ys.length<=Ay/\ys.length*b<=140737488355328)/\(ys= []->k (.l [] true) σ)/\
 (ys≠[]-> ∀n cap,σ n=none->ys.length<=cap->k (.sl n ys.length cap) (A6 σ n (.arr sz ys cap))):=by
 simp[AM]
def ND {s:Nat} {x:Bg} {a b c:Option Bg} (h:calm (.slice s x a b c)=true):still (.slice s x a b c)=true:=by
 cases c with
 | none=>rfl
 | some c=>cases h
def RF {a b:Nat} {x y:Bg} (h:kd (.append a b x y)≠ .H):x= .c (.l [] true):=by
 simp only[kd]at h;split at h
 .rfl
 .exact absurd rfl h
def Zk {o:FY} (hc:calm o=true) {k kp:V->AH->Prop} (h:E5 P o env σ k kp):E5 P o env σ (fun v σ'=>k v σ'/\Sub σ σ') kp:=by
 by_cases hs:still o=true
 .obtain⟨v,h1,h2⟩:=HZ hs h
  exact h2 σ _ kp (.inr fun _ _ h=>h) ⟨h1,fun _ _ h=>h⟩
 .cases o<;>first|(exact absurd rfl hs)|(cases hc;done)|skip
  all_goals simp only[E5]at *
  case slice s x a b c=>exact absurd (ND hc) hs
  case box x=>
   refine Bm h fun v h=>?_
   split at h
   .exact fun n hn=>⟨h n hn,GU hn⟩
   .exact h.elim
  case alloc z=>exact fun n hn=>⟨h n hn,GU hn⟩
  case append sz b x y=>
   have hx:x= .c (.l [] true):=RF (b:=b) (a:=sz) (y:=y) (by intro e;simp[calm,e]at hc);subst hx;change wv (ev env y) _ at h;change wv (ev env y) _;refine Bm h fun vy h=>?_
   rw[NL]at *;exact FP h fun ys h=>⟨h.1,h.2.1,fun e=>⟨h.2.2.1 e,fun _ _ h=>h⟩,fun e n cap h3 h4=>⟨h.2.2.2 e n cap h3 h4,GU h3⟩⟩
def Ov {n m:Nat} (h:n≠m) (a b:O):A6 (A6 σ n a) m b=A6 (A6 σ m b) n a:=by
 funext k;unfold A6;by_cases h1:k=m
 .have h2:k≠n:=fun e=>h (e.symm.trans h1)
  rw[if_pos h1,if_neg h2,if_pos h1]
 .rw[if_neg h1,if_neg h1]
def Jz {n m:Nat} (h:n≠m) {a:O}:A6 σ n a m=σ m:=by
 unfold A6;rw[if_neg (fun e=>h e.symm)]
def MB {n:Nat} {a:O}:A6 σ n a n=some a:=by simp[A6]
def XY {σ':AH} (hs:Sub σ σ') {sz:Nat} {y:V} {k:List (List V)->Prop} (h:rowsOf σ sz y k):rowsOf σ' sz y k:=by
 unfold rowsOf at *;cases y<;>first|exact h.elim|exact h|skip
 .rename_i m len cap
  simp only at *;cases hm:σ m with
  | none=>rw[hm]at h;exact h.elim
  | some o=>rw[hm]at h;rw[hs m o hm];exact h
 .rename_i m s off len
  simp only at *;cases hm:σ m with
  | none=>rw[hm]at h;exact h.elim
  | some o=>rw[hm]at h;rw[hs m o hm];exact h
def Vp {o:FY} (hc:calm o=true) {k kp:V->AH->Prop} (h:E5 P o env σ k kp) {m:Nat} {z:O} (hm:σ m=none) :
    E5 P o env (A6 σ m z) (fun v σ2=> ∃σ1,k v σ1/\σ1 m=none/\σ2=A6 σ1 m z) kp:=by
 by_cases hs:still o=true
 .obtain⟨v,h1,h2⟩:=HZ hs h
  exact h2 _ _ kp (.inr (GU hm)) ⟨σ,h1,hm,rfl⟩
 .have hne: ∀n,A6 σ m z n=none->σ n=none/\n≠m:=fun n hn=>by
   have:n≠m:=fun e=>by rw[e,MB]at hn;cases hn
   exact⟨by rwa [Jz this.symm]at hn,this⟩
  cases o<;>first|(exact absurd rfl hs)|(cases hc;done)|skip
  all_goals simp only[E5]at *
  case slice s x a b c=>exact absurd (ND hc) hs
  case box x=>
   refine Bm h fun v h=>?_
   split at h
   .exact fun n hn=>⟨_,h n (hne n hn).1,by rw[Jz (hne n hn).2];exact hm,Ov (hne n hn).2.symm _ _⟩
   .exact h.elim
  case alloc z'=>exact fun n hn=>⟨_,h n (hne n hn).1,by rw[Jz (hne n hn).2];exact hm,Ov (hne n hn).2.symm _ _⟩
  case append sz b x y=>
   have hx:x= .c (.l [] true):=RF (b:=b) (a:=sz) (y:=y) (by intro e;simp[calm,e]at hc);subst hx;change wv (ev env y) _ at h;change wv (ev env y) _;refine Bm h fun vy h=>?_
   rw[NL]at *;refine FP (XY (GU hm) h) fun ys h=>⟨h.1,h.2.1,fun e=>⟨σ,h.2.2.1 e,hm,rfl⟩,fun e n cap h3 h4=>?_⟩
   exact⟨_,h.2.2.2 e n cap (hne n h3).1 h4,by rw[Jz (hne n h3).2];exact hm,Ov (hne n h3).2.symm _ _⟩
def W9:FY->Bool| .call _ _=>true|_=>false
def Vq {o:FY} (hc:W9 o=true) {k kp:V->AH->Prop} (hU: ∀v σ m z,σ m=none->kp v σ->kp v (A6 σ m z)) (h:E5 P o env σ k kp) {m:Nat} {z:O} (hm:σ m=none) :
    E5 P o env (A6 σ m z) (fun v σ2=> ∃σ1,k v σ1/\σ1 m=none/\σ2=A6 σ1 m z) kp:=by
 cases o<;>first|(cases hc;done)|skip
 rename_i f args;simp only[E5]at *;refine Kx h fun vs h=>?_
 have hr:GN (A6 σ m z) (fun n=>n≠m)=σ:=by
  funext n;by_cases hn:n=m
  .subst hn;rw[DK (fun h=>h rfl),hm]
  .rw[DD hn];simp[A6,hn]
 have h':As P f vs (GN (A6 σ m z) fun n=>n≠m) (qk k kp):=by rw[hr];exact h
 refine As.mono (As.frame (fun n=>n≠m) h') fun r σ' ⟨σ1,hq,hfr,he⟩=>?_
 have h1:σ1 m=none:=hfr m (fun h=>h rfl) (by rw[MB];simp)
 have h2:σ'=A6 σ1 m z:=by
  rw[he];funext n;simp only[join];by_cases hn:n=m
  .subst hn
   rw[h1];simp only;rw[DD (fun h=>h rfl),MB,MB]
  .rw[DK (fun h=>h hn)]
   cases hs:σ1 n with
   | none=>simp[A6,hn,hs]
   | some o=>simp[A6,hn,hs]
 cases r with
 | ret v=>exact⟨σ1,hq,h1,h2⟩
 | BZ v=>rw[h2];exact hU _ _ _ _ h1 hq
structure Aq where
 dst:Option Nat
 op:FY
 guard:Option (Nat×Bool)
 deriving Inhabited
def put (d:Option Nat) (v:V) (env:Env):Env:=match d with|some d=>(d,v)::env|none=>env
def Hg (P:Program) (o:Aq) (env:Env) (σ:AH) (k kp:V->AH->Prop):Prop:=
 match o.guard with
 | none=>E5 P o.op env σ k kp
 | some (g,b)=>match get g env with
   | some (.b t)=>(t=b->E5 P o.op env σ k kp)/\(t= !b->k (.t []) σ)
   | some (.t [])=>k (.t []) σ
   | _=>False
def looks (o:Aq):List Nat:=reads o.op++(match o.guard with|some (g,_)=>[g]|none=>[])
def Fv {o:Aq} {k kp:V->AH->Prop} (h: ∀s∈looks o,get s env'=get s env):Hg P o env' σ k kp=Hg P o env σ k kp:=by
 unfold Hg;unfold looks at h;cases hg:o.guard with
 | none=>exact Rx fun s hs=>h s (NU _ hs)
 | some p=>
   obtain⟨g,b⟩:=p;simp only;rw[h g (by rw[hg];simp),Rx fun s hs=>h s (NU _ hs)]
def B9 {o:Aq} {k k' kp kp':V->AH->Prop} (h:Hg P o env σ k kp) (hm: ∀v σ',k v σ'->k' v σ') (hp: ∀v σ',kp v σ'->kp' v σ'):Hg P o env σ k' kp':=by
 unfold Hg at *;split at h
 .exact PK h hm hp
 .split at h
  .exact⟨fun e=>PK (h.1 e) hm hp,fun e=>hm _ _ (h.2 e)⟩
  .exact hm _ _ h
  .exact h.elim
def Ry {o:Aq} (hs:still o.op=true) {k kp:V->AH->Prop} (h:Hg P o env σ k kp) :
    ∃v,k v σ/\ ∀σ' (k' kp':V->AH->Prop),(kd o.op= .P\/Sub σ σ')->k' v σ'->Hg P o env σ' k' kp':=by
 unfold Hg at *;split at h
 .obtain⟨v,h1,h2⟩:=HZ hs h
  exact⟨v,h1,fun σ' k' kp' hσ hk=>h2 σ' k' kp' hσ hk⟩
 .rename_i g b hg
  split at h
  .rename_i t ht
   skip
   by_cases htb:t=b
   .obtain⟨v,h1,h2⟩:=HZ hs (h.1 htb)
    refine⟨v,h1,fun σ' k' kp' hσ hk=>?_⟩;exact⟨fun _=>h2 σ' k' kp' hσ hk,fun e=>absurd (htb.symm.trans e) (by cases b<;>simp)⟩
   .refine⟨.t [],h.2 (by cases t<;>cases b<;>simp_all),fun σ' k' kp' hσ hk=>?_⟩
    exact⟨fun e=>absurd e htb,fun _=>hk⟩
  .exact⟨.t [],h,fun σ' k' kp' hσ hk=>hk⟩
  .exact h.elim
def Zl {o:Aq} (hc:calm o.op=true) {k kp:V->AH->Prop} (h:Hg P o env σ k kp):Hg P o env σ (fun v σ'=>k v σ'/\Sub σ σ') kp:=by
 unfold Hg at *;split at h
 .exact Zk hc h
 .split at h
  .exact⟨fun e=>Zk hc (h.1 e),fun e=>⟨h.2 e,fun _ _ h=>h⟩⟩
  .exact⟨h,fun _ _ h=>h⟩
  .exact h.elim
def jK {o:Aq} (hc:calm o.op=true) {k kp:V->AH->Prop} (h:Hg P o env σ k kp) {m:Nat} {z:O} (hm:σ m=none) :
    Hg P o env (A6 σ m z) (fun v σ2=> ∃σ1,k v σ1/\σ1 m=none/\σ2=A6 σ1 m z) kp:=by
 unfold Hg at *;split at h
 .exact Vp hc h hm
 .split at h
  .exact⟨fun e=>Vp hc (h.1 e) hm,fun e=>⟨σ,h.2 e,hm,rfl⟩⟩
  .exact⟨σ,h,hm,rfl⟩
  .exact h.elim
def YP (o:FY):Bool:=calm o||W9 o
def cM {o:Aq} (hc:YP o.op=true) {k kp:V->AH->Prop} (hU: ∀v σ m z,σ m=none->kp v σ->kp v (A6 σ m z)) (h:Hg P o env σ k kp) {m:Nat} {z:O} (hm:σ m=none) :
    Hg P o env (A6 σ m z) (fun v σ2=> ∃σ1,k v σ1/\σ1 m=none/\σ2=A6 σ1 m z) kp:=by
 cases hc':calm o.op with
 | true=>exact jK hc' h hm
 | false=>
   have hc2:W9 o.op=true:=by simpa[YP,hc']using hc
   unfold Hg at *;split at h
   .exact Vq hc2 hU h hm
   .split at h
    .exact⟨fun e=>Vq hc2 hU (h.1 e) hm,fun e=>⟨σ,h.2 e,hm,rfl⟩⟩
    .exact⟨σ,h,hm,rfl⟩
    .exact h.elim
end Go.Gl
namespace Go.Gl
variable {P:Program} {Λ:Nat->Prop} {env env':Env} {σ:AH}
structure CZ where
 i:Nat
 o:Aq
 oX:List Nat
 re:List Aq
 deriving Inhabited
def AI (x:Aq):List Nat:=(match x.dst with|some d=>[d]|none=>[])++looks x
def HF (P:Program) (x:Aq) (env:Env) (σ:AH):Prop:=Hg P x env σ (fun u _=> ∀s,x.dst=some s->get s env=some u) (fun _ _=>False)
def ED (P:Program):List Aq->Env->AH->Prop
 | [],_,_=>True
 | x::r,env,σ=>HF P x env σ/\ED P r env σ
def ED.mem: ∀ {l:List Aq},ED P l env σ-> ∀x∈l,HF P x env σ
 | _::_,h,_,.head _=>h.1
 | _::_,h,x,.tail _ hx=>ED.mem h.2 x hx
def DC (P:Program):List CZ->(Env->AH->Prop)->(V->AH->Prop)->Env->AH->Prop
 | [],K,_,env,σ=>K env σ
 | d::r,K,kp,env,σ=>Hg P d.o env σ (fun v σ'=>ED P d.re (put d.o.dst v env) σ'/\DC P r K kp (put d.o.dst v env) σ') kp
def jT (env env':Env):Prop:= ∀s,get s env=get s env'
def CO {s:Nat} {d:Option Nat} {v:V} (h:d≠some s):get s (put d v env)=get s env:=by
 cases d with
 | none=>rfl
 | some d=>
   simp only[put,get];cases hb:Nat.beq d s with
   | false=>rfl
   | true=>exact absurd (by rw[Ti hb]) h
def EI {s:Nat} {v:V}:get s (put (some s) v env)=some v:=by simp[put,get]
def jT.put {d:Option Nat} {v:V} (h:jT env env'):jT (Gl.put d v env) (Gl.put d v env'):=fun s=>by
 by_cases hd:d=some s
 .subst hd
  rw[EI,EI]
 .rw[CO hd,CO hd,h]
def iQ {d e:Option Nat} {v u:V} (h: ∀s,d=some s->e≠some s):jT (Gl.put d v (Gl.put e u env)) (Gl.put e u (Gl.put d v env)):=fun s=>by
 by_cases hd:d=some s
 .subst hd
  rw[EI,CO (h s rfl),EI]
 .rw[CO hd]
  by_cases he:e=some s
  .subst he
   rw[EI,EI]
  .rw[CO he,CO he,CO hd]
def NS {x:Aq} (h: ∀s∈AI x,get s env'=get s env) (hr:HF P x env σ):HF P x env' σ:=by
 unfold HF at *;rw[Fv (env:=env) fun s hs=>h s (M0 _ hs)];refine B9 hr (fun v σ' hv s hs=>?_) fun _ _ h=>h
 rw[h s (NU _ (by rw[hs];simp))];exact hv s hs
def Lw: ∀ {l:List Aq},(∀s,get s env'=get s env)->ED P l env σ->ED P l env' σ
 | [],_,_=>trivial
 | _::_,h,hr=>⟨NS (fun s _=>h s) hr.1,Lw h hr.2⟩
section
variable {K:Env->AH->Prop} {kp:V->AH->Prop}
def JV (U: ∀env env' σ,jT env env'->K env σ->K env' σ): ∀ {l:List CZ} {env env':Env} {σ:AH},jT env env'->DC P l K kp env σ->DC P l K kp env' σ
 | [],_,_,_,hg,h=>U _ _ _ hg h
 | d::r,env,env',σ,hg,h=>by
   simp only[DC]at *;rw[Fv (env:=env) fun s _=>(hg s).symm];exact B9 h (fun v σ' ⟨h1,h2⟩=>⟨Lw (fun s=>(hg.put s).symm) h1,JV U hg.put h2⟩) fun _ _ h=>h
def oR (x y:Aq):Prop:=(∀d,x.dst=some d->d∉looks y/\y.dst≠some d)/\ ∀d,y.dst=some d->d∉looks x
def fresh (y x:Aq):Prop:= ∀d,y.dst=some d->d∉AI x
def w7 (x y:CZ):Prop:=x.re= []/\oR x.o y.o/\
 ((still x.o.op=true/\calm y.o.op=true)\/kd x.o.op= .P\/(still x.o.op=true/\x.o∈y.re/\ ∀d,x.o.dst=some d->d∉looks x.o)\/(YP x.o.op=true/\y.re= []/\y.o.guard=none/\ ∃z,y.o.op= .alloc z))
def fZ (hU: ∀v σ m z,σ m=none->kp v σ->kp v (A6 σ m z)) (U: ∀env env' σ,jT env env'->K env σ->K env' σ) {i:CZ} {ys:List CZ}: ∀ {xs:List CZ},(∀x∈xs,w7 x i)->xs.Pairwise (fun x y=>kd x.o.op= .N->fresh y.o x.o)->
    ∀ {env:Env} {σ:AH},DC P (xs++i::ys) K kp env σ->
    Hg P i.o env σ (fun u σ'=>(∀r∈i.re,(∀x∈xs,fresh x.o r)->HF P r (put i.o.dst u env) σ')/\DC P (xs++ys) K kp (put i.o.dst u env) σ') kp
 | [],_,_,env,σ,h=>B9 h (fun u σ' ⟨h1,h2⟩=>⟨fun r hr _=>h1.mem r hr,h2⟩) fun _ _ h=>h
 | x ::xs,hok,hpw,env,σ,h=>by
   simp only[List.cons_append,DC]at h;obtain⟨hpw1,hpw2⟩:=List.pairwise_cons.1 hpw;obtain⟨hre,⟨ha1,ha2⟩,hk⟩:=hok x (.head _)
   have h':Hg P x.o env σ (fun v σ1=>Hg P i.o (put x.o.dst v env) σ1 (fun u σ'=>(∀r∈i.re,(∀x∈xs,fresh x.o r)->HF P r (put i.o.dst u (put x.o.dst v env)) σ')/\DC P (xs++ys) K kp (put i.o.dst u (put x.o.dst v env)) σ') kp) kp:=
    B9 h (fun v σ1 hh=>fZ hU U (fun y hy=>hok y (.tail _ hy)) hpw2 hh.2) fun _ _ h=>h
   have agx: ∀v,∀s∈looks i.o,get s (put x.o.dst v env)=get s env:=fun v s hs=>CO fun e=>(ha1 s e).1 hs
   have agi: ∀(env:Env) u,∀s∈looks x.o,get s (put i.o.dst u env)=get s env:=fun env u s hs=>CO fun e=>ha2 s e hs
   have hcm: ∀v u,jT (put i.o.dst u (put x.o.dst v env)) (put x.o.dst v (put i.o.dst u env)):=fun v u=>iQ fun s hs hx=>(ha1 s hx).2 hs
   have hRE: ∀v u σ',(∀r∈i.re,(∀x∈xs,fresh x.o r)->HF P r (put i.o.dst u (put x.o.dst v env)) σ')-> ∀r∈i.re,(∀y∈x::xs,fresh y.o r)->HF P r (put i.o.dst u env) σ':=fun v u σ' hh r hr hf=>by
    refine NS (fun s hs=>?_) (hh r hr fun y hy=>hf y (.tail _ hy));rw[hcm v u s,CO fun e=>hf x (.head _) s e hs]
   by_cases hst:still x.o.op=true
   .obtain⟨v,hi,hd⟩:=Ry hst h'
    have fin: ∀u σ',(kd x.o.op= .P\/Sub σ σ')->(∀r∈i.re,(∀x∈xs,fresh x.o r)->HF P r (put i.o.dst u (put x.o.dst v env)) σ')->DC P (xs++ys) K kp (put i.o.dst u (put x.o.dst v env)) σ'->
     (∀r∈i.re,(∀y∈x::xs,fresh y.o r)->HF P r (put i.o.dst u env) σ')/\DC P (x::xs++ys) K kp (put i.o.dst u env) σ':=fun u σ' hs h1 h2=>by
     refine⟨hRE v u σ' h1,?_⟩;simp only[List.cons_append,DC];rw[Fv (env:=env) (agi env u)];exact hd σ' _ _ hs ⟨by rw[hre];trivial,JV U (hcm v u) h2⟩
    rw[Fv (env:=env) (agx v)]at hi;rcases hk with⟨_,hc⟩|F|⟨_,hm,hself⟩|⟨_,_,hg,z,hz⟩
    .exact B9 (Zl hc hi) (fun u σ' ⟨⟨h1,h2⟩,hs⟩=>fin u σ' (.inr hs) h1 h2) fun _ _ h=>h
    .exact B9 hi (fun u σ' ⟨h1,h2⟩=>fin u σ' (.inl F) h1 h2) fun _ _ h=>h
    .by_cases F:kd x.o.op= .P
     .exact B9 hi (fun u σ' ⟨h1,h2⟩=>fin u σ' (.inl F) h1 h2) fun _ _ h=>h
     have hN:kd x.o.op= .N:=by
      unfold still at hst;cases hkk:kd x.o.op<;>rw[hkk]at hst<;>simp_all
     refine B9 hi (fun u σ' ⟨h1,h2⟩=>⟨hRE v u σ' h1,?_⟩) fun _ _ h=>h
     have hr:=h1 x.o hm fun y hy=>hpw1 y hy hN
     unfold HF at hr;obtain⟨v',hv',hd'⟩:=Ry hst hr;simp only[List.cons_append,DC]
     have hsame: ∀s∈looks x.o,get s (put i.o.dst u env)=get s (put i.o.dst u (put x.o.dst v env)):=fun s hs=>by
      rw[agi env u s hs,agi _ u s hs];by_cases hxs:x.o.dst=some s
      .exact absurd hs (hself s hxs)
      .rw[CO hxs]
     rw[Fv (env:=put i.o.dst u (put x.o.dst v env)) hsame];refine hd' σ' _ kp (.inr fun _ _ h=>h) ⟨by rw[hre];trivial,?_⟩
     have hvv:put x.o.dst v' (put i.o.dst u env)=put x.o.dst v (put i.o.dst u env):=by
      cases hxd:x.o.dst with
      | none=>rfl
      | some s=>
        have e:=hv' s hxd;rw[CO (ha1 s hxd).2,hxd,EI]at e;cases e;rfl
     rw[hvv];exact JV U (hcm v u) h2
    .have hc:calm i.o.op=true:=by rw[hz];rfl
     exact B9 (Zl hc hi) (fun u σ' ⟨⟨h1,h2⟩,hs⟩=>fin u σ' (.inr hs) h1 h2) fun _ _ h=>h
   .rcases hk with⟨hst',_⟩|F|⟨hst',_,_⟩|⟨hcx,hir,hg,z,hz⟩
    .exact absurd hst' hst
    .exact absurd (by unfold still;rw[F]) hst
    .exact absurd hst' hst
    .unfold Hg
     rw[hg];simp only[hz,E5];intro m hm;refine⟨fun r hr=>(by rw[hir]at hr;exact absurd hr (by simp)),?_⟩;simp only[List.cons_append,DC];rw[Fv (env:=env) (agi env _)];refine B9 (cM hcx hU h' (z:= .cs z) hm) (fun v σ2 ⟨σ1,hh,h1,h2⟩=>?_) fun _ _ h=>h
     unfold Hg at hh;rw[hg]at hh;simp only[hz,E5]at hh;subst h2;exact⟨by rw[hre];trivial,JV U (hcm v _) (hh m h1).2⟩
end
end Go.Gl
