import Derived.DeepKeys3
import Derived.StringKeys
import Derived.Test.YtegbmnmnaijioaaGreatQ2
set_option linter.all false
set_option linter.defProp false
set_option maxHeartbeats 8000000
noncomputable section
namespace Go.Gl
variable {P:Program} {F:Nat->Prop} {Z:AE} {w:World} {k kp:V->AE->Prop}
structure KL (P:Program) (kt:TypeId) (ok:Value->Prop):Prop where
 check: ∀(w:World) (em:Bool) {v:Value},ok v->(Instr.checkKey em 10000 kt v).run P w= .ok () w
 find: ∀(w:World) {x:Value},ok x-> ∀es:List MapEntry,(∀e∈es,ok e.key)->
  ((Instr.findKey kt x es).run P w= .ok none w/\ ∀e∈es,e.key≠x)\/ ∃j e,(Instr.findKey kt x es).run P w= .ok (some (j,e.val)) w/\es[j]? =some e/\e.key=x
 stays: ∀(w:World) {v:Value},ok v->(Instr.keyThatStays v v).run P w= .ok v w
def KL.of_law {kt:TypeId} (K:WideMaps.KeyLaw P kt):KL P kt fun v=> ∃l,keyOf P kt v=some l where
 check w em _ h:=let⟨_,h⟩:=h;K.check w em h
 find w _ h es hes:=let⟨_,h⟩:=h;K.find w h es hes
 stays w _ h:=let⟨_,h⟩:=h;K.stays w h
def O6 {q:IntKind} {ki:IntKind} (a:Int): ∀(es:List MapEntry) (i:Nat),(∀e∈es,∃b,e.key= .int ki b)->
    (Instr.findNow (.int q) (.int ki a) es i=some none/\ ∀e∈es,e.key≠ .int ki a)\/ ∃j e,Instr.findNow (.int q) (.int ki a) es i=some (some (i+j,e.val))/\es[j]? =some e/\e.key= .int ki a
 | [],i,_=> .inl ⟨rfl,by simp⟩
 | e ::es,i,h=>by
   obtain⟨b,hb⟩:=h e (.head _);simp only[Instr.findNow,hb,Instr.sameNow,if_true];by_cases hab:a=b
   .subst hab
    refine .inr ⟨0,e,by simp,rfl,hb⟩
   .have:(a==b)=false:=by simpa using hab
    rw[this];rcases O6 a es (i+1) (fun e he=>h e (.tail _ he))with⟨h1,h2⟩|⟨j,e',h1,h2,h3⟩
    .refine .inl ⟨h1,fun e' he'=>?_⟩
     rcases GR.1 he' with rfl|he'
     .rw[hb];intro e;cases e;exact hab rfl
     .exact h2 e' he'
    .exact .inr ⟨j+1,e',by rw[h1,show i+1+j=i+(j+1) by omega],h2,h3⟩
def fO {kt:TypeId} {q:IntKind} (hu:P.underlying kt=some (.int q)) (em:Bool) (n:Nat) (ki:IntKind) (b:Int):(Instr.checkKey em (n+1) kt (.int ki b)).run P w= .ok () w:=by
 simp only[Instr.checkKey,DU,BK hu,G3,E8]
def KL.int {kt:TypeId} {q:IntKind} (hu:P.underlying kt=some (.int q)) (ki:IntKind):KL P kt fun v=> ∃b,v= .int ki b where
 check w em v h:=by
  obtain⟨b,rfl⟩:=h;exact fO hu em 9999 ki b
 find w x h es hes:=by
  obtain⟨b,rfl⟩:=h;unfold Instr.findKey;simp only[DU,BK hu,G3];rcases O6 (q:=q) b es 0 hes with⟨h1,h2⟩|⟨j,e,h1,h2,h3⟩
  .exact .inl ⟨by rw[h1];rfl,h2⟩
  .exact .inr ⟨j,e,by rw[h1,G8];rfl,h2,h3⟩
 stays w v h:=by
  obtain⟨b,rfl⟩:=h;unfold Instr.keyThatStays;have:Instr.sameBits 10000 (.int ki b) (.int ki b)=true:=by simp[Instr.sameBits]
  rw[this];rfl
def Ints (cs cs':List Value):Prop:=cs.length=cs'.length/\ ∀(i:Nat) (a:Value),cs[i]? =some a-> ∃(q:IntKind) (n m:Int),a=Value.int q n/\cs'[i]? =some (Value.int q m)/\(Lit.int q m).wf=true
def Ints.part {cs cs':List Value} (h:Ints cs cs') (o n:Nat):Ints ((cs.drop o).take n) ((cs'.drop o).take n):=by
 refine⟨by simp[h.1],fun i a ha=>?_⟩;rw[List.getElem?_take]at ha ⊢;split at ha
 .rename_i hi
  rw[if_pos hi];rw[y4]at ha ⊢;exact h.2 _ _ ha
 .cases ha
def U9 {α β:Type} {f g:α->Option β}: ∀ {l:List α} {ys:List β},(∀x∈l,∀y,f x=some y-> ∃y',g x=some y')->l.mapM f=some ys-> ∃ys',l.mapM g=some ys'
 | [],_,_,_=>⟨[],by simp⟩
 | x::l,ys,h,hm=>by
   rw[List.mapM_cons]at hm;simp only[bind,Option.bind_eq_some_iff,pure,JD]at hm;obtain⟨y,h1,ys',h2,rfl⟩:=hm;obtain⟨y',h3⟩:=h x (.head _) y h1;obtain⟨ys'',h4⟩:=U9 (fun x hx=>h x (.tail _ hx)) h2;exact⟨y'::ys'',by rw[List.mapM_cons];simp[h3,h4]⟩
def Lr: ∀(D:Nat) (t:TypeId) {cs cs':List Value} {l:List Lit},Ints cs cs'->P.keyLits D t cs=some l-> ∃l',P.keyLits D t cs'=some l'
 | 0,_,_,_,_,_,h=>by simp[Program.keyLits]at h
 | D + 1,t,cs,cs',l,hi,h=>by
   unfold Program.keyLits at h ⊢;split at h
   .rename_i b _
    obtain⟨q,n,m,e,_⟩:=hi.2 0 _ rfl;cases e
   .rename_i q q' n hu
    obtain⟨q2,n2,m,e,e2,e3⟩:=hi.2 0 _ rfl;cases e;have hl:cs'.length=1:=hi.1.symm
    match cs',hl,e2 with
    | [c],_,e2=>
      simp only[sP,JD]at e2;subst e2;split at h
      .rename_i hq
       obtain⟨rfl,_⟩:=hq;simp only[hu];exact⟨_,if_pos ⟨trivial,e3⟩⟩
      .cases h
   .obtain⟨q,n,m,e,_⟩:=hi.2 0 _ rfl
    cases e
   .rename_i n e hu
    simp only[hu];split at h
    .rename_i hl
     rw[if_pos (by rw[<-hi.1];exact hl)];obtain⟨ys,h1,_⟩:=Aj h;obtain⟨ys',h2⟩:=U9 (g:=fun i=>P.keyLits D e ((cs'.drop (i*P.cellsOf e)).take (P.cellsOf e))) (fun i _ y hy=>Lr D e (hi.part _ _) hy) h1;exact⟨_,by rw[h2];rfl⟩
    .cases h
   .rename_i fs hu
    simp only[hu];split at h
    .rename_i hl
     rw[if_pos (by rw[<-hi.1];exact hl)];obtain⟨ys,h1,_⟩:=Aj h;obtain⟨ys',h2⟩:=U9 (g:=fun f=>P.keyLits D f.type ((cs'.drop f.offset).take (P.cellsOf f.type))) (fun f _ y hy=>Lr D f.type (hi.part _ _) hy) h1;exact⟨_,by rw[h2];rfl⟩
    .cases h
   .cases h
def uR:V->Option IntKind| .i q _=>some q|_=>none
def VD:List V->Option (List IntKind)
 | []=>some []
 | c::cs=>match uR c,VD cs with|some q,some l=>some (q::l)|_,_=>none
def Vu (P:Program) (kt:TypeId):Option KS:=
 match P.underlying kt with
 | some (.int k)=>some (.i k)
 | some .string=>some .s
 | some (.array _ _)|some (.struct _)=>match zeroOf P kt with
   | some (.a cs)=>match VD cs with
     | some l=>if P.keyType kt&&P.keyTypeAt 6 kt&&P.tiled 6 kt&&(P.keyLits (P.types.size+1) kt (l.map fun q=> .int q 0)).isSome&&Nat.beq l.length (P.cellsOf kt)then some (.a l)else none
     | none=>none
   | _=>none
 | _=>none
def I2 {H:Nat->Nat->Option Value} {g:Nat->Option Value}: ∀ {l:List IntKind} {cs:List V} {o:Nat},Dl l cs=true->Ba H g o cs->
    cs.length=l.length/\ ∀(i:Nat) (q:IntKind),l[i]? =some q-> ∃m:Int,cs[i]? =some (.i q m)/\g (o+i)=some (.int q m)/\q.min<=m/\m<=q.max
 | [],[],_,_,_=>⟨rfl,by simp⟩
 | [],_::_,_,h,_=>by simp[Dl]at h
 | q::l,[],_,h,_=>by simp[Dl]at h
 | q ::l,c::cs,o,h,hv=>by
   cases c<;>simp only[Dl,L2]at h
   rename_i q' n;simp only[A9,Cc]at h;obtain⟨rfl,h⟩:=h;obtain⟨⟨c,h1,⟨rfl,h2⟩⟩,h3⟩:=hv;obtain⟨h4,h5⟩:=I2 h h3;refine⟨by simp[h4],fun i q' hq=>?_⟩;cases i with
   | zero=>simp only[sP,JD]at hq;subst hq;exact⟨n,rfl,h1,h2⟩
   | succ i=>
     obtain⟨m,h6,h7,h8⟩:=h5 i q' (by simpa using hq);exact⟨m,by simpa using h6,by rw[<-h7];congr 1;omega,h8⟩
def rh {kt:TypeId} {ks:KS} (h:Vu P kt=some ks): ∃ok,KL P kt ok/\ ∀(H:Nat->Nat->Option Value) (v:V) (c:Value),BW ks v=true->Ag H v c->ok c:=by
 unfold Vu at h
 have agg: ∀(hw:(match P.underlying kt with|some (.array _ _)|some (.struct _)=>true|_=>false)=true),(match zeroOf P kt with
  | some (.a cs)=>match VD cs with
    | some l=>if P.keyType kt&&P.keyTypeAt 6 kt&&P.tiled 6 kt&&(P.keyLits (P.types.size+1) kt (l.map fun q=>Value.int q 0)).isSome&&Nat.beq l.length (P.cellsOf kt)then some (.a l)else none
    | none=>none
  | _=>none)=some ks-> ∃ok,KL P kt ok/\ ∀(H:Nat->Nat->Option Value) (v:V) (c:Value),BW ks v=true->Ag H v c->ok c:=fun hw h=>by
  split at h
  .split at h
   .rename_i l _
    split at h
    .rename_i hc
     cases h;simp only[A9]at hc;obtain⟨⟨⟨⟨c1,c2⟩,c3⟩,c4⟩,c5⟩:=hc;refine⟨_,KL.of_law (deep_law (m:=6) (by omega) c2 c3 hw),fun H v c hv hr=>?_⟩;cases v<;>simp only[BW,L2]at hv
     rename_i cs;obtain⟨c',rfl,h1,h2⟩:=hr;obtain⟨h3,h4⟩:=I2 hv h2;have hsz:c'.size=P.cellsOf kt:=by rw[h1,h3];exact Vj c5
     obtain⟨L,hL⟩:=Option.isSome_iff_exists.1 c4
     obtain⟨L',hL'⟩:=Lr (P:=P) (P.types.size+1) kt (cs:=l.map fun q=>Value.int q 0) (cs':=c'.toList) ⟨by simp[h1,h3],fun i a ha=>by
      rw[Je]at ha;obtain⟨q,hq,rfl⟩:=Aj ha;obtain⟨m,_,h6,h7⟩:=h4 i q hq
      refine⟨q,0,m,rfl,by simpa using h6,by simpa[Lit.wf]using h7⟩⟩ hL
     have hf:(Value.agg c').formed P kt=true:=by
      unfold Value.formed;split at hw<;>simp_all
     refine⟨.string (keyBytes L'),?_⟩;unfold keyOf;split at hw
     .rename_i hu;simp only[hu,c1,hf,Bool.and_self,if_true];show Option.map _ (P.keyLits _ kt c'.toList)=_;rw[hL'];rfl
     .rename_i hu;simp only[hu,c1,hf,Bool.and_self,if_true];show Option.map _ (P.keyLits _ kt c'.toList)=_;rw[hL'];rfl
     .cases hw
    .cases h
   .cases h
  .cases h
 split at h
 .rename_i q0 hu
  cases h;refine⟨_,KL.int hu q0,fun H v c hv hr=>?_⟩;cases v<;>simp only[BW,L2]at hv
  rename_i q n;obtain⟨rfl,_⟩:=hr;have:=of_decide_eq_true hv;subst this;exact⟨n,rfl⟩
 .rename_i hu
  cases h;refine⟨_,KL.of_law (WideMaps.string_law hu),fun H v c hv hr=>?_⟩;cases v<;>simp only[BW,L2]at hv
  have hr':c= .string _:=hr;subst hr';exact⟨_,WideMaps.keyOf_string_mk hu (Nat.le_trans (Nat.le_of_ble_eq_true hv) (by decide))⟩
 .rename_i hu;exact agg (by rw[hu]) h
 .rename_i hu;exact agg (by rw[hu]) h
 .cases h
def R4: ∀ {l:List IntKind} {cs ds:List V},Dl l cs=true->Dl l ds=true-> ∃r,Bv cs ds=some r/\(r=true↔cs=ds)
 | [],[],[],_,_=>⟨true,rfl,by simp⟩
 | [],_::_,_,h,_=>by simp[Dl]at h
 | [],[],_::_,_,h=>by simp[Dl]at h
 | _::_,[],_,h,_=>by simp[Dl]at h
 | _::_,_::_,[],_,h=>by simp[Dl]at h
 | q ::l,c::cs,d::ds,h,h'=>by
   cases c<;>simp only[Dl,L2]at h
   cases d<;>simp only[Dl,L2]at h'
   rename_i k a k' b;simp only[A9,Cc]at h h';obtain⟨rfl,h⟩:=h;obtain⟨rfl,h'⟩:=h';obtain⟨r,h1,h2⟩:=R4 h h';refine⟨(a==b)&&r,by simp[Bv,h1],?_⟩;rw[A9,h2];constructor
   .rintro⟨h3,rfl⟩
    rw[show a=b by simpa using h3]
   .intro e
    cases e;exact⟨by simp,rfl⟩
def Tu {ks:KS} {H:Nat->Nat->Option Value} {x y:V} {c d:Value} (hx:BW ks x=true) (hy:BW ks y=true) (hc:Ag H x c) (hd:Ag H y d):D0 x y=true↔c=d:=by
 cases ks with
 | i q=>
   cases x<;>simp only[BW,L2]at hx
   cases y<;>simp only[BW,L2]at hy
   rename_i k a k' b;obtain⟨rfl,_⟩:=hc;obtain⟨rfl,_⟩:=hd;have h1:=of_decide_eq_true hx;have h2:=of_decide_eq_true hy;subst h1;subst h2;simp[D0]
 | s=>
   cases x<;>simp only[BW,L2]at hx
   cases y<;>simp only[BW,L2]at hy
   have h1:c= .string _:=hc;have h2:d= .string _:=hd;subst h1;subst h2;simp[D0]
 | a l =>
   cases x<;>simp only[BW,L2]at hx
   cases y<;>simp only[BW,L2]at hy
   rename_i cs ds;obtain⟨c',rfl,h1,h2⟩:=hc;obtain⟨d',rfl,h3,h4⟩:=hd;obtain⟨r,h5,h6⟩:=R4 hx hy;obtain⟨g1,g2⟩:=I2 hx h2;obtain⟨g3,g4⟩:=I2 hy h4;simp only[D0,h5,Option.getD_some,h6,Value.agg.injEq];constructor
   .rintro rfl
    refine Array.ext (by omega) fun i hi hj=>?_
    obtain⟨m,a1,a2,_⟩:=g2 i l[i] (Cr (by omega));obtain⟨m',b1,b2,_⟩:=g4 i l[i] (Cr (by omega));rw[a1]at b1;cases b1;simp only[G8,Array.getElem?_eq_getElem hi,Array.getElem?_eq_getElem hj,JD]at a2 b2;rw[a2,b2]
   .rintro rfl
    refine List.ext_getElem? fun i=>?_
    by_cases hi:i<l.length
    .obtain⟨m,a1,a2,_⟩:=g2 i l[i] (Cr hi)
     obtain⟨m',b1,b2,_⟩:=g4 i l[i] (Cr hi);rw[a2]at b2;cases b2;rw[a1,b1]
    .rw[List.getElem?_eq_none (by omega),List.getElem?_eq_none (by omega)]
def VC {ks:KS} {H:Nat->Nat->Option Value} {key:V} {c x:Value} {val:V} (hk:BW ks key=true) (hc:Ag H key c) (hx:Ag H val x) (clk:Nat): ∀ {kvs:List (V×V)} {es:List MapEntry},F3 H kvs es->(∀kv∈kvs,BW ks kv.1=true)->(∀e∈es,e.key≠c)->
    Cn key kvs=none/\F3 H (DX key val kvs) (es++[{key:=c,val:=x,born:=clk}])
 | [],[],_,_,_=>⟨rfl,hc,hx,trivial⟩
 | [],_::_,h,_,_=>h.elim
 | _::_,[],h,_,_=>h.elim
 | (k,v)::r,e::es,h,hks,hne=>by
   obtain⟨h1,h2,h3⟩:=h
   have hf:D0 key k=false:=by
    cases hb:D0 key k with
    | false=>rfl
    | true=>exact absurd ((Tu hk (hks _ (.head _)) hc h1).1 hb).symm (hne e (.head _))
   obtain⟨h4,h5⟩:=VC hk hc hx clk h3 (fun kv hkv=>hks kv (.tail _ hkv)) (fun e he=>hne e (.tail _ he));simp only[Cn,DX,hf,cond_false];exact⟨h4,h1,h2,h5⟩
def VB {ks:KS} {H:Nat->Nat->Option Value} {key:V} {c x:Value} {val:V} (hk:BW ks key=true) (hc:Ag H key c) (hx:Ag H val x): ∀ {kvs:List (V×V)} {es:List MapEntry} {j:Nat} {e:MapEntry},F3 H kvs es->(∀kv∈kvs,BW ks kv.1=true)->
    es.Pairwise (fun a b=>a.key≠b.key)->es[j]? =some e->e.key=c->
    ∃v,Cn key kvs=some v/\Ag H v e.val/\F3 H (DX key val kvs) (es.modify j fun e=>{e with key:=c,val:=x})
 | [],[],j,_,_,_,_,hj,_=>by simp at hj
 | [],_::_,_,_,h,_,_,_,_=>h.elim
 | _::_,[],_,_,h,_,_,_,_=>h.elim
 | (k, v)::r,e0::es,j,e,h,hks,hd,hj,he=>by
   obtain⟨h1,h2,h3⟩:=h;obtain⟨hd1,hd2⟩:=List.pairwise_cons.1 hd;have hiff:=Tu hk (hks _ (.head _)) hc h1;cases j with
   | zero=>
     simp only[sP,JD]at hj;subst hj;have hb:D0 key k=true:=hiff.2 he.symm;simp only[Cn,DX,hb,cond_true];exact⟨v,rfl,h2,hc,hx,h3⟩
   | succ j=>
     simp only[y6]at hj
     have hb:D0 key k=false:=by
      cases hb:D0 key k with
      | false=>rfl
      | true=>
        have:=hiff.1 hb;exact absurd (this.symm.trans he.symm) (hd1 e (Bo hj))
     obtain⟨v',h4,h5,h6⟩:=VB hk hc hx h3 (fun kv hkv=>hks kv (.tail _ hkv)) hd2 hj he;simp only[Cn,DX,hb,cond_false];exact⟨v',h4,h5,h1,h2,h6⟩
def gr {ok:Value->Prop} {ks:KS} {H:Nat->Nat->Option Value} (hok: ∀(H:Nat->Nat->Option Value) (v:V) (c:Value),BW ks v=true->Ag H v c->ok c): ∀ {kvs:List (V×V)} {es:List MapEntry},F3 H kvs es->(∀kv∈kvs,BW ks kv.1=true)-> ∀e∈es,ok e.key
 | (k,v)::r,e0::es,h,hks,e,he=>by
   obtain⟨h1,h2,h3⟩:=h;rcases GR.1 he with rfl|he
   .exact hok H k _ (hks _ (.head _)) h1
   .exact gr hok h3 (fun kv hkv=>hks kv (.tail _ hkv)) e he
 | [],[],_,_,_,he=>by cases he
 | [],_::_,h,_,_,_=>h.elim
 | _::_,[],h,_,_,_=>h.elim
def W4 (hR:Rel F Z w) {n:Nat} {kvs:List (V×V)} (h:Z n=some (.map kvs)): ∃es clk,w.heap[n]? =some (.map es clk)/\F3 (Hh F Z w) kvs es.toList/\es.toList.Pairwise (fun a b=>a.key≠b.key):=by
 obtain⟨_,ob,h2,es,clk,rfl,h4⟩:=hR.own n _ h;exact⟨es,clk,h2,h4⟩
def Vb {t kt e:TypeId} {ks:KS} {z:V} {ok:Bool} (hu:P.underlying t=some (.map kt e)) (hks:Vu P kt=some ks) (hz:zeroOf P e=some z) (hR:Rel F Z w) {vm vk:V} {cm ck:Value}
    (hm:Ag (Hh F Z w) vm cm) (hk:Ag (Hh F Z w) vk ck) (h:AN Z ks z ok vm vk fun v=>k v Z):Cl F Z w k kp ((Instr.lookup t cm ck ok).run P w):=by
 obtain⟨h0,h⟩:=h;obtain⟨okk,K,hok⟩:=rh hks;have hck:=hok _ _ _ h0 hk;obtain⟨zc,hz1,hz2⟩:=Em hz w;have hzr:Ag (Hh F Z w) z zc:=HF hz2;have hch: ∀em,(Instr.checkKey em 10000 kt ck).run P w= .ok () w:=fun em=>K.check w em hck
 unfold Instr.lookup;simp only[DU,BK hu,G3]
 have fin: ∀ {o:Option V} {x:Value} {b:Bool},(match o with|some v=>b=true/\Ag (Hh F Z w) v x|none=>b=false/\x=zc)->k (found z ok o) Z->Cl F Z w k kp (Result.ok (if ok=true then Value.tuple #[x,.bool b]else x) w):=fun {o x b} ho hk=>by
  have tup: ∀ {v:V} {x:Value} {b:Bool},Ag (Hh F Z w) v x->Ag (Hh F Z w) (.t [v,.b b]) (.tuple #[x,.bool b]):=fun hv=>⟨_,rfl,rfl,⟨_,rfl,hv⟩,⟨_,rfl,rfl⟩,trivial⟩
  cases o with
  | some v=>
    obtain⟨rfl,hv⟩:=ho;cases ok
    .exact Aw hR hk hv
    .exact Aw hR hk (tup hv)
  | none=>
    obtain⟨rfl,rfl⟩:=ho;cases ok
    .exact Aw hR hk hzr
    .exact Aw hR hk (tup hzr)
 cases vm<;>first|exact h.elim|skip
 .rename_i n
  simp only at h;split at h
  .rename_i kvs hn
   obtain⟨h1,h2⟩:=h;simp only[Ag]at hm;subst hm;obtain⟨es,clk,h3,h4,h5⟩:=W4 hR hn;have hg:(getObj n).run P w= .ok (.map es clk) w:=by simp[getObj,Sem.run,h3]
   simp only[DU,hg,G3,E8,hch];rcases K.find w hck es.toList (gr hok h4 h1)with⟨h6,h7⟩|⟨j,e',h6,h7,h8⟩
   .obtain⟨h9,_⟩:=VC h0 hk hk 0 h4 h1 h7
    simp only[h6,G3,DU,hz1,E8];rw[h9]at h2;exact fin (o:=none) ⟨rfl,rfl⟩ h2
   .obtain⟨v,h9,h10,_⟩:=VB h0 hk hk h4 h1 h5 h7 h8
    simp only[h6,G3,E8];rw[h9]at h2;exact fin (o:=some v) ⟨rfl,h10⟩ h2
  .exact h.elim
 .simp only[Ag]at hm
  subst hm;simp only[DU,E8,G3,hch];rcases K.find w hck [] (fun e he=>by cases he)with⟨h6,_⟩|⟨j,e',_,h7,_⟩
  .simp only[h6,G3,DU,hz1,E8]
   exact fin (o:=none) ⟨rfl,rfl⟩ h
  .simp at h7
def RZ {n:Nat} {ob:Obj} {es:Array MapEntry} {clk:Nat} (h:w.heap[n]? =some (.map es clk)):(setObj n ob).run P w= .ok () (Cf w n ob):=by
 simp[setObj,Sem.run,h,Cf]
def JT {c x:Value}: ∀ {es:List MapEntry} {j:Nat} {e:MapEntry},es[j]? =some e->e.key=c->es.Pairwise (fun a b=>a.key≠b.key)->(es.modify j fun e=>{e with key:=c,val:=x}).Pairwise (fun a b=>a.key≠b.key)
 | [],_,_,h,_,_=>by simp at h
 | e0::es,0,e,h,he,hp=>by
   simp only[sP,JD]at h;subst h;obtain⟨h1,h2⟩:=List.pairwise_cons.1 hp;exact List.pairwise_cons.2 ⟨fun a ha=>by simpa only[<-he]using h1 a ha,h2⟩
 | e0::es,j+1,e,h,he,hp=>by
   simp only[y6]at h;obtain⟨h1,h2⟩:=List.pairwise_cons.1 hp;refine List.pairwise_cons.2 ⟨fun a ha=>?_,JT h he h2⟩;have ha:a∈es.modify j fun e=>{e with key:=c,val:=x}:=ha
   obtain⟨i,hi⟩:=List.mem_iff_getElem?.1 ha;rw[List.getElem?_modify]at hi;cases hb:es[i]? with
   | none=>rw[hb]at hi;cases hi
   | some b=>
     rw[hb]at hi;simp only[Option.map_eq_map,YH,JD]at hi;split at hi
     .rename_i hji
      subst hi;subst hji;rw[h]at hb;cases hb;simpa only[<-he]using h1 e (Bo h)
     .subst hi
      exact h1 b (Bo hb)
def Va {t kt e:TypeId} {ks:KS} (hu:P.underlying t=some (.map kt e)) (hks:Vu P kt=some ks) (hR:Rel F Z w) {vm vk vx:V} {cm ck cx:Value}
    (hm:Ag (Hh F Z w) vm cm) (hk:Ag (Hh F Z w) vk ck) (hx:Ag (Hh F Z w) vx cx) (h:AP Z ks vm vk vx fun Z'=>k (.t []) Z') :
    ∃Z' w',(Instr.mapUpdate t cm ck cx).run P w= .ok () w'/\k (.t []) Z'/\Rel F Z' w'/\B8 F Z w Z' w':=by
 obtain⟨h0,h⟩:=h;obtain⟨okk,K,hok⟩:=rh hks;have hck:=hok _ _ _ h0 hk;have hch: ∀em,(Instr.checkKey em 10000 kt ck).run P w= .ok () w:=fun em=>K.check w em hck
 cases vm<;>first|exact h.elim|skip
 rename_i n;simp only at h;split at h
 .rename_i kvs hn
  obtain⟨h1,h2⟩:=h;simp only[Ag]at hm;subst hm;obtain⟨es,clk,h3,h4,h5⟩:=W4 hR hn;have hg:(getObj n).run P w= .ok (.map es clk) w:=by simp[getObj,Sem.run,h3]
  unfold Instr.mapUpdate;simp only[DU,BK hu,G3,hg,hch];rcases K.find w hck es.toList (gr hok h4 h1)with⟨h6,h7⟩|⟨j,e',h6,h7,h8⟩
  .obtain⟨_,h9⟩:=VC h0 hk hx clk h4 h1 h7
   refine⟨_,Cf w n (.map (es.push {key:=ck,val:=cx,born:=clk}) (clk+1)),?_,h2,KM hR hn ⟨_,_,rfl,?_,?_⟩,HM hn _ _⟩
   .simp only[h6,G3]
    exact RZ h3
   .simpa using h9
   .rw[Array.toList_push,List.pairwise_append]
    exact⟨h5,by simp,fun a ha b hb=>by simp at hb;subst hb;exact h7 a ha⟩
  .obtain⟨v,_,_,h9⟩:=VB h0 hk hx h4 h1 h5 h7 h8
   have hj:es[j]? =some e':=by rw[<-h7];simp
   refine⟨_,Cf w n (.map (es.modify j fun e=>{e with key:=ck,val:=cx}) clk),?_,h2,KM hR hn ⟨_,_,rfl,?_,?_⟩,HM hn _ _⟩
   .simp only[h6,G3,DU,hj,YH,Option.getD_some,h8,K.stays w hck]
    exact RZ h3
   .simpa using h9
   .simpa using JT (x:=cx) h7 h8 h5
 .exact h.elim
def sh (P:Program):Op->Option GJ
 | .makeMap t r=>match r,P.underlying t with
   | none,_=>some .Oi
   | some _,_=>none
 | .lookup t x i ok=>match P.underlying t with
   | some (.map kt e)=>match Vu P kt,zeroOf P e,BX x,BX i with
     | some ks,some z,some x,some i=>some (.lookup ks z ok x i)
     | _,_,_,_=>none
   | _=>none
 | .mapUpdate t m i x=>match P.underlying t with
   | some (.map kt _)=>match Vu P kt,BX m,BX i,BX x with
     | some ks,some m,some i,some x=>some (.Ef ks m i x)
     | _,_,_,_=>none
   | _=>none
 | .insert t m i x=>match P.underlying t with
   | some (.map kt _)=>match Vu P kt,BX m,BX i,BX x with
     | some ks,some m,some i,some x=>some (.Ef ks m i x)
     | _,_,_,_=>none
   | _=>none
 | _=>none
def ZF {env:Env} {a:Act} {o:Oper} {ao:GJ} (ho:sh P o.op=some ao) (h:Fp P ao env Z k kp) (he:CW (Hh F Z w) env a.tmps) (hR:Rel F Z w) :
    Good P F Z w k kp ((execOp a.eval o).run P w):=by
 have put: ∀ {t:TypeId} {m i x:Operand},(match P.underlying t with
  | some (.map kt _)=>match Vu P kt,BX m,BX i,BX x with
    | some ks,some m,some i,some x=>some (GJ.Ef ks m i x)
    | _,_,_,_=>none
  | _=>none)=some ao->Good P F Z w k kp ((do Instr.mapUpdate t (a.eval m) (a.eval i) (a.eval x);pure Next.skip:Sem Next).run P w):=fun {t m i x} ho=>by
  split at ho
  .rename_i kt e hu
   split at ho
   .rename_i ks m' i' x' hks hm hi hx
    cases ho;obtain⟨vm,h1,g⟩:=Ak h;obtain⟨vi,h2,g⟩:=Ak g;obtain⟨vx,h3,g⟩:=Ak g;obtain⟨Z',w',e1,e2,e3,e4⟩:=Va hu hks hR (Ap he hm h1) (Ap he hi h2) (Ap he hx h3) g;simp only[DU,e1,G3,E8];exact⟨Z',e2,e3,e4⟩
   .cases ho
  .cases ho
 unfold execOp;unfold sh at ho;split at ho
 .rename_i t r hop
  rw[hop];dsimp only;split at ho
  .cases ho
   refine A5 ?_;simp only[Fp]at h;exact⟨_,_,h w.heap.size hR.new,rfl,IK hR (o:= .map []) ⟨#[],0,rfl,trivial,by simp⟩,EI _ _⟩
  .cases ho
 .rename_i t x i ok hop
  rw[hop];dsimp only;split at ho
  .rename_i kt e hu
   split at ho
   .rename_i ks z x' i' hks hz hx hi
    cases ho;obtain⟨vx,h1,g⟩:=Ak h;obtain⟨vi,h2,g⟩:=Ak g;exact A5 (Vb hu hks hz hR (Ap he hx h1) (Ap he hi h2) g)
   .cases ho
  .cases ho
 .rename_i t m i x hop
  rw[hop];exact put ho
 .rename_i t m i x hop
  rw[hop];exact put ho
 .cases ho
def Yi (P:Program) (name:String):List (TypeId×FuncId):=(List.range P.types.size).filterMap fun t=>
 match P.info? t,P.underlying t with
 | some i,some d=>match i.methods.find? (·.name==name)with
   | some m=>if m.path.isEmpty then match m.func,d with
     | some (f,true),.pointer _=>some (t,f)
     | some (_,false),.pointer _=>none
     | some (f,false),_=>some (t,f)
     | _,_=>none
     else none
   | none=>none
 | _,_=>none
def sj (P:Program):Op->Option GJ
 | .call c=>match c.callee with
   | .invoke x name=>match BX x,K1 c.args.toList with
     | some x,some as=>some (.inv (Yi P name) x as)
     | _,_=>none
   | _=>none
 | _=>none
def W5 {t:TypeId} {f:FuncId}: ∀ {l:List (TypeId×FuncId)},look t l=some f->(t,f)∈l
 | [],h=>by cases h
 | (u,g)::r,h=>by
   simp only[look]at h;cases hb:Nat.beq u t with
   | true=>
     rw[hb]at h;simp only[cond_true,JD]at h;rw[Vj hb,h];exact .head _
   | false=>
     rw[hb]at h;exact .tail _ (W5 h)
def Y6 {name:String} {t:TypeId} {f:FuncId} (h:(t,f)∈Yi P name) (c:Value):(method (P.types.size+Made.depth) t c name).run P w= .ok (f,c) w:=by
 unfold Yi at h;rw[List.mem_filterMap]at h;obtain⟨u,hu,h⟩:=h;rw[List.mem_range]at hu;split at h
 rotate_left
 .cases h
 rename_i i d hi hd;split at h
 rotate_left
 .cases h
 rename_i m hm;split at h
 rotate_left
 .cases h
 rename_i hp
 have hpl:m.path.toList= []:=by
  have:m.path= #[]:=by simpa using hp
  rw[this]
 obtain⟨n,hn⟩: ∃n,P.types.size+Made.depth=n+1:=⟨P.types.size+Made.depth - 1,by omega⟩
 have key: ∀ptr,u=t->m.func=some (f,ptr)->(ptr=true-> ∃e,d= .pointer e)->(ptr=false-> ∀e,d≠ .pointer e)->(method (P.types.size+Made.depth) t c name).run P w= .ok (f,c) w:=fun ptr e1 e2 e3 e4=>by
  subst e1;rw[hn];unfold method;simp only[DU,run_typeInfo w hi,G3,hm,hpl,follow,E8,e2,receiverAt,run_underlying hd];cases ptr with
  | true=>
    obtain⟨e,rfl⟩:=e3 rfl;simp[Place.get]
  | false=>
    have:=e4 rfl;cases d<;>first|exact absurd rfl (this _)|simp[Place.get]
 split at h
 .rename_i f' e hfun
  cases h;exact key true rfl hfun (fun _=>⟨_,rfl⟩) (fun h=>by cases h)
 .cases h
 .rename_i f' hfun hne
  cases h;exact key false rfl hfun (fun h=>by cases h) (fun _ e he=>by subst he;exact hne e rfl)
 .cases h
def ff {tab:List (TypeId×FuncId)} {x:V} {args:List V} {Q:R->AE->Prop} (h:Az P tab x args Z Q): ∃t v f,x= .FO t v/\look t tab=some f/\Au P f (v::args) Z Q:=by
 unfold Az at h;split at h
 .split at h
  .exact⟨_,_,_,rfl,by assumption,h⟩
  .exact h.elim
 .exact h.elim
def ZG {env:Env} {a:Act} {o:Oper} {ao:GJ} (ho:sj P o.op=some ao) (h:Fp P ao env Z k kp) (he:CW (Hh F Z w) env a.tmps) (hR:Rel F Z w) :
    Good P F Z w k kp ((execOp a.eval o).run P w):=by
 unfold sj at ho;split at ho
 rotate_left
 .cases ho
 rename_i c hop;split at ho
 rotate_left
 .cases ho
 rename_i x name hc;split at ho
 rotate_left
 .cases ho
 rename_i x' as hx has;cases ho;obtain⟨vx,h1,g⟩:=Ak h;obtain⟨vs,h2,g⟩:=Ik g;obtain⟨t,v,f,rfl,hf,g⟩:=ff g;obtain⟨cv,hcv,hvr⟩:=Ap he hx h1
 have hext:(#[Value.iface t cv]++c.args.map a.eval).extract 1 (#[Value.iface t cv]++c.args.map a.eval).size=c.args.map a.eval:=by
  apply Array.ext';simp[List.take_of_length_le]
 have h0:(#[Value.iface t cv]++c.args.map a.eval)[0]? =some (.iface t cv):=by rw[Array.getElem?_append_left (Nat.zero_lt_one)];rfl
 have hrun:(execOp a.eval o).run P w=(callFunc f (#[cv]++c.args.map a.eval)).run P w:=by
  unfold execOp;simp only[hop,resolve,hc,DU,E8,G3,invoke,hcv,h0,hext,callMethod];have hprog:(program).run P w= .ok P w:=rfl;simp only[hprog,G3,Y6 (W5 hf)]
 rw[hrun];refine Q2 hR ?_ g;have:=Iv (H:=Hh F Z w) (vs:=[v]) (cs:= #[cv]) ⟨rfl,⟨cv,rfl,hvr⟩,trivial⟩ (KU he has h2);simpa using this
def ZU {t u e:TypeId} {i:TypeInfo} (ty:TypeId) (ht:P.underlying t=some (.slice e)) (hi:P.info? e=some i) (hR:Rel F Z w) {vx vy:V} {cx cy:Value} (hx:Ag (Hh F Z w) vx cx) (hy:Ag (Hh F Z w) vy cy)
    (h:AX Z i.size vx vy k):Cl F Z w k kp ((Builtin.copy_ #[t,u] ty #[cx,cy]).run P w):=by
 have h':=Li hR hy h;clear h;obtain⟨ys,base,c2,⟨hone,h⟩,rfl,hyl,hys⟩:=h'
 have main: ∀(n off len:Nat) (a:Option Addr) (cap:Nat),(len≠0->a=some ⟨n,off*i.size,none⟩)->QA Z i.size ys n off len k->Cl F Z w k kp ((Builtin.copy_ #[t,u] ty #[.slice a len cap,.slice base ys.length c2]).run P w):=fun n off len a cap ha hk=>by
  unfold QA at hk;split at hk
  .rename_i s es c hs
   obtain⟨rfl,hle,hk⟩:=hk;obtain⟨cur,et,h3,h4,h5,h6,h7⟩:=FF hR hs;have hsz:sizeOf e=(do pure (<-typeInfo e).size:Sem Nat):=rfl;have hmin:Nat.min ys.length len=min ys.length len:=rfl;have hmL:min ys.length len<=AZ:=by omega
   have hrng: ∀H,Ag H (.i .i64 (min ys.length len:Nat)) (goInt (min ys.length len:Nat)):=fun H=>⟨rfl,Ip hmL⟩
   by_cases h0:min ys.length len=0
   ·
    have hrun:(Builtin.copy_ #[t,u] ty #[.slice a len cap,.slice base ys.length c2]).run P w= .ok (goInt 0) w:=by
     have hm0:Nat.min ys.length len=0:=h0;cases a<;>cases base<;>simp[Builtin.copy_,run_underlying ht,sizeOf,typeInfo,hi,Builtin.lenOf,hm0,Builtin.firstCells,loadCells,loadCellsFrom,storeCells]
    rw[hrun];rw[h0]at hk;simp only[Nat.add_zero]at hk;have e1:es.take off++(ys.take 0++es.drop off)=es:=by simp
    rw[e1]at hk
    have e2:B3 Z n (.arr i.size es c)=Z:=by
     funext m;unfold B3;split
     .rename_i e;rw[e,hs]
     .rfl
    rw[e2]at hk;exact Aw hR hk ⟨rfl,Ip (n:=0) (by simp)⟩
   .obtain⟨b,o,g,rfl,hg,hrow⟩:=hys.resolve_left (fun e=>by rw[e]at h0;simp at h0)
    obtain rfl:=ha (by omega);obtain⟨news,h8,h9,h10⟩:=Kh (IJ hrow (min ys.length len));have hcnt:(ys.take (min ys.length len)).length=min ys.length len:=by simp
    rw[hcnt]at h8;have hmul:(off+min ys.length len)*i.size<=c*i.size:=Vi _ (by omega);rw[Nat.add_mul]at hmul
    have hn1: ∀u∈news,u.oneCell'=true:=fun u hu=>by
     obtain⟨j,hj⟩:=List.mem_iff_getElem?.1 hu;have hlt:j<(ys.take (min ys.length len)).length*i.size:=by rw[hcnt,<-h8];exact(JC.1 hj).1
     obtain⟨h4,h5⟩:=U3 hlt;obtain⟨h6,h7⟩:=BH.1 h10 (j / i.size) _ (Cr h4);obtain⟨c,hc,hr⟩:=Bi.1 h7 (j % i.size) _ (Cr (by omega));have hdm:=Nat.div_add_mod' j i.size;rw[show 0+j / i.size*i.size+j % i.size=j by omega,hj]at hc;cases hc;exact Qr hr (hone _ (List.mem_of_mem_take (List.getElem_mem h4)) _ (List.getElem_mem _))
    have hrunF:=run_firstCells_some (P:=P) w i.size (min ys.length len) ⟨b,o,none⟩ ys.length c2 news h8 (fun j v hv=>by rw[Cu];exact hg _ _ (h9 j v hv));have hst:=Cv (P:=P) news w cur (off*i.size) 0 h3 (by omega) hn1;simp only[Nat.add_zero]at hst
    have hrun:(Builtin.copy_ #[t,u] ty #[.slice (some ⟨n,off*i.size,none⟩) len cap,.slice (some ⟨b,o,none⟩) ys.length c2]).run P w= .ok (goInt (min ys.length len:Nat)) (Cf w n (.cells (C6 cur (off*i.size) news) et (0,0))):=by
     simp[Builtin.copy_,run_underlying ht,sizeOf,typeInfo,hi,Builtin.lenOf,hmin,hrunF,hst]
    rw[hrun];refine⟨_,_,hk,hrng _,KM hR hs ⟨_,et,rfl,by rw[D9];exact h4,by simp;omega,by simp;omega,?_⟩,HM hs _ _⟩;have hol:off<=es.length:=by omega
    refine HO (En (IJ h7 off) fun j hj=>?_) (HO (En h10 fun j hj=>?_) (En (OC h7 (off+min ys.length len)) fun j hj=>?_))
    .rw[Jd,Nat.min_eq_left hol]at hj
     exact DR _ _ _ _ (by omega)
    .rw[hcnt]at hj
     rw[Jd,Nat.min_eq_left hol];simp only[G8];exact Gd _ _ _ _ (by omega) (by omega)
    .rw[Jd,Nat.min_eq_left hol,hcnt,G8,G8,Nat.add_mul]
     exact DR _ _ _ _ (by omega)
  .exact hk.elim
 cases vx
 case sl n len cap=>
  obtain⟨rfl,_⟩:=hx;exact main n 0 len _ cap (fun _=>by simp) h
 case sv n s off len=>
  obtain⟨rfl,h⟩:=h;obtain⟨a,cap,rfl,_,h6⟩:=hx;exact main n off len a cap h6 h
 all_goals exact h.elim
def gi (P:Program):Op->Option GJ
 | .call c=>match c.callee,c.args.toList,c.argTypes.toList with
   | .builtin .copy,[x,y],[t,_]=>match P.underlying t with
     | some (.slice e)=>match BX x,BX y,P.info? e with
       | some x,some y,some i=>some (.copy i.size x y)
       | _,_,_=>none
     | _=>none
   | _,_,_=>none
 | _=>none
def Xo {env:Env} {a:Act} {o:Oper} {ao:GJ} (ho:gi P o.op=some ao) (h:Fp P ao env Z k kp) (he:CW (Hh F Z w) env a.tmps) (hR:Rel F Z w) :
    Good P F Z w k kp ((execOp a.eval o).run P w):=by
 unfold gi at ho;split at ho
 rotate_left
 .cases ho
 rename_i c hop;split at ho
 rotate_left
 .cases ho
 rename_i x y t u hc hargs htys;split at ho
 rotate_left
 .cases ho
 rename_i e hu;split at ho
 rotate_left
 .cases ho
 rename_i x' y' i hx hy hi;cases ho;obtain⟨vx,h1,g⟩:=Ak h;obtain⟨vy,h2,g⟩:=Ak g;have ea:c.args= #[x,y]:=by apply Array.ext';simpa using hargs
 have et:c.argTypes= #[t,u]:=by apply Array.ext';simpa using htys
 unfold execOp;simp only[hop,resolve,hc,ea,et,DU,E8,G3,invoke,builtin,List.map_toArray,E3,List.map_nil];exact Eo (ZU (P:=P) (kp:=kp) o.type hu hi hR (Ap he hx h1) (Ap he hy h2) g)
def gI (P:Program) (o:Op):Option GJ:=match sg P o with|some a=>some a|none=>match sh P o with|some a=>some a|none=>match sj P o with|some a=>some a|none=>gi P o
def ZD {env:Env} {a:Act} {o:Oper} {ao:GJ} (ho:gI P o.op=some ao) (h:Fp P ao env Z k kp) (he:CW (Hh F Z w) env a.tmps) (hR:Rel F Z w) :
    Good P F Z w k kp ((execOp a.eval o).run P w):=by
 unfold gI at ho;split at ho
 .rename_i h';cases ho;exact ZE h' h he hR
 .split at ho
  .rename_i h';cases ho;exact ZF h' h he hR
  .split at ho
   .rename_i h';cases ho;exact ZG h' h he hR
   .exact Xo ho h he hR
end Go.Gl
namespace Go.Gl
variable {P:Program} {F:Nat->Prop}
def emp:AE:=fun _=>none
def Pure (P:Program) (f:FuncId) (args:List V) (v:V):Prop:=Au P f args emp fun r Z'=>r= .ret v/\Z'=emp
def aV {w:World} (F:Nat->Prop) (h: ∀n,F n->n<w.heap.size):Rel F emp w:=⟨fun n o ho=>(by cases ho),h⟩
def VS {Z:AE} {w w':World} {F':Nat->Prop} (h:B8 F' emp w emp w'):B8 F Z w Z w':=
 ⟨fun n hn _=>h.frame n hn rfl,h.size,h.os,h.tape,h.output,fun _ h0 _=>h0⟩
def TL {Z:AE} {w w':World} {F':Nat->Prop} (hR:Rel F Z w) (h:B8 F' emp w emp w'):Rel F Z w':=
 hR.step (VS h) fun n _ hn=> .inl ⟨hn,h.frame n (hR.lt hn) rfl⟩
def Pure.use {f:FuncId} {args:List V} {v:V} (h:Pure P f args v) {Z:AE} {k kp:V->AE->Prop} (hk:k v Z):Au P f args Z (qk k kp):=by
 refine⟨h.1,fun F w cs hR hv=>?_⟩
 have hH: ∀w:World,(Hh (fun n=>F n\/Z n≠none) emp w)=Hh F Z w:=fun w=>by
  funext b o;unfold Hh;by_cases hb:F b\/(Z b).isSome=true
  .rw[if_pos hb,if_pos]
   rcases hb with hb|hb
   .exact .inl (.inl hb)
   .exact .inl (.inr (by intro e;rw[e]at hb;cases hb))
  .rw[if_neg hb,if_neg]
   rintro((h|h)|h)
   .exact hb (.inl h)
   .exact hb (.inr (by cases hs:Z b with|none=>exact absurd hs h|some o=>rfl))
   .cases h
 refine Calls.mono (h.2 (fun n=>F n\/Z n≠none) w cs (aV _ fun n hn=>?_) (by rw[hH];exact hv)) fun e w' ⟨r,Z',⟨hr,hs⟩,h1,h2,h3⟩=>?_
 .rcases hn with hn|hn
  .exact hR.lock n hn
  .cases hs:Z n with
   | none=>exact absurd hs hn
   | some o=>exact hR.lt hs
 .subst hr
  subst hs;rw[hH]at h1;exact⟨.ret v,Z,hk,h1,TL hR h3,VS h3⟩
def Au.mono {f:FuncId} {args:List V} {Z:AE} {Q Q':R->AE->Prop} (h:Au P f args Z Q) (hq: ∀r Z',Q r Z'->Q' r Z'):Au P f args Z Q':=
 ⟨h.1,fun F w cs hR hv=>Calls.mono (h.2 F w cs hR hv) fun _ _ ⟨r,Z',h1,h2⟩=>⟨r,Z',hq _ _ h1,h2⟩⟩
def Nj.mono {l:Nat} {args:List V} {Z:AE} {Q Q':R->AE->Prop} (h:Nj P l args Z Q) (hq: ∀r Z',Q r Z'->Q' r Z'):Nj P l args Z Q':=
 fun F w cs hR hv=>let⟨f,tmps,assign,body,h1,h2⟩:=h F w cs hR hv;⟨f,tmps,assign,body,h1,h2.mono fun e w' ⟨r,Z',h3,h4⟩=>⟨r,Z',hq _ _ h3,h4⟩⟩
def Ao.mono {x:V} {args:List V} {Z:AE} {Q Q':R->AE->Prop} (h:Ao P x args Z Q) (hq: ∀r Z',Q r Z'->Q' r Z'):Ao P x args Z Q':=by
 unfold Ao at *;split at h
 .exact Au.mono h hq
 .exact Nj.mono h hq
 .exact h.elim
def Az.mono {tab:List (TypeId×FuncId)} {x:V} {args:List V} {Z:AE} {Q Q':R->AE->Prop} (h:Az P tab x args Z Q) (hq: ∀r Z',Q r Z'->Q' r Z'):Az P tab x args Z Q':=by
 unfold Az at *;split at h
 .split at h
  .exact Au.mono h hq
  .exact h.elim
 .exact h.elim
def rd:Bn->List Nat| .t n=>[n]| .c _=>[]
def rdO:Option Bn->List Nat|some x=>rd x|none=>[]
def fj (l:List Bn):List Nat:=l.flatMap rd
def reads:GJ->List Nat
 | .mv x| .m8 x| .not x| .neg _ x| .conv _ x| .box x| .PM x| .load _ x| .GO _ x| .field _ _ x| .len x| .UN x| .str x| .extract _ x| .JK x| .Oj _ x| .fh _ _ _ x| .panic x| .fm _ _ x=>rd x
 | .pick a b c=>rd a++rd b++rd c
 | .Vp x y| .bin _ x y| .nD _ x y| .nC _ _ x y| .store _ x y| .MF _ _ x y| .index _ _ _ x y| .append _ _ x y| .Sh _ _ x y| .copy _ x y| .Vs x y| .Vr x y| .GW _ _ _ x y| .lookup _ _ _ x y=>rd x++rd y
 | .alloc _| .Oi=>[]
 | .build _ ps=>fj (ps.map fun p=>p.2.2)
 | .Hi _ _ _ ps=>fj (ps.map fun p=>p.2)
 | .slice _ x a b c=>rd x++rdO a++rdO b++rdO c
 | .fk _ a b=>fj a++fj b
 | .Ef _ m k v=>rd m++rd k++rd v
 | .call _ as| .MK _ as=>fj as
 | .Jy x as| .Yt x as| .inv _ x as=>rd x++fj as
variable {env env':Env}
def Aa {x:Bn} (h: ∀s∈rd x,get s env'=get s env):ev env' x=ev env x:=by
 cases x with
 | t n=>exact h n (by simp[rd])
 | c v=>rfl
def Fi: ∀ {l:List Bn},(∀s∈fj l,get s env'=get s env)->Vl env' l=Vl env l
 | [],_=>rfl
 | x::r,h=>by
   simp only[fj,List.flatMap_cons,Du]at h;simp only[Vl,Aa (fun s hs=>h s (.inl hs)),Fi (l:=r) (fun s hs=>h s (.inr hs))]
def J9 {x:Option Bn} (h: ∀s∈rdO x,get s env'=get s env):Hz env' x=Hz env x:=by
 cases x with
 | none=>rfl
 | some x=>simp only[Hz,Aa (x:=x) h]
def O7: ∀ {ps:List (Nat×Nat×Bn)} {cs:List V},(∀s∈fj (ps.map fun p=>p.2.2),get s env'=get s env)->K9 env' cs ps=K9 env cs ps
 | [],_,_=>rfl
 | (off,sz,x)::r,cs,h=>by
   simp only[fj,E3,List.flatMap_cons,Du]at h;simp only[K9,Aa (fun s hs=>h s (.inl hs))];split<;>try rfl
   split<;>try rfl
   cases hb:(Nat.beq _ sz&&Nat.ble (off+sz) cs.length)<;>simp only[cond_true,cond_false]
   exact O7 (ps:=r) fun s hs=>h s (.inr hs)
def O8 {sz:Nat}: ∀ {ps:List (Nat×Bn)} {es:List (List V)},(∀s∈fj (ps.map fun p=>p.2),get s env'=get s env)->Jv env' sz es ps=Jv env sz es ps
 | [],_,_=>rfl
 | (i,x)::r,es,h=>by
   simp only[fj,E3,List.flatMap_cons,Du]at h;simp only[Jv,Aa (fun s hs=>h s (.inl hs))];split<;>try rfl
   split<;>try rfl
   cases hb:(Nat.beq _ sz&&Nat.blt i es.length)<;>simp only[cond_true,cond_false]
   exact O8 (ps:=r) fun s hs=>h s (.inr hs)
def T9 {o:GJ} {Z:AE} {k kp:V->AE->Prop} (h: ∀s∈reads o,get s env'=get s env):Fp P o env' Z k kp=Fp P o env Z k kp:=by
 cases o<;>simp only[reads,Du,or_imp,forall_and]at h<;>simp only[Fp]
 case mv x=>rw[Aa h]
 case m8 x=>rw[Aa h]
 case pick a b c=>rw[Aa h.1.1,Aa h.1.2,Aa h.2]
 case bin op x y=>rw[Aa h.1,Aa h.2]
 case nD n x y=>rw[Aa h.1,Aa h.2]
 case nC q n x y=>rw[Aa h.1,Aa h.2]
 case fm q n x=>rw[Aa h]
 case lookup a b c x y=>rw[Aa h.1,Aa h.2]
 case Ef a x y z=>rw[Aa h.1.1,Aa h.1.2,Aa h.2]
 case GW a b c x y=>rw[Aa h.1,Aa h.2]
 case not x=>rw[Aa h]
 case neg n x=>rw[Aa h]
 case conv n x=>rw[Aa h]
 case box x=>rw[Aa h]
 case PM x=>rw[Aa h]
 case Sh a b x y=>rw[Aa h.1,Aa h.2]
 case build z ps=>rw[O7 h]
 case Hi a b c ps=>rw[O8 h]
 case load a x=>rw[Aa h]
 case store a x y=>rw[Aa h.1,Aa h.2]
 case GO a x=>rw[Aa h]
 case field a b x=>rw[Aa h]
 case MF a b x y=>rw[Aa h.1,Aa h.2]
 case index a b c x y=>rw[Aa h.1,Aa h.2]
 case slice s x a b c=>rw[Aa h.1.1.1,J9 h.1.1.2,J9 h.1.2,J9 h.2]
 case len x=>rw[Aa h]
 case UN x=>rw[Aa h]
 case str x=>rw[Aa h]
 case Vp x y=>rw[Aa h.1,Aa h.2]
 case append a b x y=>rw[Aa h.1,Aa h.2]
 case copy a x y=>rw[Aa h.1,Aa h.2]
 case inv tab x as=>rw[Aa h.1,Fi h.2]
 case Vs x y=>rw[Aa h.1,Aa h.2]
 case Vr x y=>rw[Aa h.1,Aa h.2]
 case extract i x=>rw[Aa h]
 case JK x=>rw[Aa h]
 case fk f a b=>rw[Fi h.1,Fi h.2]
 case Oj t x=>rw[Aa h]
 case fh a b c x=>rw[Aa h]
 case panic x=>rw[Aa h]
 case call f as=>rw[Fi h]
 case MK f as=>rw[Fi h]
 case Jy x as=>rw[Aa h.1,Fi h.2]
end Go.Gl
namespace Go.Gl
variable {P:Program} {F:Nat->Prop} {env env':Env} {Z:AE}
def An (AD:(V->Prop)->Prop):Prop:= ∀k,AD k-> ∃v,k v/\ ∀k':V->Prop,k' v->AD k'
def An.one (v:V):An fun k=>k v:=fun _ h=>⟨v,h,fun _ h=>h⟩
def An.no:An fun _=>False:=fun _ h=>h.elim
def An.and {p:Prop} {AD:(V->Prop)->Prop} (h:An AD):An fun k=>p/\AD k:=fun k ⟨hp,hF⟩=>let⟨v,h1,h2⟩:=h k hF;⟨v,h1,fun k' hk=>⟨hp,h2 k' hk⟩⟩
def An.wv {o:Option V} {AD:V->(V->Prop)->Prop} (h: ∀v,An (AD v)):An fun k=>wv o fun v=>AD v k:=by
 cases o with
 | none=>exact An.no
 | some v=>exact h v
def An.ws {o:Option (List V)} {AD:List V->(V->Prop)->Prop} (h: ∀v,An (AD v)):An fun k=>ws o fun v=>AD v k:=by
 cases o with
 | none=>exact An.no
 | some v=>exact h v
def An.wr {o:Option (List (List V))} {AD:List (List V)->(V->Prop)->Prop} (h: ∀v,An (AD v)):An fun k=>wr o fun v=>AD v k:=by
 cases o with
 | none=>exact An.no
 | some v=>exact h v
def An.wo {o:Option (Option V)} {AD:Option V->(V->Prop)->Prop} (h: ∀v,An (AD v)):An fun k=>wo o fun v=>AD v k:=by
 cases o with
 | none=>exact An.no
 | some v=>exact h v
def mD (op:BinOp) (x y:V):An (Vv op x y):=by
 unfold Vv;cases x<;>cases y<;>first|exact An.no|skip
 cases op<;>simp only<;>first|exact(An.one _).and|exact(An.one _).and.and
def Me (agg:Option Nat) (cs:List V) (off:Nat):An (cut agg cs off):=by
 unfold cut;cases agg with
 | none=>cases cs[off]? with
   | none=>exact An.no
   | some v=>exact An.one _
 | some n=>exact(An.one _).and
def fE (Z:AE) (agg:Option Nat) (x:V):An (AU Z agg x):=by
 unfold AU QI QJ;cases x<;>first|exact An.no|skip
 case p n off=>
  simp only;cases Z n with
  | none=>exact An.no
  | some o=>cases o<;>first|exact An.no|exact Me _ _ _
 case rp cs=>exact Me _ _ _
 case pe n sz i off=>
  simp only;cases Z n with
  | none=>exact An.no
  | some o=>
    cases o<;>first|exact An.no|skip
    simp only;refine An.and ?_;rename_i es _;cases es[i]? with
    | none=>exact An.no
    | some e=>exact Me _ _ _
def dy {Z Z':AE} (hs:Sub Z Z') {agg:Option Nat} {x:V} {k:V->Prop} (h:AU Z agg x k):AU Z' agg x k:=by
 unfold AU QI QJ at *;cases x<;>first|exact h|skip
 case p n off=>
  simp only at *;cases hn:Z n with
  | none=>rw[hn]at h;exact h.elim
  | some o=>rw[hs n o hn];rw[hn]at h;exact h
 case pe n sz i off=>
  simp only at *;cases hn:Z n with
  | none=>rw[hn]at h;exact h.elim
  | some o=>rw[hs n o hn];rw[hn]at h;exact h
def Zl (off:Nat) (x:V):An (LZ off x):=by
 unfold LZ;cases x<;>first|exact An.no|exact An.one _
def Zk (sz:Nat) (arr:Option Nat) (x i:V):An (AR sz arr x i):=by
 unfold AR;cases i<;>first|exact An.no|skip
 cases arr<;>cases x<;>first|exact An.no|exact(An.one _).and.and|exact(An.one _).and.and.and|skip
 intro k ⟨h0,e,h1,h2,h3⟩;exact⟨_,h3,fun k' hk=>⟨h0,e,h1,h2,hk⟩⟩
def Zj (len sz:Nat) (agg:Option Nat) (x i:V):An (LY len sz agg x i):=by
 unfold LY;cases x<;>first|exact An.no|skip
 cases i<;>first|exact An.no|skip
 exact(Me _ _ _).and.and
def fD (x i:V):An (QM x i):=by
 unfold QM;cases x<;>first|exact An.no|skip
 cases i<;>first|exact An.no|skip
 refine An.and ?_;rename_i b _ j;cases b.data.toList[j.toNat]? with
 | none=>exact An.no
 | some c=>exact An.one _
def mC (x:V):An (Ax x):=by
 unfold Ax;cases x<;>first|exact An.no|exact An.one _|exact(An.one _).and
def fF (Z:AE) (x:V):An (K7 Z x):=by
 unfold K7;cases x<;>first|exact An.no|exact An.one _|skip
 case m n=>
  simp only;cases Z n with
  | none=>exact An.no
  | some o=>cases o<;>first|exact An.no|exact(An.one _).and
def dz {Z Z':AE} (hs:Sub Z Z') {x:V} {k:V->Prop} (h:K7 Z x k):K7 Z' x k:=by
 unfold K7 at *;cases x<;>first|exact h|skip
 case m n=>
  simp only at *;cases hn:Z n with
  | none=>rw[hn]at h;exact h.elim
  | some o=>rw[hs n o hn];rw[hn]at h;exact h
def KW {o:Option V} {d:Int} {k:Int->Prop} (h:Of o d k): ∃v,k v/\ ∀k':Int->Prop,k' v->Of o d k':=by
 unfold Of at *;split at h
 .exact⟨_,h,fun _ h=>h⟩
 .exact⟨_,h,fun _ h=>h⟩
 .exact h.elim
def Zi {sz:Nat} {x:V} {a b:Option V} {k:V->AE->Prop} (h:AQ Z sz x a b none k): ∃v,k v Z/\ ∀Z' (k':V->AE->Prop),k' v Z'->AQ Z' sz x a b none k':=by
 unfold AQ at *;cases x<;>first|exact h.elim|skip
 .simp only at *
  obtain⟨h0,h⟩:=h;obtain⟨hh,h,g1⟩:=KW h;obtain⟨l,h,g2⟩:=KW h;exact⟨_,h.2.2.2,fun Z' k' hk=>⟨h0,g1 _ (g2 _ ⟨h.1,h.2.1,h.2.2.1,hk⟩)⟩⟩
 .simp only at *
  obtain⟨hh,h,g1⟩:=KW h;obtain⟨l,h,g2⟩:=KW h;exact⟨_,h.2.2.2,fun Z' k' hk=>g1 _ (g2 _ ⟨h.1,h.2.1,h.2.2.1,hk⟩)⟩
 .simp only at *
  obtain⟨hh,h,g1⟩:=KW h;obtain⟨l,h,g2⟩:=KW h;exact⟨_,h.2.2.2.2.2,fun Z' k' hk=>g1 _ (g2 _ ⟨h.1,h.2.1,h.2.2.1,h.2.2.2.1,trivial,hk⟩)⟩
def Ra {sz:Nat} {y:V} {k:List (List V)->Prop} (h:rowsOf Z sz y k): ∃ys,k ys/\ ∀Z' (k':List (List V)->Prop),Sub Z Z'->k' ys->rowsOf Z' sz y k':=by
 unfold rowsOf at *;cases y<;>first|exact h.elim|skip
 .exact⟨_,h.2,fun _ _ _ hk=>⟨h.1,hk⟩⟩
 .rename_i m len cap
  simp only at *;cases hm:Z m with
  | none=>rw[hm]at h;exact h.elim
  | some o=>
    rw[hm]at h;cases o<;>first|exact h.elim|skip
    exact⟨_,h.2.2,fun Z' k' hs hk=>by rw[hs m _ hm];exact⟨h.1,h.2.1,hk⟩⟩
 .rename_i m s off len
  simp only at *;cases hm:Z m with
  | none=>rw[hm]at h;exact h.elim
  | some o=>
    rw[hm]at h;cases o<;>first|exact h.elim|skip
    exact⟨_,h.2.2.2,fun Z' k' hs hk=>by rw[hs m _ hm];exact⟨h.1,h.2.1,h.2.2.1,hk⟩⟩
def lW {x:V} {k:V->Prop} (h:gP Z x k): ∃v,k v/\ ∀Z' (k':V->Prop),Sub Z Z'->k' v->gP Z' x k':=by
 obtain⟨ys,h1,h2⟩:=Ra h;cases hn:Fb ys with
 | none=>rw[hn]at h1;exact h1.elim
 | some ns=>
   rw[hn]at h1;exact⟨_,h1,fun Z' k' hs hk=>h2 Z' _ hs (by rw[hn];exact hk)⟩
def fG {b sz:Nat} {x y:V} {k:V->Prop} (h:AY b Z sz x y k): ∃v,k v/\ ∀Z' (k':V->Prop),Sub Z Z'->k' v->AY b Z' sz x y k':=by
 unfold AY at *;obtain⟨ys,⟨h1,h2⟩,h3⟩:=Ra h;cases x<;>first|exact h2.elim|skip
 exact⟨_,h2.2.2.2,fun Z' k' hs hk=>h3 Z' _ hs ⟨h1,h2.1,h2.2.1,h2.2.2.1,hk⟩⟩
def X9 {ks:KS} {z:V} {ok:Bool} {vm vk:V} {k:V->Prop} (h:AN Z ks z ok vm vk k): ∃v,k v/\ ∀Z' (k':V->Prop),Sub Z Z'->k' v->AN Z' ks z ok vm vk k':=by
 unfold AN at *;obtain⟨h0,h⟩:=h;cases vm<;>first|exact h.elim|skip
 .rename_i n
  simp only at *;cases hn:Z n with
  | none=>rw[hn]at h;exact h.elim
  | some o=>
    rw[hn]at h;cases o<;>first|exact h.elim|skip
    exact⟨_,h.2,fun Z' k' hs hk=>⟨h0,by rw[hs n _ hn];exact⟨h.1,hk⟩⟩⟩
 .exact⟨_,h,fun Z' k' hs hk=>⟨h0,hk⟩⟩
inductive Kd where
 | P|N|A|AA|H
 deriving DecidableEq,Repr
def kd:GJ->Kd
 | .load _ _=> .N
 | .UN _=> .N
 | .str _=> .N
 | .Sh _ _ _ _=> .N
 | .box _=> .A
 | .append _ _ x _=>match x with| .c (.l [] true)=> .A|_=> .H
 | .alloc _=> .AA
 | .slice _ _ _ _ mx=>match mx with|none=> .N|some _=> .H
 | .store _ _ _| .copy _ _ _| .Ef _ _ _ _| .panic _| .call _ _| .Jy _ _| .Yt _ _| .inv _ _ _| .Oi| .GW _ _ _ _ _| .fm _ _ _| .m8 _=> .H
 | .lookup _ _ _ _ _=> .N
 | _=> .P
def AAv {o:GJ} (hk:kd o= .P): ∃AD:(V->Prop)->Prop,An AD/\ ∀Z (k kp:V->AE->Prop),Fp P o env Z k kp=AD (fun v=>k v Z):=by
 cases o<;>first|(simp[kd]at hk;done)|skip
 case mv x=>exact⟨fun k=>wv (ev env x) k,An.wv fun v=>An.one v,fun _ _ _=>rfl⟩
 case pick c a b=>
  refine⟨fun k=>wv (ev env c) fun vc=>wv (ev env a) fun va=>wv (ev env b) fun vb=>match vc with| .b t=>(match va,vb with| .b x,.b y=>k (.b (bif t then x else y))|_,_=>k (bif t then va else vb))|_=>False,?_,fun _ _ _=>rfl⟩;refine An.wv fun vc=>An.wv fun va=>An.wv fun vb=>?_
  cases vc<;>first|exact An.no|skip
  cases va<;>first|exact An.one _|skip
  cases vb<;>exact An.one _
 case bin op x y=>exact⟨fun k=>wv (ev env x) fun vx=>wv (ev env y) fun vy=>Vv op vx vy k,An.wv fun _=>An.wv fun _=>mD _ _ _,fun _ _ _=>rfl⟩
 case nD n x y=>
  refine⟨fun k=>wv (ev env x) fun vx=>wv (ev env y) fun vy=>match vx,vy with| .b p,.b q=>k (.b (bif n then p != q else p==q))|_,_=>False,?_,fun _ _ _=>rfl⟩;refine An.wv fun vx=>An.wv fun vy=>?_
  cases vx<;>cases vy<;>first|exact An.no|exact An.one _
 case nC q n x y=>
  refine⟨fun k=>wv (ev env x) fun vx=>wv (ev env y) fun vy=>UO q n vx vy k,An.wv fun vx=>An.wv fun vy=>?_,fun _ _ _=>rfl⟩;unfold UO;cases vx<;>first|exact An.no|skip
  cases vy<;>first|exact An.no|skip
  simp only;split<;>first|exact An.no|exact An.one _
 case not x=>
  refine⟨fun k=>wv (ev env x) fun vx=>match vx with| .b p=>k (.b (!p))|_=>False,An.wv fun vx=>?_,fun _ _ _=>rfl⟩;cases vx<;>first|exact An.no|exact An.one _
 case neg xor x=>
  refine⟨fun k=>wv (ev env x) fun vx=>match vx with| .i ka a=>k (.i ka (bif xor then bits .xor ka (bif ka.signed then -1 else ka.max) a else ka.wrap (0 - a)))|_=>False,An.wv fun vx=>?_,fun _ _ _=>rfl⟩;cases vx<;>first|exact An.no|exact An.one _
 case conv ka x=>
  refine⟨fun k=>wv (ev env x) fun vx=>match vx with| .i _ a=>k (.i ka (ka.wrap a))|_=>False,An.wv fun vx=>?_,fun _ _ _=>rfl⟩;cases vx<;>first|exact An.no|exact An.one _
 case PM x=>
  refine⟨fun k=>wv (ev env x) fun vx=>match cellsOf vx with|some cs=>k (.rp cs)|none=>False,An.wv fun vx=>?_,fun _ _ _=>rfl⟩;cases cellsOf vx<;>first|exact An.no|exact An.one _
 case build z ps=>exact⟨fun k=>ws (K9 env z ps) fun cs=>k (.a cs),An.ws fun _=>An.one _,fun _ _ _=>rfl⟩
 case Hi sz len z ps=>exact⟨fun k=>wr (Jv env z.length (List.replicate len z) ps) fun es=>k (.l es true),An.wr fun _=>An.one _,fun _ _ _=>rfl⟩
 case GO off x=>exact⟨fun k=>wv (ev env x) fun vx=>LZ off vx k,An.wv fun _=>Zl _ _,fun _ _ _=>rfl⟩
 case field agg off x=>
  refine⟨fun k=>wv (ev env x) fun vx=>match vx with| .a cs=>cut agg cs off k|_=>False,An.wv fun vx=>?_,fun _ _ _=>rfl⟩;cases vx<;>first|exact An.no|exact Me _ _ _
 case MF sz arr x i=>exact⟨fun k=>wv (ev env x) fun vx=>wv (ev env i) fun vi=>AR sz arr vx vi k,An.wv fun _=>An.wv fun _=>Zk _ _ _ _,fun _ _ _=>rfl⟩
 case Vp x i=>exact⟨fun k=>wv (ev env x) fun vx=>wv (ev env i) fun vi=>QM vx vi k,An.wv fun _=>An.wv fun _=>fD _ _,fun _ _ _=>rfl⟩
 case index len sz agg x i=>exact⟨fun k=>wv (ev env x) fun vx=>wv (ev env i) fun vi=>LY len sz agg vx vi k,An.wv fun _=>An.wv fun _=>Zj _ _ _ _ _,fun _ _ _=>rfl⟩
 case len x=>exact⟨fun k=>wv (ev env x) fun vx=>Ax vx k,An.wv fun _=>mC _,fun _ _ _=>rfl⟩
 case Vs x y=>
  refine⟨fun k=>wv (ev env x) fun vx=>wv (ev env y) fun vy=>match vx,vy with| .i ka a,.i kb b=>ka=kb/\k (.i ka (if b > a then b else a))|_,_=>False,?_,fun _ _ _=>rfl⟩;refine An.wv fun vx=>An.wv fun vy=>?_
  cases vx<;>cases vy<;>first|exact An.no|exact(An.one _).and
 case Vr x y=>
  refine⟨fun k=>wv (ev env x) fun vx=>wv (ev env y) fun vy=>match vx,vy with| .i ka a,.i kb b=>ka=kb/\k (.i ka (if b<a then b else a))|_,_=>False,?_,fun _ _ _=>rfl⟩;refine An.wv fun vx=>An.wv fun vy=>?_
  cases vx<;>cases vy<;>first|exact An.no|exact(An.one _).and
 case extract i x=>
  refine⟨fun k=>wv (ev env x) fun vx=>match vx with| .t vs=>(match vs[i]? with|some v=>k v|none=>False)|_=>False,An.wv fun vx=>?_,fun _ _ _=>rfl⟩;cases vx<;>first|exact An.no|skip
  rename_i vs;simp only;cases vs[i]? <;>first|exact An.no|exact An.one _
 case JK x=>
  refine⟨fun k=>wv (ev env x) fun vx=>match vx with
   | .p n off=>k (.p n off)
   | .rp cs=>k (.rp cs)
   | .pe n sz i off=>k (.pe n sz i off)
   | .f (.func f) first cap=>k (.f (.func f) first cap)
   | .f (.yield l) first cap=>k (.f (.yield l) first cap)
   | _=>False,An.wv fun vx=>?_,fun _ _ _=>rfl⟩
  cases vx<;>first|exact An.no|exact An.one _|skip
  rename_i f a b;cases f<;>first|exact An.no|exact An.one _
 case fk f a b=>exact⟨fun k=>ws (Vl env a) fun vf=>ws (Vl env b) fun vc=>k (.f f vf vc),An.ws fun _=>An.ws fun _=>An.one _,fun _ _ _=>rfl⟩
 case Oj t x=>exact⟨fun k=>wv (ev env x) fun vx=>k (.FO t vx),An.wv fun _=>An.one _,fun _ _ _=>rfl⟩
 case fh t z ok x=>
  refine⟨fun k=>wv (ev env x) fun vx=>match vx with
   | .FO t' v=>(t'=t->k (bif ok then .t [v,.b true]else v))/\(t'≠t->ok=true/\k (.t [z,.b false]))
   | .Dv=>ok=true/\k (.t [z,.b false])
   | _=>False,An.wv fun vx=>?_,fun _ _ _=>rfl⟩
  cases vx<;>first|exact An.no|exact(An.one _).and|skip
  rename_i t' v;simp only;by_cases ht:t'=t
  .simpa[ht]using An.one _
  .simpa[ht]using(An.one (.t [z,.b false])).and
 case MK f as=>
  refine⟨fun k=>ws (Vl env as) fun vs=> ∃v,Au P f vs (fun _=>none) (fun r Z'=>r= .ret v/\Z'=fun _=>none)/\k v,An.ws fun vs=>?_,fun _ _ _=>rfl⟩;intro k ⟨v,h1,h2⟩;exact⟨v,h2,fun k' hk=>⟨v,h1,hk⟩⟩
 case slice s x a b c=>
  exfalso;simp only[kd]at hk;split at hk<;>cases hk
 case append a b x y=>
  exfalso;simp only[kd]at hk;split at hk<;>cases hk
 all_goals exact⟨fun _=>False,An.no,fun _ _ _=>rfl⟩
def still (o:GJ):Bool:=match kd o with| .P=>true| .N=>true|_=>false
def IP {o : GJ} (hs:still o=true) {k kp:V->AE->Prop} (h:Fp P o env Z k kp) :
    ∃v,k v Z/\ ∀Z' (k' kp':V->AE->Prop),(kd o= .P\/Sub Z Z')->k' v Z'->Fp P o env Z' k' kp':=by
 unfold still at hs;cases hk:kd o<;>rw[hk]at hs<;>first|(cases hs;done)|skip
 .obtain⟨AD,h1,h2⟩:=AAv (P:=P) (env:=env) hk
  rw[h2]at h;obtain⟨v,h3,h4⟩:=h1 _ h;exact⟨v,h3,fun Z' k' kp' _ hv=>by rw[h2];exact h4 _ hv⟩
 .cases o <;>first|(simp[kd]at hk;done)|skip
  case load agg x=>
   simp only[Fp]at *;cases hx:ev env x with
   | none=>rw[hx]at h;exact h.elim
   | some vx=>
     rw[hx]at h;obtain⟨v,h3,h4⟩:=fE Z agg vx _ h;refine⟨v,h3,fun Z' k' kp' hs hv=>dy (hs.resolve_left (by simp)) (h4 _ hv)⟩
  case UN x=>
   simp only[Fp]at *;cases hx:ev env x with
   | none=>rw[hx]at h;exact h.elim
   | some vx=>
     rw[hx]at h
     try simp only[FD]at h ⊢
     obtain⟨v,h3,h4⟩:=fF Z vx _ h;refine⟨v,h3,fun Z' k' kp' hs hv=>dz (hs.resolve_left (by simp)) (h4 _ hv)⟩
  case str x=>
   simp only[Fp]at *;cases hx:ev env x with
   | none=>rw[hx]at h;exact h.elim
   | some vx=>
     rw[hx]at h
     try simp only[FD]at h ⊢
     obtain⟨v,h3,h4⟩:=lW h;exact⟨v,h3,fun Z' k' kp' hs hv=>h4 _ _ (hs.resolve_left (by simp)) hv⟩
  case lookup ks z ok x y=>
   simp only[Fp]at *;cases hx:ev env x with
   | none=>rw[hx]at h;exact h.elim
   | some vx=>
     rw[hx]at h
     try simp only[FD]at h ⊢
     cases hy:ev env y with
     | none=>rw[hy]at h;exact h.elim
     | some vy=>
       rw[hy]at h
       try simp only[FD]at h ⊢
       obtain⟨v,h1,h2⟩:=X9 h;exact⟨v,h1,fun Z' k' kp' hs hk'=>h2 Z' _ (hs.resolve_left (by simp)) hk'⟩
  case Sh a b x y=>
   simp only[Fp]at *;cases hx:ev env x with
   | none=>rw[hx]at h;exact h.elim
   | some vx=>
     rw[hx]at h
     try simp only[FD]at h ⊢
     cases hy:ev env y with
     | none=>rw[hy]at h;exact h.elim
     | some vy=>
       rw[hy]at h
       try simp only[FD]at h ⊢
       obtain⟨v,h1,h2⟩:=fG h;exact⟨v,h1,fun Z' k' kp' hs hk'=>h2 Z' _ (hs.resolve_left (by simp)) hk'⟩
  case slice s x a b c=>
   cases c with
   | some c=>simp[kd]at hk
   | none=>
     simp only[Fp]at *;cases hx:ev env x with
     | none=>rw[hx]at h;exact h.elim
     | some vx=>
       rw[hx]at h
       try simp only[FD]at h ⊢
       cases ha:Hz env a with
       | none=>rw[ha]at h;exact h.elim
       | some va=>
         rw[ha]at h
         try simp only[aI]at h ⊢
         cases hb:Hz env b with
         | none=>rw[hb]at h;exact h.elim
         | some vb=>
           rw[hb]at h;simp only[aI,Hz]at h ⊢;obtain⟨v,h1,h2⟩:=Zi h;exact⟨v,h1,fun Z' k' kp' _ hk'=>h2 Z' k' hk'⟩
  case append a b x y=>
   exfalso;simp only[kd]at hk;split at hk<;>cases hk
end Go.Gl
namespace Go.Gl
variable {P:Program} {F:Nat->Prop} {Z:AE}
def HA (Z:AE) (D:Nat->Prop):AE:=fun n=>open Classical in if D n then Z n else none
def Db {D:Nat->Prop} {n:Nat} (h:D n):HA Z D n=Z n:=by unfold HA;rw[if_pos h]
def Dg {D:Nat->Prop} {n:Nat} (h: ¬D n):HA Z D n=none:=by unfold HA;rw[if_neg h]
def join (Z τ:AE):AE:=fun n=>match Z n with|some o=>some o|none=>τ n
def Au.frame {f:FuncId} {args:List V} {Q:R->AE->Prop} (D:Nat->Prop) (h:Au P f args (HA Z D) Q) :
    Au P f args Z fun r Z'=> ∃Z1,Q r Z1/\(∀n,¬D n->Z n≠none->Z1 n=none)/\Z'=join Z1 (HA Z fun n=> ¬D n):=by
 refine⟨h.1,fun F w cs hR hv=>?_⟩
 have hH:(Hh (fun n=>F n\/(¬D n/\Z n≠none)) (HA Z D) w)=Hh F Z w:=by
  funext b o;unfold Hh;by_cases hb:F b\/(Z b).isSome=true
  .rw[if_pos hb,if_pos]
   rcases hb with hb|hb
   .exact .inl (.inl hb)
   .by_cases hd:D b
    .exact .inr (by rw[Db hd];exact hb)
    .exact .inl (.inr ⟨hd,by intro e;rw[e]at hb;cases hb⟩)
  .rw[if_neg hb,if_neg]
   rintro((h|h)|h)
   .exact hb (.inl h)
   .exact hb (.inr (by cases hs:Z b with|none=>exact absurd hs h.2|some o=>rfl))
   .by_cases hd:D b
    .rw[Db hd]at h;exact hb (.inr h)
    .rw[Dg hd]at h;cases h
 have hR1:Rel (fun n=>F n\/(¬D n/\Z n≠none)) (HA Z D) w:=by
  refine⟨fun n o ho=>?_,fun n hn=>?_⟩
  .by_cases hd:D n
   .rw[Db hd]at ho
    obtain⟨h1,ob,h2,h3⟩:=hR.own n o ho;refine⟨?_,ob,h2,by rw[hH];exact h3⟩;rintro(h|h)
    .exact h1 h
    .exact h.1 hd
   .rw[Dg hd]at ho;cases ho
  .rcases hn with hn|hn
   .exact hR.lock n hn
   .cases hs:Z n with
    | none=>exact absurd hs hn.2
    | some o=>exact hR.lt hs
 refine Calls.mono (h.2 _ w cs hR1 (by rw[hH];exact hv)) fun e w' ⟨r,Z1,hq,h1,h2,h3⟩=>?_
 have hfr: ∀n,¬D n->Z n≠none->Z1 n=none:=fun n hd hn=>by
  cases hs:Z1 n with
  | none=>rfl
  | some o=>exact absurd (.inr ⟨hd,hn⟩) (h2.own n o hs).1
 have hle:Zy (Hh (fun n=>F n\/(¬D n/\Z n≠none)) Z1 w') (Hh F (join Z1 (HA Z fun n=> ¬D n)) w'):=by
  intro b o c hc;obtain⟨k1,k2,k3⟩:=GX hc;rw[Ot (fun h=>k1 (.inl h)) ?_]
  .exact k3
  .simp only[join,k2]
   by_cases hd:D b
   .exact Dg (fun h=>h hd)
   .rw[Db hd]
    cases hs:Z b with
    | none=>rfl
    | some o=>exact absurd (.inr ⟨hd,by rw[hs];simp⟩) k1
 have hA:B8 F Z w (join Z1 (HA Z fun n=> ¬D n)) w':=by
  refine⟨fun n hn h0=>h3.frame n hn ?_,h3.size,h3.os,h3.tape,h3.output,fun n h0 hn=>?_⟩
  .by_cases hd:D n
   .rw[Db hd];exact h0
   .exact Dg hd
  .have:Z1 n=none:=h3.names n (by
    by_cases hd:D n
    .rw[Db hd];exact h0
    .exact Dg hd) hn
   simp only[join,this];by_cases hd:D n
   .exact Dg (fun h=>h hd)
   .rw[Db hd];exact h0
 refine⟨r,_,⟨Z1,hq,hfr,rfl⟩,?_,⟨fun n o ho=>?_,fun n hn=>h2.lock n (.inl hn)⟩,hA⟩
 .cases r with
  | ret v=>obtain⟨c,rfl,hv⟩:=h1;exact⟨c,rfl,hv.mono hle⟩
  | Bj v=>obtain⟨c,rfl,hv⟩:=h1;exact⟨c,rfl,hv.mono hle⟩
 .simp only[join]at ho
  cases hs:Z1 n with
  | some o1=>
    rw[hs]at ho;simp only[JD]at ho;subst ho;obtain⟨k1,ob,k2,k3⟩:=h2.own n _ hs;exact⟨fun h=>k1 (.inl h),ob,k2,k3.mono hle⟩
  | none=>
    rw[hs]at ho;simp only at ho;by_cases hd:D n
    .rw[Dg (fun h=>h hd)]at ho;cases ho
    .rw[Db hd]at ho
     obtain⟨k1,ob,k2,k3⟩:=hR.own n o ho;refine⟨k1,ob,(h3.frame n (hR.lt ho) (Dg hd)).trans k2,k3.mono ?_⟩;exact hA.hle
end Go.Gl
namespace Go.Gl
variable {P:Program} {F:Nat->Prop} {env env':Env} {Z:AE}
def Bs {o:Option V} {k k':V->Prop} (h:wv o k) (hm: ∀v,k v->k' v):wv o k':=by
 cases o with
 | none=>exact h
 | some v=>exact hm v h
def MP {o:Option (List V)} {k k':List V->Prop} (h:ws o k) (hm: ∀v,k v->k' v):ws o k':=by
 cases o with
 | none=>exact h
 | some v=>exact hm v h
def Uw {o:Option (Option V)} {k k':Option V->Prop} (h:wo o k) (hm: ∀v,k v->k' v):wo o k':=by
 cases o with
 | none=>exact h
 | some v=>exact hm v h
def Xx {sz:Nat} {a x:V} {k k':AE->Prop} (h:AS Z sz a x k) (hm: ∀Z',k Z'->k' Z'):AS Z sz a x k':=by
 unfold AS at *;split at h
 .rename_i vc hc
  obtain⟨h1,h2,h3⟩:=h;refine⟨h1,h2,?_⟩;cases a<;>first|exact h3.elim|skip
  .simp only at *
   split at h3
   .exact⟨h3.1,hm _ h3.2⟩
   .exact h3.elim
  .simp only at *
   split at h3
   .refine⟨h3.1,?_⟩
    have h4:=h3.2;split at h4
    .exact⟨h4.1,hm _ h4.2⟩
    .exact h4.elim
   .exact h3.elim
 .exact h.elim
def E0 {sz:Nat} {y:V} {k k':List (List V)->Prop} (h:rowsOf Z sz y k) (hm: ∀v,k v->k' v):rowsOf Z sz y k':=by
 unfold rowsOf at *;cases y<;>first|exact h.elim|skip
 .exact⟨h.1,hm _ h.2⟩
 .simp only at *
  split at h
  .exact⟨h.1,h.2.1,hm _ h.2.2⟩
  .exact h.elim
 .simp only at *
  split at h
  .exact⟨h.1,h.2.1,h.2.2.1,hm _ h.2.2.2⟩
  .exact h.elim
def NK {b sz:Nat} {x y:V} {k k':V->AE->Prop} (h:AK b Z sz x y k) (hm: ∀v Z',k v Z'->k' v Z'):AK b Z sz x y k':=by
 unfold AK at *;refine E0 h fun ys ⟨h1,h2⟩=>⟨h1,?_⟩
 cases x<;>first|exact h2.elim|skip
 .simp only at *
  exact⟨h2.1,h2.2.1,fun e=>hm _ _ (h2.2.2.1 e),fun e=>⟨(h2.2.2.2 e).1,fun n cap h3 h4=>hm _ _ ((h2.2.2.2 e).2 n cap h3 h4)⟩⟩
 .simp only at *
  split at h2
  .exact⟨h2.1,h2.2.1,h2.2.2.1,h2.2.2.2.1,fun n cap h3 h4=>hm _ _ (h2.2.2.2.2 n cap h3 h4)⟩
  .exact h2.elim
def IF {o:Option V} {d:Int} {k k':Int->Prop} (h:Of o d k) (hm: ∀v,k v->k' v):Of o d k':=by
 unfold Of at *;split at h
 .exact hm _ h
 .exact hm _ h
 .exact h.elim
def Xz {sz:Nat} {x:V} {a b c:Option V} {k k':V->AE->Prop} (h:AQ Z sz x a b c k) (hm: ∀v Z',k v Z'->k' v Z'):AQ Z sz x a b c k':=by
 unfold AQ at *;cases x<;>first|exact h.elim|skip
 .simp only at *
  refine⟨h.1,IF h.2 fun hh h2=>IF h2 fun l h3=>⟨h3.1,h3.2.1,h3.2.2.1,?_⟩⟩;have h4:=h3.2.2.2;split at h4
  .exact hm _ _ h4
  .exact⟨h4.1,hm _ _ h4.2⟩
  .exact h4.elim
 .simp only at *
  refine IF h fun hh h2=>IF h2 fun l h3=>⟨h3.1,h3.2.1,h3.2.2.1,?_⟩
  have h4:=h3.2.2.2;split at h4
  .exact hm _ _ h4
  .refine⟨h4.1,h4.2.1,h4.2.2.1,?_⟩
   have h5:=h4.2.2.2;split at h5
   .exact⟨h5.1,h5.2.1,h5.2.2.1,h5.2.2.2.elim (fun h=> .inl (hm _ _ h)) fun h=> .inr (hm _ _ h)⟩
   .exact h5.elim
  .exact h4.elim
 .simp only at *
  exact IF h fun hh h2=>IF h2 fun l h3=>⟨h3.1,h3.2.1,h3.2.2.1,h3.2.2.2.1,h3.2.2.2.2.1,hm _ _ h3.2.2.2.2.2⟩
def Tc {sz:Nat} {ys:List (List V)} {n off len:Nat} {k k':V->AE->Prop} (h:QA Z sz ys n off len k) (hm: ∀v Z',k v Z'->k' v Z'):QA Z sz ys n off len k':=by
 unfold QA at *;split at h
 .exact⟨h.1,h.2.1,hm _ _ h.2.2⟩
 .exact h.elim
def ZO {sz:Nat} {x y:V} {k k':V->AE->Prop} (h:AX Z sz x y k) (hm: ∀v Z',k v Z'->k' v Z'):AX Z sz x y k':=by
 refine E0 h fun ys h=>⟨h.1,?_⟩
 have h:=h.2;split at h
 .exact Tc h hm
 .exact⟨h.1,Tc h.2 hm⟩
 .exact h.elim
def RM {o:GJ} {k k' kp kp':V->AE->Prop} (h:Fp P o env Z k kp) (hm: ∀v Z',k v Z'->k' v Z') (hp: ∀v Z',kp v Z'->kp' v Z'):Fp P o env Z k' kp':=by
 by_cases hs:still o=true
 .obtain⟨v,h1,h2⟩:=IP hs h
  exact h2 Z k' kp' (.inr fun _ _ h=>h) (hm _ _ h1)
 .cases o<;>first|(exact absurd rfl hs)|skip
  all_goals simp only[Fp]at *
  case box x=>
   refine Bs h fun v h=>?_
   split at h
   .exact fun n hn=>hm _ _ (h n hn)
   .exact h.elim
  case alloc z=>exact fun n hn=>hm _ _ (h n hn)
  case m8 x=>exact Bs h fun v ⟨vf,Z2,h1,h2,h3⟩=>⟨vf,Z2,h1,h2,hm _ _ h3⟩
  case Oi=>exact fun n hn=>hm _ _ (h n hn)
  case Ef ks x y z=>
   refine Bs h fun vm h=>Bs h fun vk h=>Bs h fun vx h=>?_
   unfold AP at *;obtain⟨h0,h⟩:=h;cases vm<;>first|exact h.elim|skip
   simp only at *;split at h
   .exact⟨h0,h.1,hm _ _ h.2⟩
   .exact h.elim
  case fm q n x=>
   refine Bs h fun vx h=>?_
   unfold Ji at *;split at h<;>first|exact h.elim|exact hm _ _ h|exact⟨fun e t=>hm _ _ (h.1 e t),fun e=>hm _ _ (h.2 e)⟩
  case GW a b c x y=>
   refine Bs h fun vx h=>Bs h fun vy h=>?_
   unfold AJ at *;split at h
   .exact⟨h.1,h.2.1,h.2.2.1,fun id hn=>hm _ _ (h.2.2.2 id hn)⟩
   .exact h.elim
  case store sz a x=>exact Bs h fun va h=>Bs h fun vx h=>Xx h fun Z' h=>hm _ _ h
  case slice sz x a b c=>exact Bs h fun vx h=>Uw h fun l h=>Uw h fun hh h=>Uw h fun m h=>Xz h hm
  case append sz b x y=>exact Bs h fun vx h=>Bs h fun vy h=>NK h hm
  case copy sz x y=>exact Bs h fun vx h=>Bs h fun vy h=>ZO h hm
  case inv tab x as=>exact Bs h fun vx h=>MP h fun vs h=>h.mono fun r Z' h=>by cases r<;>first|exact hm _ _ h|exact hp _ _ h
  case panic x=>
   refine Bs h fun vx h=>?_
   split at h
   .exact hp _ _ h
   .exact h.elim
  case call f as=>exact MP h fun vs h=>h.mono fun r Z' h=>by cases r<;>first|exact hm _ _ h|exact hp _ _ h
  case Jy x as=>
   exact Bs h fun vx h=>MP h fun vs h=>h.mono fun r Z' h=>by cases r<;>first|exact hm _ _ h|exact hp _ _ h
def HG {n:Nat} {o:O} (hn:Z n=none):Sub Z (B3 Z n o):=fun m p hp=>by
 unfold B3;split
 .rename_i e
  subst e;rw[hn]at hp;cases hp
 .exact hp
def calm (o:GJ):Bool:=match kd o with| .H=>false|_=>true
def O5 {b sz:Nat} {y:V} {k:V->AE->Prop}:AK b Z sz (.l [] true) y k=rowsOf Z sz y fun ys=>(∀e∈ys,∀v∈e,CO v=true)/\(ys.length<=AZ/\ys.length*b<=140737488355328)/\(ys= []->k (.l [] true) Z)/\
 (ys≠[]-> ∀n cap,Z n=none->ys.length<=cap->k (.sl n ys.length cap) (B3 Z n (.arr sz ys cap))):=by
 simp[AK]
def Ox {s:Nat} {x:Bn} {a b c:Option Bn} (h:calm (.slice s x a b c)=true):still (.slice s x a b c)=true:=by
 cases c with
 | none=>rfl
 | some c=>cases h
def Tb {a b:Nat} {x y:Bn} (h:kd (.append a b x y)≠ .H):x= .c (.l [] true):=by
 simp only[kd]at h;split at h
 .rfl
 .exact absurd rfl h
def cN {o:GJ} (hc:calm o=true) {k kp:V->AE->Prop} (h:Fp P o env Z k kp):Fp P o env Z (fun v Z'=>k v Z'/\Sub Z Z') kp:=by
 by_cases hs:still o=true
 .obtain⟨v,h1,h2⟩:=IP hs h
  exact h2 Z _ kp (.inr fun _ _ h=>h) ⟨h1,fun _ _ h=>h⟩
 .cases o<;>first|(exact absurd rfl hs)|(cases hc;done)|skip
  all_goals simp only[Fp]at *
  case slice s x a b c=>exact absurd (Ox hc) hs
  case box x=>
   refine Bs h fun v h=>?_
   split at h
   .exact fun n hn=>⟨h n hn,HG hn⟩
   .exact h.elim
  case alloc z=>exact fun n hn=>⟨h n hn,HG hn⟩
  case append sz b x y=>
   have hx:x= .c (.l [] true):=Tb (b:=b) (a:=sz) (y:=y) (by intro e;simp[calm,e]at hc);subst hx;change wv (ev env y) _ at h;change wv (ev env y) _;refine Bs h fun vy h=>?_
   rw[O5]at *;exact E0 h fun ys h=>⟨h.1,h.2.1,fun e=>⟨h.2.2.1 e,fun _ _ h=>h⟩,fun e n cap h3 h4=>⟨h.2.2.2 e n cap h3 h4,HG h3⟩⟩
def Qm {n m:Nat} (h:n≠m) (a b:O):B3 (B3 Z n a) m b=B3 (B3 Z m b) n a:=by
 funext k;unfold B3;by_cases h1:k=m
 .have h2:k≠n:=fun e=>h (e.symm.trans h1)
  rw[if_pos h1,if_neg h2,if_pos h1]
 .rw[if_neg h1,if_neg h1]
def LU {n m:Nat} (h:n≠m) {a:O}:B3 Z n a m=Z m:=by
 unfold B3;rw[if_neg (fun e=>h e.symm)]
def Nk {n:Nat} {a:O}:B3 Z n a n=some a:=by simp[B3]
def Y7 {Z':AE} (hs:Sub Z Z') {sz:Nat} {y:V} {k:List (List V)->Prop} (h:rowsOf Z sz y k):rowsOf Z' sz y k:=by
 unfold rowsOf at *;cases y<;>first|exact h.elim|exact h|skip
 .rename_i m len cap
  simp only at *;cases hm:Z m with
  | none=>rw[hm]at h;exact h.elim
  | some o=>rw[hm]at h;rw[hs m o hm];exact h
 .rename_i m s off len
  simp only at *;cases hm:Z m with
  | none=>rw[hm]at h;exact h.elim
  | some o=>rw[hm]at h;rw[hs m o hm];exact h
def Xc {o:GJ} (hc:calm o=true) {k kp:V->AE->Prop} (h:Fp P o env Z k kp) {m:Nat} {z:O} (hm:Z m=none) :
    Fp P o env (B3 Z m z) (fun v Z2=> ∃Z1,k v Z1/\Z1 m=none/\Z2=B3 Z1 m z) kp:=by
 by_cases hs:still o=true
 .obtain⟨v,h1,h2⟩:=IP hs h
  exact h2 _ _ kp (.inr (HG hm)) ⟨Z,h1,hm,rfl⟩
 .have hne: ∀n,B3 Z m z n=none->Z n=none/\n≠m:=fun n hn=>by
   have:n≠m:=fun e=>by rw[e,Nk]at hn;cases hn
   exact⟨by rwa [LU this.symm]at hn,this⟩
  cases o<;>first|(exact absurd rfl hs)|(cases hc;done)|skip
  all_goals simp only[Fp]at *
  case slice s x a b c=>exact absurd (Ox hc) hs
  case box x=>
   refine Bs h fun v h=>?_
   split at h
   .exact fun n hn=>⟨_,h n (hne n hn).1,by rw[LU (hne n hn).2];exact hm,Qm (hne n hn).2.symm _ _⟩
   .exact h.elim
  case alloc z'=>exact fun n hn=>⟨_,h n (hne n hn).1,by rw[LU (hne n hn).2];exact hm,Qm (hne n hn).2.symm _ _⟩
  case append sz b x y=>
   have hx:x= .c (.l [] true):=Tb (b:=b) (a:=sz) (y:=y) (by intro e;simp[calm,e]at hc);subst hx;change wv (ev env y) _ at h;change wv (ev env y) _;refine Bs h fun vy h=>?_
   rw[O5]at *;refine E0 (Y7 (HG hm) h) fun ys h=>⟨h.1,h.2.1,fun e=>⟨Z,h.2.2.1 e,hm,rfl⟩,fun e n cap h3 h4=>?_⟩
   exact⟨_,h.2.2.2 e n cap (hne n h3).1 h4,by rw[LU (hne n h3).2];exact hm,Qm (hne n h3).2.symm _ _⟩
def Yh:GJ->Bool| .call _ _=>true|_=>false
def Xd {o:GJ} (hc:Yh o=true) {k kp:V->AE->Prop} (hU: ∀v Z m z,Z m=none->kp v Z->kp v (B3 Z m z)) (h:Fp P o env Z k kp) {m:Nat} {z:O} (hm:Z m=none) :
    Fp P o env (B3 Z m z) (fun v Z2=> ∃Z1,k v Z1/\Z1 m=none/\Z2=B3 Z1 m z) kp:=by
 cases o<;>first|(cases hc;done)|skip
 rename_i f args;simp only[Fp]at *;refine MP h fun vs h=>?_
 have hr:HA (B3 Z m z) (fun n=>n≠m)=Z:=by
  funext n;by_cases hn:n=m
  .subst hn;rw[Dg (fun h=>h rfl),hm]
  .rw[Db hn];simp[B3,hn]
 have h':Au P f vs (HA (B3 Z m z) fun n=>n≠m) (qk k kp):=by rw[hr];exact h
 refine Au.mono (Au.frame (fun n=>n≠m) h') fun r Z' ⟨Z1,hq,hfr,he⟩=>?_
 have h1:Z1 m=none:=hfr m (fun h=>h rfl) (by rw[Nk];simp)
 have h2:Z'=B3 Z1 m z:=by
  rw[he];funext n;simp only[join];by_cases hn:n=m
  .subst hn
   rw[h1];simp only;rw[Db (fun h=>h rfl),Nk,Nk]
  .rw[Dg (fun h=>h hn)]
   cases hs:Z1 n with
   | none=>simp[B3,hn,hs]
   | some o=>simp[B3,hn,hs]
 cases r with
 | ret v=>exact⟨Z1,hq,h1,h2⟩
 | Bj v=>rw[h2];exact hU _ _ _ _ h1 hq
structure Ar where
 dst:Option Nat
 op:GJ
 guard:Option (Nat×Bool)
 deriving Inhabited
def put (d:Option Nat) (v:V) (env:Env):Env:=match d with|some d=>(d,v)::env|none=>env
def Ia (P:Program) (o:Ar) (env:Env) (Z:AE) (k kp:V->AE->Prop):Prop:=
 match o.guard with
 | none=>Fp P o.op env Z k kp
 | some (g,b)=>match get g env with
   | some (.b t)=>(t=b->Fp P o.op env Z k kp)/\(t= !b->k (.t []) Z)
   | some (.t [])=>k (.t []) Z
   | _=>False
def looks (o:Ar):List Nat:=reads o.op++(match o.guard with|some (g,_)=>[g]|none=>[])
def Ge {o:Ar} {k kp:V->AE->Prop} (h: ∀s∈looks o,get s env'=get s env):Ia P o env' Z k kp=Ia P o env Z k kp:=by
 unfold Ia;unfold looks at h;cases hg:o.guard with
 | none=>exact T9 fun s hs=>h s (PW _ hs)
 | some p=>
   obtain⟨g,b⟩:=p;simp only;rw[h g (by rw[hg];simp),T9 fun s hs=>h s (PW _ hs)]
def CN {o:Ar} {k k' kp kp':V->AE->Prop} (h:Ia P o env Z k kp) (hm: ∀v Z',k v Z'->k' v Z') (hp: ∀v Z',kp v Z'->kp' v Z'):Ia P o env Z k' kp':=by
 unfold Ia at *;split at h
 .exact RM h hm hp
 .split at h
  .exact⟨fun e=>RM (h.1 e) hm hp,fun e=>hm _ _ (h.2 e)⟩
  .exact hm _ _ h
  .exact h.elim
def UA {o:Ar} (hs:still o.op=true) {k kp:V->AE->Prop} (h:Ia P o env Z k kp) :
    ∃v,k v Z/\ ∀Z' (k' kp':V->AE->Prop),(kd o.op= .P\/Sub Z Z')->k' v Z'->Ia P o env Z' k' kp':=by
 unfold Ia at *;split at h
 .obtain⟨v,h1,h2⟩:=IP hs h
  exact⟨v,h1,fun Z' k' kp' hσ hk=>h2 Z' k' kp' hσ hk⟩
 .rename_i g b hg
  split at h
  .rename_i t ht
   skip
   by_cases htb:t=b
   .obtain⟨v,h1,h2⟩:=IP hs (h.1 htb)
    refine⟨v,h1,fun Z' k' kp' hσ hk=>?_⟩;exact⟨fun _=>h2 Z' k' kp' hσ hk,fun e=>absurd (htb.symm.trans e) (by cases b<;>simp)⟩
   .refine⟨.t [],h.2 (by cases t<;>cases b<;>simp_all),fun Z' k' kp' hσ hk=>?_⟩
    exact⟨fun e=>absurd e htb,fun _=>hk⟩
  .exact⟨.t [],h,fun Z' k' kp' hσ hk=>hk⟩
  .exact h.elim
def cO {o:Ar} (hc:calm o.op=true) {k kp:V->AE->Prop} (h:Ia P o env Z k kp):Ia P o env Z (fun v Z'=>k v Z'/\Sub Z Z') kp:=by
 unfold Ia at *;split at h
 .exact cN hc h
 .split at h
  .exact⟨fun e=>cN hc (h.1 e),fun e=>⟨h.2 e,fun _ _ h=>h⟩⟩
  .exact⟨h,fun _ _ h=>h⟩
  .exact h.elim
def ml {o:Ar} (hc:calm o.op=true) {k kp:V->AE->Prop} (h:Ia P o env Z k kp) {m:Nat} {z:O} (hm:Z m=none) :
    Ia P o env (B3 Z m z) (fun v Z2=> ∃Z1,k v Z1/\Z1 m=none/\Z2=B3 Z1 m z) kp:=by
 unfold Ia at *;split at h
 .exact Xc hc h hm
 .split at h
  .exact⟨fun e=>Xc hc (h.1 e) hm,fun e=>⟨Z,h.2 e,hm,rfl⟩⟩
  .exact⟨Z,h,hm,rfl⟩
  .exact h.elim
def Z4 (o:GJ):Bool:=calm o||Yh o
def fX {o:Ar} (hc:Z4 o.op=true) {k kp:V->AE->Prop} (hU: ∀v Z m z,Z m=none->kp v Z->kp v (B3 Z m z)) (h:Ia P o env Z k kp) {m:Nat} {z:O} (hm:Z m=none) :
    Ia P o env (B3 Z m z) (fun v Z2=> ∃Z1,k v Z1/\Z1 m=none/\Z2=B3 Z1 m z) kp:=by
 cases hc':calm o.op with
 | true=>exact ml hc' h hm
 | false=>
   have hc2:Yh o.op=true:=by simpa[Z4,hc']using hc
   unfold Ia at *;split at h
   .exact Xd hc2 hU h hm
   .split at h
    .exact⟨fun e=>Xd hc2 hU (h.1 e) hm,fun e=>⟨Z,h.2 e,hm,rfl⟩⟩
    .exact⟨Z,h,hm,rfl⟩
    .exact h.elim
end Go.Gl
namespace Go.Gl
variable {P:Program} {F:Nat->Prop} {env env':Env} {Z:AE}
structure Cq where
 i:Nat
 o:Ar
 sR:List Nat
 re:List Ar
 deriving Inhabited
def AG (x:Ar):List Nat:=(match x.dst with|some d=>[d]|none=>[])++looks x
def H4 (P:Program) (x:Ar) (env:Env) (Z:AE):Prop:=Ia P x env Z (fun u _=> ∀s,x.dst=some s->get s env=some u) (fun _ _=>False)
def ET (P:Program):List Ar->Env->AE->Prop
 | [],_,_=>True
 | x::r,env,Z=>H4 P x env Z/\ET P r env Z
def ET.mem: ∀ {l:List Ar},ET P l env Z-> ∀x∈l,H4 P x env Z
 | _::_,h,_,.head _=>h.1
 | _::_,h,x,.tail _ hx=>ET.mem h.2 x hx
def Da (P:Program):List Cq->(Env->AE->Prop)->(V->AE->Prop)->Env->AE->Prop
 | [],K,_,env,Z=>K env Z
 | d::r,K,kp,env,Z=>Ia P d.o env Z (fun v Z'=>ET P d.re (put d.o.dst v env) Z'/\Da P r K kp (put d.o.dst v env) Z') kp
def m5 (env env':Env):Prop:= ∀s,get s env=get s env'
def Ci {s:Nat} {d:Option Nat} {v:V} (h:d≠some s):get s (put d v env)=get s env:=by
 cases d with
 | none=>rfl
 | some d=>
   simp only[put,get];cases hb:Nat.beq d s with
   | false=>rfl
   | true=>exact absurd (by rw[Vj hb]) h
def Ep {s:Nat} {v:V}:get s (put (some s) v env)=some v:=by simp[put,get]
def m5.put {d:Option Nat} {v:V} (h:m5 env env'):m5 (Gl.put d v env) (Gl.put d v env'):=fun s=>by
 by_cases hd:d=some s
 .subst hd
  rw[Ep,Ep]
 .rw[Ci hd,Ci hd,h]
def lk {d e:Option Nat} {v u:V} (h: ∀s,d=some s->e≠some s):m5 (Gl.put d v (Gl.put e u env)) (Gl.put e u (Gl.put d v env)):=fun s=>by
 by_cases hd:d=some s
 .subst hd
  rw[Ep,Ci (h s rfl),Ep]
 .rw[Ci hd]
  by_cases he:e=some s
  .subst he
   rw[Ep,Ep]
  .rw[Ci he,Ci he,Ci hd]
def PC {x:Ar} (h: ∀s∈AG x,get s env'=get s env) (hr:H4 P x env Z):H4 P x env' Z:=by
 unfold H4 at *;rw[Ge (env:=env) fun s hs=>h s (Od _ hs)];refine CN hr (fun v Z' hv s hs=>?_) fun _ _ h=>h
 rw[h s (PW _ (by rw[hs];simp))];exact hv s hs
def NR: ∀ {l:List Ar},(∀s,get s env'=get s env)->ET P l env Z->ET P l env' Z
 | [],_,_=>trivial
 | _::_,h,hr=>⟨PC (fun s _=>h s) hr.1,NR h hr.2⟩
section
variable {K:Env->AE->Prop} {kp:V->AE->Prop}
def Kt (U: ∀env env' Z,m5 env env'->K env Z->K env' Z): ∀ {l:List Cq} {env env':Env} {Z:AE},m5 env env'->Da P l K kp env Z->Da P l K kp env' Z
 | [],_,_,_,hg,h=>U _ _ _ hg h
 | d::r,env,env',Z,hg,h=>by
   simp only[Da]at *;rw[Ge (env:=env) fun s _=>(hg s).symm];exact CN h (fun v Z' ⟨h1,h2⟩=>⟨NR (fun s=>(hg.put s).symm) h1,Kt U hg.put h2⟩) fun _ _ h=>h
def sL (x y:Ar):Prop:=(∀d,x.dst=some d->d∉looks y/\y.dst≠some d)/\ ∀d,y.dst=some d->d∉looks x
def fresh (y x:Ar):Prop:= ∀d,y.dst=some d->d∉AG x
def okD (x y:Cq):Prop:=x.re= []/\sL x.o y.o/\
 ((still x.o.op=true/\calm y.o.op=true)\/kd x.o.op= .P\/(still x.o.op=true/\x.o∈y.re/\ ∀d,x.o.dst=some d->d∉looks x.o)\/(Z4 x.o.op=true/\y.re= []/\y.o.guard=none/\ ∃z,y.o.op= .alloc z))
def jc (hU: ∀v Z m z,Z m=none->kp v Z->kp v (B3 Z m z)) (U: ∀env env' Z,m5 env env'->K env Z->K env' Z) {i:Cq} {ys:List Cq}: ∀ {xs:List Cq},(∀x∈xs,okD x i)->xs.Pairwise (fun x y=>kd x.o.op= .N->fresh y.o x.o)->
    ∀ {env:Env} {Z:AE},Da P (xs++i::ys) K kp env Z->
    Ia P i.o env Z (fun u Z'=>(∀r∈i.re,(∀x∈xs,fresh x.o r)->H4 P r (put i.o.dst u env) Z')/\Da P (xs++ys) K kp (put i.o.dst u env) Z') kp
 | [],_,_,env,Z,h=>CN h (fun u Z' ⟨h1,h2⟩=>⟨fun r hr _=>h1.mem r hr,h2⟩) fun _ _ h=>h
 | x ::xs,hok,hpw,env,Z,h=>by
   simp only[List.cons_append,Da]at h;obtain⟨hpw1,hpw2⟩:=List.pairwise_cons.1 hpw;obtain⟨hre,⟨ha1,ha2⟩,hk⟩:=hok x (.head _)
   have h':Ia P x.o env Z (fun v Z1=>Ia P i.o (put x.o.dst v env) Z1 (fun u Z'=>(∀r∈i.re,(∀x∈xs,fresh x.o r)->H4 P r (put i.o.dst u (put x.o.dst v env)) Z')/\Da P (xs++ys) K kp (put i.o.dst u (put x.o.dst v env)) Z') kp) kp:=
    CN h (fun v Z1 hh=>jc hU U (fun y hy=>hok y (.tail _ hy)) hpw2 hh.2) fun _ _ h=>h
   have agx: ∀v,∀s∈looks i.o,get s (put x.o.dst v env)=get s env:=fun v s hs=>Ci fun e=>(ha1 s e).1 hs
   have agi: ∀(env:Env) u,∀s∈looks x.o,get s (put i.o.dst u env)=get s env:=fun env u s hs=>Ci fun e=>ha2 s e hs
   have hcm: ∀v u,m5 (put i.o.dst u (put x.o.dst v env)) (put x.o.dst v (put i.o.dst u env)):=fun v u=>lk fun s hs hx=>(ha1 s hx).2 hs
   have hRE: ∀v u Z',(∀r∈i.re,(∀x∈xs,fresh x.o r)->H4 P r (put i.o.dst u (put x.o.dst v env)) Z')-> ∀r∈i.re,(∀y∈x::xs,fresh y.o r)->H4 P r (put i.o.dst u env) Z':=fun v u Z' hh r hr hf=>by
    refine PC (fun s hs=>?_) (hh r hr fun y hy=>hf y (.tail _ hy));rw[hcm v u s,Ci fun e=>hf x (.head _) s e hs]
   by_cases hst:still x.o.op=true
   .obtain⟨v,hi,hd⟩:=UA hst h'
    have fin: ∀u Z',(kd x.o.op= .P\/Sub Z Z')->(∀r∈i.re,(∀x∈xs,fresh x.o r)->H4 P r (put i.o.dst u (put x.o.dst v env)) Z')->Da P (xs++ys) K kp (put i.o.dst u (put x.o.dst v env)) Z'->
     (∀r∈i.re,(∀y∈x::xs,fresh y.o r)->H4 P r (put i.o.dst u env) Z')/\Da P (x::xs++ys) K kp (put i.o.dst u env) Z':=fun u Z' hs h1 h2=>by
     refine⟨hRE v u Z' h1,?_⟩;simp only[List.cons_append,Da];rw[Ge (env:=env) (agi env u)];exact hd Z' _ _ hs ⟨by rw[hre];trivial,Kt U (hcm v u) h2⟩
    rw[Ge (env:=env) (agx v)]at hi;rcases hk with⟨_,hc⟩|hP|⟨_,hm,hself⟩|⟨_,_,hg,z,hz⟩
    .exact CN (cO hc hi) (fun u Z' ⟨⟨h1,h2⟩,hs⟩=>fin u Z' (.inr hs) h1 h2) fun _ _ h=>h
    .exact CN hi (fun u Z' ⟨h1,h2⟩=>fin u Z' (.inl hP) h1 h2) fun _ _ h=>h
    .by_cases hP:kd x.o.op= .P
     .exact CN hi (fun u Z' ⟨h1,h2⟩=>fin u Z' (.inl hP) h1 h2) fun _ _ h=>h
     have hN:kd x.o.op= .N:=by
      unfold still at hst;cases hkk:kd x.o.op<;>rw[hkk]at hst<;>simp_all
     refine CN hi (fun u Z' ⟨h1,h2⟩=>⟨hRE v u Z' h1,?_⟩) fun _ _ h=>h
     have hr:=h1 x.o hm fun y hy=>hpw1 y hy hN
     unfold H4 at hr;obtain⟨v',hv',hd'⟩:=UA hst hr;simp only[List.cons_append,Da]
     have hsame: ∀s∈looks x.o,get s (put i.o.dst u env)=get s (put i.o.dst u (put x.o.dst v env)):=fun s hs=>by
      rw[agi env u s hs,agi _ u s hs];by_cases hxs:x.o.dst=some s
      .exact absurd hs (hself s hxs)
      .rw[Ci hxs]
     rw[Ge (env:=put i.o.dst u (put x.o.dst v env)) hsame];refine hd' Z' _ kp (.inr fun _ _ h=>h) ⟨by rw[hre];trivial,?_⟩
     have hvv:put x.o.dst v' (put i.o.dst u env)=put x.o.dst v (put i.o.dst u env):=by
      cases hxd:x.o.dst with
      | none=>rfl
      | some s=>
        have e:=hv' s hxd;rw[Ci (ha1 s hxd).2,hxd,Ep]at e;cases e;rfl
     rw[hvv];exact Kt U (hcm v u) h2
    .have hc:calm i.o.op=true:=by rw[hz];rfl
     exact CN (cO hc hi) (fun u Z' ⟨⟨h1,h2⟩,hs⟩=>fin u Z' (.inr hs) h1 h2) fun _ _ h=>h
   .rcases hk with⟨hst',_⟩|hP|⟨hst',_,_⟩|⟨hcx,hir,hg,z,hz⟩
    .exact absurd hst' hst
    .exact absurd (by unfold still;rw[hP]) hst
    .exact absurd hst' hst
    .unfold Ia
     rw[hg];simp only[hz,Fp];intro m hm;refine⟨fun r hr=>(by rw[hir]at hr;exact absurd hr (by simp)),?_⟩;simp only[List.cons_append,Da];rw[Ge (env:=env) (agi env _)];refine CN (fX hcx hU h' (z:= .cs z) hm) (fun v Z2 ⟨Z1,hh,h1,h2⟩=>?_) fun _ _ h=>h
     unfold Ia at hh;rw[hg]at hh;simp only[hz,Fp]at hh;subst h2;exact⟨by rw[hre];trivial,Kt U (hcm v _) (hh m h1).2⟩
end
end Go.Gl
