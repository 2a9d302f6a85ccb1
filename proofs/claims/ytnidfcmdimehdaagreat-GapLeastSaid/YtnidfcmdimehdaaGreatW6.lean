import Derived.DeepKeys3
import Derived.StringKeys
import Derived.Test.YtnidfcmdimehdaaGreatW5
set_option linter.all false
set_option linter.defProp false
set_option maxHeartbeats 8000000
noncomputable section
namespace Go.Gl
variable {P:Program} {F:Nat->Prop} {Z:AE} {w:World} {k kp:V->AE->Prop}
structure KL (P:Program) (kt:TypeId) (ok:Value->Prop):Prop where
 check: ∀(w:World) (em:Bool) {v:Value},ok v->(Instr.checkKey em 10000 kt v).run P w= .ok () w
 find: ∀(w:World) {x:Value},ok x-> ∀es:List MapEntry,(∀e∈es,ok e.key)->
  ((Instr.findKey kt x es).run P w= .ok none w/\ ∀e∈es,e.key≠x)\/ ∃j e,(Instr.findKey kt x es).run P w= .ok (some (j,e.val)) w/\es[j]? =some e/\e.key=x
 stays: ∀(w:World) {v:Value},ok v->(Instr.keyThatStays v v).run P w= .ok v w
def KL.of_law {kt:TypeId} (K:WideMaps.KeyLaw P kt):KL P kt fun v=> ∃l,keyOf P kt v=some l where
 check w em _ h:=let⟨_,h⟩:=h;K.check w em h
 find w _ h es hes:=let⟨_,h⟩:=h;K.find w h es hes
 stays w _ h:=let⟨_,h⟩:=h;K.stays w h
def Nh {q:IntKind} {ki:IntKind} (a:Int): ∀(es:List MapEntry) (i:Nat),(∀e∈es,∃b,e.key= .int ki b)->
    (Instr.findNow (.int q) (.int ki a) es i=some none/\ ∀e∈es,e.key≠ .int ki a)\/ ∃j e,Instr.findNow (.int q) (.int ki a) es i=some (some (i+j,e.val))/\es[j]? =some e/\e.key= .int ki a
 | [],i,_=> .inl ⟨rfl,by simp⟩
 | e ::es,i,h=>by
   obtain⟨b,hb⟩:=h e (.head _);simp only[Instr.findNow,hb,Instr.sameNow,if_true];by_cases hab:a=b
   .subst hab
    refine .inr ⟨0,e,by simp,rfl,hb⟩
   .have:(a==b)=false:=by simpa using hab
    rw[this];rcases Nh a es (i+1) (fun e he=>h e (.tail _ he))with⟨h1,h2⟩|⟨j,e',h1,h2,h3⟩
    .refine .inl ⟨h1,fun e' he'=>?_⟩
     rcases FR.1 he' with rfl|he'
     .rw[hb];intro e;cases e;exact hab rfl
     .exact h2 e' he'
    .exact .inr ⟨j+1,e',by rw[h1,show i+1+j=i+(j+1) by omega],h2,h3⟩
def cj {kt:TypeId} {q:IntKind} (hu:P.underlying kt=some (.int q)) (em:Bool) (n:Nat) (ki:IntKind) (b:Int):(Instr.checkKey em (n+1) kt (.int ki b)).run P w= .ok () w:=by
 simp only[Instr.checkKey,C5,BA hu,GA,EK]
def KL.int {kt:TypeId} {q:IntKind} (hu:P.underlying kt=some (.int q)) (ki:IntKind):KL P kt fun v=> ∃b,v= .int ki b where
 check w em v h:=by
  obtain⟨b,rfl⟩:=h;exact cj hu em 9999 ki b
 find w x h es hes:=by
  obtain⟨b,rfl⟩:=h;unfold Instr.findKey;simp only[C5,BA hu,GA];rcases Nh (q:=q) b es 0 hes with⟨h1,h2⟩|⟨j,e,h1,h2,h3⟩
  .exact .inl ⟨by rw[h1];rfl,h2⟩
  .exact .inr ⟨j,e,by rw[h1,F9];rfl,h2,h3⟩
 stays w v h:=by
  obtain⟨b,rfl⟩:=h;unfold Instr.keyThatStays;have:Instr.sameBits 10000 (.int ki b) (.int ki b)=true:=by simp[Instr.sameBits]
  rw[this];rfl
def Ints (cs cs':List Value):Prop:=cs.length=cs'.length/\ ∀(i:Nat) (a:Value),cs[i]? =some a-> ∃(q:IntKind) (n m:Int),a=Value.int q n/\cs'[i]? =some (Value.int q m)/\(Lit.int q m).wf=true
def Ints.part {cs cs':List Value} (h:Ints cs cs') (o n:Nat):Ints ((cs.drop o).take n) ((cs'.drop o).take n):=by
 refine⟨by simp[h.1],fun i a ha=>?_⟩;rw[List.getElem?_take]at ha ⊢;split at ha
 .rename_i hi
  rw[if_pos hi];rw[ui]at ha ⊢;exact h.2 _ _ ha
 .cases ha
def Tk {α β:Type} {f g:α->Option β}: ∀ {l:List α} {ys:List β},(∀x∈l,∀y,f x=some y-> ∃y',g x=some y')->l.mapM f=some ys-> ∃ys',l.mapM g=some ys'
 | [],_,_,_=>⟨[],by simp⟩
 | x::l,ys,h,hm=>by
   rw[List.mapM_cons]at hm;simp only[bind,Option.bind_eq_some_iff,pure,GU]at hm;obtain⟨y,h1,ys',h2,rfl⟩:=hm;obtain⟨y',h3⟩:=h x (.head _) y h1;obtain⟨ys'',h4⟩:=Tk (fun x hx=>h x (.tail _ hx)) h2;exact⟨y'::ys'',by rw[List.mapM_cons];simp[h3,h4]⟩
def Ki: ∀(D:Nat) (t:TypeId) {cs cs':List Value} {l:List Lit},Ints cs cs'->P.keyLits D t cs=some l-> ∃l',P.keyLits D t cs'=some l'
 | 0,_,_,_,_,_,h=>by simp[Program.keyLits]at h
 | D + 1,t,cs,cs',l,hi,h=>by
   unfold Program.keyLits at h ⊢;split at h
   .rename_i b _
    obtain⟨q,n,m,e,_⟩:=hi.2 0 _ rfl;cases e
   .rename_i q q' n hu
    obtain⟨q2,n2,m,e,e2,e3⟩:=hi.2 0 _ rfl;cases e;have hl:cs'.length=1:=hi.1.symm
    match cs',hl,e2 with
    | [c],_,e2=>
      simp only[pW,GU]at e2;subst e2;split at h
      .rename_i hq
       obtain⟨rfl,_⟩:=hq;simp only[hu];exact⟨_,if_pos ⟨trivial,e3⟩⟩
      .cases h
   .obtain⟨q,n,m,e,_⟩:=hi.2 0 _ rfl
    cases e
   .rename_i n e hu
    simp only[hu];split at h
    .rename_i hl
     rw[if_pos (by rw[<-hi.1];exact hl)];obtain⟨ys,h1,_⟩:=Ae h;obtain⟨ys',h2⟩:=Tk (g:=fun i=>P.keyLits D e ((cs'.drop (i*P.cellsOf e)).take (P.cellsOf e))) (fun i _ y hy=>Ki D e (hi.part _ _) hy) h1;exact⟨_,by rw[h2];rfl⟩
    .cases h
   .rename_i fs hu
    simp only[hu];split at h
    .rename_i hl
     rw[if_pos (by rw[<-hi.1];exact hl)];obtain⟨ys,h1,_⟩:=Ae h;obtain⟨ys',h2⟩:=Tk (g:=fun f=>P.keyLits D f.type ((cs'.drop f.offset).take (P.cellsOf f.type))) (fun f _ y hy=>Ki D f.type (hi.part _ _) hy) h1;exact⟨_,by rw[h2];rfl⟩
    .cases h
   .cases h
def rZ:V->Option IntKind| .i q _=>some q|_=>none
def To:List V->Option (List IntKind)
 | []=>some []
 | c::cs=>match rZ c,To cs with|some q,some l=>some (q::l)|_,_=>none
def Ub (P:Program) (kt:TypeId):Option KS:=
 match P.underlying kt with
 | some (.int k)=>some (.i k)
 | some .string=>some .s
 | some (.array _ _)|some (.struct _)=>match zeroOf P kt with
   | some (.a cs)=>match To cs with
     | some l=>if P.keyType kt&&P.keyTypeAt 6 kt&&P.tiled 6 kt&&(P.keyLits (P.types.size+1) kt (l.map fun q=> .int q 0)).isSome&&Nat.beq l.length (P.cellsOf kt)then some (.a l)else none
     | none=>none
   | _=>none
 | _=>none
def H0 {H:Nat->Nat->Option Value} {g:Nat->Option Value}: ∀ {l:List IntKind} {cs:List V} {o:Nat},DJ l cs=true->BI H g o cs->
    cs.length=l.length/\ ∀(i:Nat) (q:IntKind),l[i]? =some q-> ∃m:Int,cs[i]? =some (.i q m)/\g (o+i)=some (.int q m)/\q.min<=m/\m<=q.max
 | [],[],_,_,_=>⟨rfl,by simp⟩
 | [],_::_,_,h,_=>by simp[DJ]at h
 | q::l,[],_,h,_=>by simp[DJ]at h
 | q ::l,c::cs,o,h,hv=>by
   cases c<;>simp only[DJ,Jf]at h
   rename_i q' n;simp only[A4,CT]at h;obtain⟨rfl,h⟩:=h;obtain⟨⟨c,h1,⟨rfl,h2⟩⟩,h3⟩:=hv;obtain⟨h4,h5⟩:=H0 h h3;refine⟨by simp[h4],fun i q' hq=>?_⟩;cases i with
   | zero=>simp only[pW,GU]at hq;subst hq;exact⟨n,rfl,h1,h2⟩
   | succ i=>
     obtain⟨m,h6,h7,h8⟩:=h5 i q' (by simpa using hq);exact⟨m,by simpa using h6,by rw[<-h7];congr 1;omega,h8⟩
def oq {kt:TypeId} {ks:KS} (h:Ub P kt=some ks): ∃ok,KL P kt ok/\ ∀(H:Nat->Nat->Option Value) (v:V) (c:Value),BD ks v=true->Ac H v c->ok c:=by
 unfold Ub at h
 have agg: ∀(hw:(match P.underlying kt with|some (.array _ _)|some (.struct _)=>true|_=>false)=true),(match zeroOf P kt with
  | some (.a cs)=>match To cs with
    | some l=>if P.keyType kt&&P.keyTypeAt 6 kt&&P.tiled 6 kt&&(P.keyLits (P.types.size+1) kt (l.map fun q=>Value.int q 0)).isSome&&Nat.beq l.length (P.cellsOf kt)then some (.a l)else none
    | none=>none
  | _=>none)=some ks-> ∃ok,KL P kt ok/\ ∀(H:Nat->Nat->Option Value) (v:V) (c:Value),BD ks v=true->Ac H v c->ok c:=fun hw h=>by
  split at h
  .split at h
   .rename_i l _
    split at h
    .rename_i hc
     cases h;simp only[A4]at hc;obtain⟨⟨⟨⟨c1,c2⟩,c3⟩,c4⟩,c5⟩:=hc;refine⟨_,KL.of_law (deep_law (m:=6) (by omega) c2 c3 hw),fun H v c hv hr=>?_⟩;cases v<;>simp only[BD,Jf]at hv
     rename_i cs;obtain⟨c',rfl,h1,h2⟩:=hr;obtain⟨h3,h4⟩:=H0 hv h2;have hsz:c'.size=P.cellsOf kt:=by rw[h1,h3];exact UJ c5
     obtain⟨L,hL⟩:=Option.isSome_iff_exists.1 c4
     obtain⟨L',hL'⟩:=Ki (P:=P) (P.types.size+1) kt (cs:=l.map fun q=>Value.int q 0) (cs':=c'.toList) ⟨by simp[h1,h3],fun i a ha=>by
      rw[Np]at ha;obtain⟨q,hq,rfl⟩:=Ae ha;obtain⟨m,_,h6,h7⟩:=h4 i q hq
      refine⟨q,0,m,rfl,by simpa using h6,by simpa[Lit.wf]using h7⟩⟩ hL
     have hf:(Value.agg c').formed P kt=true:=by
      unfold Value.formed;split at hw<;>simp_all
     refine⟨.string (keyBytes L'),?_⟩;unfold keyOf;split at hw
     .rename_i hu;simp only[hu,c1,hf,Bool.and_self,if_true];show Option.map _ (P.keyLits _ kt c'.toList)=_;rw[hL'];rfl
     .rename_i hu;simp only[hu,c1,hf,Bool.and_self,if_true];show Option.map _ (P.keyLits _ kt c'.toList)=_;rw[hL'];rfl
     .cases hw
    .cases h
   .cases h
  .cases h
 split at h
 .rename_i q0 hu
  cases h;refine⟨_,KL.int hu q0,fun H v c hv hr=>?_⟩;cases v<;>simp only[BD,Jf]at hv
  rename_i q n;obtain⟨rfl,_⟩:=hr;have:=of_decide_eq_true hv;subst this;exact⟨n,rfl⟩
 .rename_i hu
  cases h;refine⟨_,KL.of_law (WideMaps.string_law hu),fun H v c hv hr=>?_⟩;cases v<;>simp only[BD,Jf]at hv
  have hr':c= .string _:=hr;subst hr';exact⟨_,WideMaps.keyOf_string_mk hu (Nat.le_trans (Nat.le_of_ble_eq_true hv) (by decide))⟩
 .rename_i hu;exact agg (by rw[hu]) h
 .rename_i hu;exact agg (by rw[hu]) h
 .cases h
def QV: ∀ {l:List IntKind} {cs ds:List V},DJ l cs=true->DJ l ds=true-> ∃r,Bh cs ds=some r/\(r=true↔cs=ds)
 | [],[],[],_,_=>⟨true,rfl,by simp⟩
 | [],_::_,_,h,_=>by simp[DJ]at h
 | [],[],_::_,_,h=>by simp[DJ]at h
 | _::_,[],_,h,_=>by simp[DJ]at h
 | _::_,_::_,[],_,h=>by simp[DJ]at h
 | q ::l,c::cs,d::ds,h,h'=>by
   cases c<;>simp only[DJ,Jf]at h
   cases d<;>simp only[DJ,Jf]at h'
   rename_i k a k' b;simp only[A4,CT]at h h';obtain⟨rfl,h⟩:=h;obtain⟨rfl,h'⟩:=h';obtain⟨r,h1,h2⟩:=QV h h';refine⟨(a==b)&&r,by simp[Bh,h1],?_⟩;rw[A4,h2];constructor
   .rintro⟨h3,rfl⟩
    rw[show a=b by simpa using h3]
   .intro e
    cases e;exact⟨by simp,rfl⟩
def SP {ks:KS} {H:Nat->Nat->Option Value} {x y:V} {c d:Value} (hx:BD ks x=true) (hy:BD ks y=true) (hc:Ac H x c) (hd:Ac H y d):C8 x y=true↔c=d:=by
 cases ks with
 | i q=>
   cases x<;>simp only[BD,Jf]at hx
   cases y<;>simp only[BD,Jf]at hy
   rename_i k a k' b;obtain⟨rfl,_⟩:=hc;obtain⟨rfl,_⟩:=hd;have h1:=of_decide_eq_true hx;have h2:=of_decide_eq_true hy;subst h1;subst h2;simp[C8]
 | s=>
   cases x<;>simp only[BD,Jf]at hx
   cases y<;>simp only[BD,Jf]at hy
   have h1:c= .string _:=hc;have h2:d= .string _:=hd;subst h1;subst h2;simp[C8]
 | a l =>
   cases x<;>simp only[BD,Jf]at hx
   cases y<;>simp only[BD,Jf]at hy
   rename_i cs ds;obtain⟨c',rfl,h1,h2⟩:=hc;obtain⟨d',rfl,h3,h4⟩:=hd;obtain⟨r,h5,h6⟩:=QV hx hy;obtain⟨g1,g2⟩:=H0 hx h2;obtain⟨g3,g4⟩:=H0 hy h4;simp only[C8,h5,Option.getD_some,h6,Value.agg.injEq];constructor
   .rintro rfl
    refine Array.ext (by omega) fun i hi hj=>?_
    obtain⟨m,a1,a2,_⟩:=g2 i l[i] (Di (by omega));obtain⟨m',b1,b2,_⟩:=g4 i l[i] (Di (by omega));rw[a1]at b1;cases b1;simp only[F9,Array.getElem?_eq_getElem hi,Array.getElem?_eq_getElem hj,GU]at a2 b2;rw[a2,b2]
   .rintro rfl
    refine List.ext_getElem? fun i=>?_
    by_cases hi:i<l.length
    .obtain⟨m,a1,a2,_⟩:=g2 i l[i] (Di hi)
     obtain⟨m',b1,b2,_⟩:=g4 i l[i] (Di hi);rw[a2]at b2;cases b2;rw[a1,b1]
    .rw[List.getElem?_eq_none (by omega),List.getElem?_eq_none (by omega)]
def Tn {ks:KS} {H:Nat->Nat->Option Value} {key:V} {c x:Value} {val:V} (hk:BD ks key=true) (hc:Ac H key c) (hx:Ac H val x) (clk:Nat): ∀ {kvs:List (V×V)} {es:List MapEntry},FG H kvs es->(∀kv∈kvs,BD ks kv.1=true)->(∀e∈es,e.key≠c)->
    CA key kvs=none/\FG H (Cp key val kvs) (es++[{key:=c,val:=x,born:=clk}])
 | [],[],_,_,_=>⟨rfl,hc,hx,trivial⟩
 | [],_::_,h,_,_=>h.elim
 | _::_,[],h,_,_=>h.elim
 | (k,v)::r,e::es,h,hks,hne=>by
   obtain⟨h1,h2,h3⟩:=h
   have hf:C8 key k=false:=by
    cases hb:C8 key k with
    | false=>rfl
    | true=>exact absurd ((SP hk (hks _ (.head _)) hc h1).1 hb).symm (hne e (.head _))
   obtain⟨h4,h5⟩:=Tn hk hc hx clk h3 (fun kv hkv=>hks kv (.tail _ hkv)) (fun e he=>hne e (.tail _ he));simp only[CA,Cp,hf,cond_false];exact⟨h4,h1,h2,h5⟩
def Tm {ks:KS} {H:Nat->Nat->Option Value} {key:V} {c x:Value} {val:V} (hk:BD ks key=true) (hc:Ac H key c) (hx:Ac H val x): ∀ {kvs:List (V×V)} {es:List MapEntry} {j:Nat} {e:MapEntry},FG H kvs es->(∀kv∈kvs,BD ks kv.1=true)->
    es.Pairwise (fun a b=>a.key≠b.key)->es[j]? =some e->e.key=c->
    ∃v,CA key kvs=some v/\Ac H v e.val/\FG H (Cp key val kvs) (es.modify j fun e=>{e with key:=c,val:=x})
 | [],[],j,_,_,_,_,hj,_=>by simp at hj
 | [],_::_,_,_,h,_,_,_,_=>h.elim
 | _::_,[],_,_,h,_,_,_,_=>h.elim
 | (k, v)::r,e0::es,j,e,h,hks,hd,hj,he=>by
   obtain⟨h1,h2,h3⟩:=h;obtain⟨hd1,hd2⟩:=List.pairwise_cons.1 hd;have hiff:=SP hk (hks _ (.head _)) hc h1;cases j with
   | zero=>
     simp only[pW,GU]at hj;subst hj;have hb:C8 key k=true:=hiff.2 he.symm;simp only[CA,Cp,hb,cond_true];exact⟨v,rfl,h2,hc,hx,h3⟩
   | succ j=>
     simp only[uk]at hj
     have hb:C8 key k=false:=by
      cases hb:C8 key k with
      | false=>rfl
      | true=>
        have:=hiff.1 hb;exact absurd (this.symm.trans he.symm) (hd1 e (Dn hj))
     obtain⟨v',h4,h5,h6⟩:=Tm hk hc hx h3 (fun kv hkv=>hks kv (.tail _ hkv)) hd2 hj he;simp only[CA,Cp,hb,cond_false];exact⟨v',h4,h5,h1,h2,h6⟩
def eN {ok:Value->Prop} {ks:KS} {H:Nat->Nat->Option Value} (hok: ∀(H:Nat->Nat->Option Value) (v:V) (c:Value),BD ks v=true->Ac H v c->ok c): ∀ {kvs:List (V×V)} {es:List MapEntry},FG H kvs es->(∀kv∈kvs,BD ks kv.1=true)-> ∀e∈es,ok e.key
 | (k,v)::r,e0::es,h,hks,e,he=>by
   obtain⟨h1,h2,h3⟩:=h;rcases FR.1 he with rfl|he
   .exact hok H k _ (hks _ (.head _)) h1
   .exact eN hok h3 (fun kv hkv=>hks kv (.tail _ hkv)) e he
 | [],[],_,_,_,he=>by cases he
 | [],_::_,h,_,_,_=>h.elim
 | _::_,[],h,_,_,_=>h.elim
def Vi (hR:Rel F Z w) {n:Nat} {kvs:List (V×V)} (h:Z n=some (.map kvs)): ∃es clk,w.heap[n]? =some (.map es clk)/\FG (Hh F Z w) kvs es.toList/\es.toList.Pairwise (fun a b=>a.key≠b.key):=by
 obtain⟨_,ob,h2,es,clk,rfl,h4⟩:=hR.own n _ h;exact⟨es,clk,h2,h4⟩
def UD {t kt e:TypeId} {ks:KS} {z:V} {ok:Bool} (hu:P.underlying t=some (.map kt e)) (hks:Ub P kt=some ks) (hz:zeroOf P e=some z) (hR:Rel F Z w) {vm vk:V} {cm ck:Value}
    (hm:Ac (Hh F Z w) vm cm) (hk:Ac (Hh F Z w) vk ck) (h:AK Z ks z ok vm vk fun v=>k v Z):CM F Z w k kp ((Instr.lookup t cm ck ok).run P w):=by
 obtain⟨h0,h⟩:=h;obtain⟨okk,K,hok⟩:=oq hks;have hck:=hok _ _ _ h0 hk;obtain⟨zc,hz1,hz2⟩:=D5 hz w;have hzr:Ac (Hh F Z w) z zc:=GK hz2;have hch: ∀em,(Instr.checkKey em 10000 kt ck).run P w= .ok () w:=fun em=>K.check w em hck
 unfold Instr.lookup;simp only[C5,BA hu,GA]
 have fin: ∀ {o:Option V} {x:Value} {b:Bool},(match o with|some v=>b=true/\Ac (Hh F Z w) v x|none=>b=false/\x=zc)->k (found z ok o) Z->CM F Z w k kp (Result.ok (if ok=true then Value.tuple #[x,.bool b]else x) w):=fun {o x b} ho hk=>by
  have tup: ∀ {v:V} {x:Value} {b:Bool},Ac (Hh F Z w) v x->Ac (Hh F Z w) (.t [v,.b b]) (.tuple #[x,.bool b]):=fun hv=>⟨_,rfl,rfl,⟨_,rfl,hv⟩,⟨_,rfl,rfl⟩,trivial⟩
  cases o with
  | some v=>
    obtain⟨rfl,hv⟩:=ho;cases ok
    .exact Aq hR hk hv
    .exact Aq hR hk (tup hv)
  | none=>
    obtain⟨rfl,rfl⟩:=ho;cases ok
    .exact Aq hR hk hzr
    .exact Aq hR hk (tup hzr)
 cases vm<;>first|exact h.elim|skip
 .rename_i n
  simp only at h;split at h
  .rename_i kvs hn
   obtain⟨h1,h2⟩:=h;simp only[Ac]at hm;subst hm;obtain⟨es,clk,h3,h4,h5⟩:=Vi hR hn;have hg:(getObj n).run P w= .ok (.map es clk) w:=by simp[getObj,Sem.run,h3]
   simp only[C5,hg,GA,EK,hch];rcases K.find w hck es.toList (eN hok h4 h1)with⟨h6,h7⟩|⟨j,e',h6,h7,h8⟩
   .obtain⟨h9,_⟩:=Tn h0 hk hk 0 h4 h1 h7
    simp only[h6,GA,C5,hz1,EK];rw[h9]at h2;exact fin (o:=none) ⟨rfl,rfl⟩ h2
   .obtain⟨v,h9,h10,_⟩:=Tm h0 hk hk h4 h1 h5 h7 h8
    simp only[h6,GA,EK];rw[h9]at h2;exact fin (o:=some v) ⟨rfl,h10⟩ h2
  .exact h.elim
 .simp only[Ac]at hm
  subst hm;simp only[C5,EK,GA,hch];rcases K.find w hck [] (fun e he=>by cases he)with⟨h6,_⟩|⟨j,e',_,h7,_⟩
  .simp only[h6,GA,C5,hz1,EK]
   exact fin (o:=none) ⟨rfl,rfl⟩ h
  .simp at h7
def P6 {n:Nat} {ob:Obj} {es:Array MapEntry} {clk:Nat} (h:w.heap[n]? =some (.map es clk)):(setObj n ob).run P w= .ok () (CK w n ob):=by
 simp[setObj,Sem.run,h,CK]
def IL {c x:Value}: ∀ {es:List MapEntry} {j:Nat} {e:MapEntry},es[j]? =some e->e.key=c->es.Pairwise (fun a b=>a.key≠b.key)->(es.modify j fun e=>{e with key:=c,val:=x}).Pairwise (fun a b=>a.key≠b.key)
 | [],_,_,h,_,_=>by simp at h
 | e0::es,0,e,h,he,hp=>by
   simp only[pW,GU]at h;subst h;obtain⟨h1,h2⟩:=List.pairwise_cons.1 hp;exact List.pairwise_cons.2 ⟨fun a ha=>by simpa only[<-he]using h1 a ha,h2⟩
 | e0::es,j+1,e,h,he,hp=>by
   simp only[uk]at h;obtain⟨h1,h2⟩:=List.pairwise_cons.1 hp;refine List.pairwise_cons.2 ⟨fun a ha=>?_,IL h he h2⟩;have ha:a∈es.modify j fun e=>{e with key:=c,val:=x}:=ha
   obtain⟨i,hi⟩:=List.mem_iff_getElem?.1 ha;rw[List.getElem?_modify]at hi;cases hb:es[i]? with
   | none=>rw[hb]at hi;cases hi
   | some b=>
     rw[hb]at hi;simp only[Option.map_eq_map,aE,GU]at hi;split at hi
     .rename_i hji
      subst hi;subst hji;rw[h]at hb;cases hb;simpa only[<-he]using h1 e (Dn h)
     .subst hi
      exact h1 b (Dn hb)
def UC {t kt e:TypeId} {ks:KS} (hu:P.underlying t=some (.map kt e)) (hks:Ub P kt=some ks) (hR:Rel F Z w) {vm vk vx:V} {cm ck cx:Value}
    (hm:Ac (Hh F Z w) vm cm) (hk:Ac (Hh F Z w) vk ck) (hx:Ac (Hh F Z w) vx cx) (h:AL Z ks vm vk vx fun Z'=>k (.t []) Z') :
    ∃Z' w',(Instr.mapUpdate t cm ck cx).run P w= .ok () w'/\k (.t []) Z'/\Rel F Z' w'/\Bw F Z w Z' w':=by
 obtain⟨h0,h⟩:=h;obtain⟨okk,K,hok⟩:=oq hks;have hck:=hok _ _ _ h0 hk;have hch: ∀em,(Instr.checkKey em 10000 kt ck).run P w= .ok () w:=fun em=>K.check w em hck
 cases vm<;>first|exact h.elim|skip
 rename_i n;simp only at h;split at h
 .rename_i kvs hn
  obtain⟨h1,h2⟩:=h;simp only[Ac]at hm;subst hm;obtain⟨es,clk,h3,h4,h5⟩:=Vi hR hn;have hg:(getObj n).run P w= .ok (.map es clk) w:=by simp[getObj,Sem.run,h3]
  unfold Instr.mapUpdate;simp only[C5,BA hu,GA,hg,hch];rcases K.find w hck es.toList (eN hok h4 h1)with⟨h6,h7⟩|⟨j,e',h6,h7,h8⟩
  .obtain⟨_,h9⟩:=Tn h0 hk hx clk h4 h1 h7
   refine⟨_,CK w n (.map (es.push {key:=ck,val:=cx,born:=clk}) (clk+1)),?_,h2,I6 hR hn ⟨_,_,rfl,?_,?_⟩,GQ hn _ _⟩
   .simp only[h6,GA]
    exact P6 h3
   .simpa using h9
   .rw[Array.toList_push,List.pairwise_append]
    exact⟨h5,by simp,fun a ha b hb=>by simp at hb;subst hb;exact h7 a ha⟩
  .obtain⟨v,_,_,h9⟩:=Tm h0 hk hx h4 h1 h5 h7 h8
   have hj:es[j]? =some e':=by rw[<-h7];simp
   refine⟨_,CK w n (.map (es.modify j fun e=>{e with key:=ck,val:=cx}) clk),?_,h2,I6 hR hn ⟨_,_,rfl,?_,?_⟩,GQ hn _ _⟩
   .simp only[h6,GA,C5,hj,aE,Option.getD_some,h8,K.stays w hck]
    exact P6 h3
   .simpa using h9
   .simpa using IL (x:=cx) h7 h8 h5
 .exact h.elim
def pz (P:Program):Op->Option FU
 | .makeMap t r=>match r,P.underlying t with
   | none,_=>some .NQ
   | some _,_=>none
 | .lookup t x i ok=>match P.underlying t with
   | some (.map kt e)=>match Ub P kt,zeroOf P e,BG x,BG i with
     | some ks,some z,some x,some i=>some (.lookup ks z ok x i)
     | _,_,_,_=>none
   | _=>none
 | .mapUpdate t m i x=>match P.underlying t with
   | some (.map kt _)=>match Ub P kt,BG m,BG i,BG x with
     | some ks,some m,some i,some x=>some (.D0 ks m i x)
     | _,_,_,_=>none
   | _=>none
 | .insert t m i x=>match P.underlying t with
   | some (.map kt _)=>match Ub P kt,BG m,BG i,BG x with
     | some ks,some m,some i,some x=>some (.D0 ks m i x)
     | _,_,_,_=>none
   | _=>none
 | _=>none
def X6 {env:Env} {a:Act} {o:Oper} {ao:FU} (ho:pz P o.op=some ao) (h:Ez P ao env Z k kp) (he:B9 (Hh F Z w) env a.tmps) (hR:Rel F Z w) :
    Good P F Z w k kp ((execOp a.eval o).run P w):=by
 have put: ∀ {t:TypeId} {m i x:Operand},(match P.underlying t with
  | some (.map kt _)=>match Ub P kt,BG m,BG i,BG x with
    | some ks,some m,some i,some x=>some (FU.D0 ks m i x)
    | _,_,_,_=>none
  | _=>none)=some ao->Good P F Z w k kp ((do Instr.mapUpdate t (a.eval m) (a.eval i) (a.eval x);pure Next.skip:Sem Next).run P w):=fun {t m i x} ho=>by
  split at ho
  .rename_i kt e hu
   split at ho
   .rename_i ks m' i' x' hks hm hi hx
    cases ho;obtain⟨vm,h1,g⟩:=Af h;obtain⟨vi,h2,g⟩:=Af g;obtain⟨vx,h3,g⟩:=Af g;obtain⟨Z',w',e1,e2,e3,e4⟩:=UC hu hks hR (Al he hm h1) (Al he hi h2) (Al he hx h3) g;simp only[C5,e1,GA,EK];exact⟨Z',e2,e3,e4⟩
   .cases ho
  .cases ho
 unfold execOp;unfold pz at ho;split at ho
 .rename_i t r hop
  rw[hop];dsimp only;split at ho
  .cases ho
   refine Ax ?_;simp only[Ez]at h;exact⟨_,_,h w.heap.size hR.new,rfl,HV hR (o:= .map []) ⟨#[],0,rfl,trivial,by simp⟩,Dg _ _⟩
  .cases ho
 .rename_i t x i ok hop
  rw[hop];dsimp only;split at ho
  .rename_i kt e hu
   split at ho
   .rename_i ks z x' i' hks hz hx hi
    cases ho;obtain⟨vx,h1,g⟩:=Af h;obtain⟨vi,h2,g⟩:=Af g;exact Ax (UD hu hks hz hR (Al he hx h1) (Al he hi h2) g)
   .cases ho
  .cases ho
 .rename_i t m i x hop
  rw[hop];exact put ho
 .rename_i t m i x hop
  rw[hop];exact put ho
 .cases ho
def Xd (P:Program) (name:String):List (TypeId×FuncId):=(List.range P.types.size).filterMap fun t=>
 match P.info? t,P.underlying t with
 | some i,some d=>match i.methods.find? (·.name==name)with
   | some m=>if m.path.isEmpty then match m.func,d with
     | some (f,true),.pointer _=>some (t,f)
     | some (_,false),.pointer _=>none
     | some (f,false),_=>some (t,f)
     | _,_=>none
     else none
   | none=>none
 | _,_=>none
def qA (P:Program):Op->Option FU
 | .call c=>match c.callee with
   | .invoke x name=>match BG x,Jm c.args.toList with
     | some x,some as=>some (.inv (Xd P name) x as)
     | _,_=>none
   | _=>none
 | _=>none
def Vk {t:TypeId} {f:FuncId}: ∀ {l:List (TypeId×FuncId)},look t l=some f->(t,f)∈l
 | [],h=>by cases h
 | (u,g)::r,h=>by
   simp only[look]at h;cases hb:Nat.beq u t with
   | true=>
     rw[hb]at h;simp only[cond_true,GU]at h;rw[UJ hb,h];exact .head _
   | false=>
     rw[hb]at h;exact .tail _ (Vk h)
def Xy {name:String} {t:TypeId} {f:FuncId} (h:(t,f)∈Xd P name) (c:Value):(method (P.types.size+Made.depth) t c name).run P w= .ok (f,c) w:=by
 unfold Xd at h;rw[List.mem_filterMap]at h;obtain⟨u,hu,h⟩:=h;rw[List.mem_range]at hu;split at h
 rotate_left
 .cases h
 rename_i i d hi hd;split at h
 rotate_left
 .cases h
 rename_i m hm;split at h
 rotate_left
 .cases h
 rename_i hp
 have hpl:m.path.toList= []:=by
  have:m.path= #[]:=by simpa using hp
  rw[this]
 obtain⟨n,hn⟩: ∃n,P.types.size+Made.depth=n+1:=⟨P.types.size+Made.depth - 1,by omega⟩
 have key: ∀ptr,u=t->m.func=some (f,ptr)->(ptr=true-> ∃e,d= .pointer e)->(ptr=false-> ∀e,d≠ .pointer e)->(method (P.types.size+Made.depth) t c name).run P w= .ok (f,c) w:=fun ptr e1 e2 e3 e4=>by
  subst e1;rw[hn];unfold method;simp only[C5,run_typeInfo w hi,GA,hm,hpl,follow,EK,e2,receiverAt,run_underlying hd];cases ptr with
  | true=>
    obtain⟨e,rfl⟩:=e3 rfl;simp[Place.get]
  | false=>
    have:=e4 rfl;cases d<;>first|exact absurd rfl (this _)|simp[Place.get]
 split at h
 .rename_i f' e hfun
  cases h;exact key true rfl hfun (fun _=>⟨_,rfl⟩) (fun h=>by cases h)
 .cases h
 .rename_i f' hfun hne
  cases h;exact key false rfl hfun (fun h=>by cases h) (fun _ e he=>by subst he;exact hne e rfl)
 .cases h
def dB {tab:List (TypeId×FuncId)} {x:V} {args:List V} {Q:R->AE->Prop} (h:Au P tab x args Z Q): ∃t v f,x= .Ee t v/\look t tab=some f/\Ao P f (v::args) Z Q:=by
 unfold Au at h;split at h
 .split at h
  .exact⟨_,_,_,rfl,by assumption,h⟩
  .exact h.elim
 .exact h.elim
def X7 {env:Env} {a:Act} {o:Oper} {ao:FU} (ho:qA P o.op=some ao) (h:Ez P ao env Z k kp) (he:B9 (Hh F Z w) env a.tmps) (hR:Rel F Z w) :
    Good P F Z w k kp ((execOp a.eval o).run P w):=by
 unfold qA at ho;split at ho
 rotate_left
 .cases ho
 rename_i c hop;split at ho
 rotate_left
 .cases ho
 rename_i x name hc;split at ho
 rotate_left
 .cases ho
 rename_i x' as hx has;cases ho;obtain⟨vx,h1,g⟩:=Af h;obtain⟨vs,h2,g⟩:=Hn g;obtain⟨t,v,f,rfl,hf,g⟩:=dB g;obtain⟨cv,hcv,hvr⟩:=Al he hx h1
 have hext:(#[Value.iface t cv]++c.args.map a.eval).extract 1 (#[Value.iface t cv]++c.args.map a.eval).size=c.args.map a.eval:=by
  apply Array.ext';simp[List.take_of_length_le]
 have h0:(#[Value.iface t cv]++c.args.map a.eval)[0]? =some (.iface t cv):=by rw[Array.getElem?_append_left (Nat.zero_lt_one)];rfl
 have hrun:(execOp a.eval o).run P w=(callFunc f (#[cv]++c.args.map a.eval)).run P w:=by
  unfold execOp;simp only[hop,resolve,hc,C5,EK,GA,invoke,hcv,h0,hext,callMethod];have hprog:(program).run P w= .ok P w:=rfl;simp only[hprog,GA,Xy (Vk hf)]
 rw[hrun];refine Pm hR ?_ g;have:=Hw (H:=Hh F Z w) (vs:=[v]) (cs:= #[cv]) ⟨rfl,⟨cv,rfl,hvr⟩,trivial⟩ (I7 he has h2);simpa using this
def YM {t u e:TypeId} {i:TypeInfo} (ty:TypeId) (ht:P.underlying t=some (.slice e)) (hi:P.info? e=some i) (hR:Rel F Z w) {vx vy:V} {cx cy:Value} (hx:Ac (Hh F Z w) vx cx) (hy:Ac (Hh F Z w) vy cy)
    (h:AW Z i.size vx vy k):CM F Z w k kp ((Builtin.copy_ #[t,u] ty #[cx,cy]).run P w):=by
 have h':=KY hR hy h;clear h;obtain⟨ys,base,c2,⟨hone,h⟩,rfl,hyl,hys⟩:=h'
 have main: ∀(n off len:Nat) (a:Option Addr) (cap:Nat),(len≠0->a=some ⟨n,off*i.size,none⟩)->Oi Z i.size ys n off len k->CM F Z w k kp ((Builtin.copy_ #[t,u] ty #[.slice a len cap,.slice base ys.length c2]).run P w):=fun n off len a cap ha hk=>by
  unfold Oi at hk;split at hk
  .rename_i s es c hs
   obtain⟨rfl,hle,hk⟩:=hk;obtain⟨cur,et,h3,h4,h5,h6,h7⟩:=EV hR hs;have hsz:sizeOf e=(do pure (<-typeInfo e).size:Sem Nat):=rfl;have hmin:Nat.min ys.length len=min ys.length len:=rfl;have hmL:min ys.length len<=As:=by omega
   have hrng: ∀H,Ac H (.i .i64 (min ys.length len:Nat)) (goInt (min ys.length len:Nat)):=fun H=>⟨rfl,Hs hmL⟩
   by_cases h0:min ys.length len=0
   ·
    have hrun:(Builtin.copy_ #[t,u] ty #[.slice a len cap,.slice base ys.length c2]).run P w= .ok (goInt 0) w:=by
     have hm0:Nat.min ys.length len=0:=h0;cases a<;>cases base<;>simp[Builtin.copy_,run_underlying ht,sizeOf,typeInfo,hi,Builtin.lenOf,hm0,Builtin.firstCells,loadCells,loadCellsFrom,storeCells]
    rw[hrun];rw[h0]at hk;simp only[Nat.add_zero]at hk;have e1:es.take off++(ys.take 0++es.drop off)=es:=by simp
    rw[e1]at hk
    have e2:Bo Z n (.arr i.size es c)=Z:=by
     funext m;unfold Bo;split
     .rename_i e;rw[e,hs]
     .rfl
    rw[e2]at hk;exact Aq hR hk ⟨rfl,Hs (n:=0) (by simp)⟩
   .obtain⟨b,o,g,rfl,hg,hrow⟩:=hys.resolve_left (fun e=>by rw[e]at h0;simp at h0)
    obtain rfl:=ha (by omega);obtain⟨news,h8,h9,h10⟩:=JO (HU hrow (min ys.length len));have hcnt:(ys.take (min ys.length len)).length=min ys.length len:=by simp
    rw[hcnt]at h8;have hmul:(off+min ys.length len)*i.size<=c*i.size:=W8 _ (by omega);rw[Nat.add_mul]at hmul
    have hn1: ∀u∈news,u.oneCell'=true:=fun u hu=>by
     obtain⟨j,hj⟩:=List.mem_iff_getElem?.1 hu;have hlt:j<(ys.take (min ys.length len)).length*i.size:=by rw[hcnt,<-h8];exact(Je.1 hj).1
     obtain⟨h4,h5⟩:=Tc hlt;obtain⟨h6,h7⟩:=A7.1 h10 (j / i.size) _ (Di h4);obtain⟨c,hc,hr⟩:=BR.1 h7 (j % i.size) _ (Di (by omega));have hdm:=Nat.div_add_mod' j i.size;rw[show 0+j / i.size*i.size+j % i.size=j by omega,hj]at hc;cases hc;exact Pb hr (hone _ (List.mem_of_mem_take (List.getElem_mem h4)) _ (List.getElem_mem _))
    have hrunF:=run_firstCells_some (P:=P) w i.size (min ys.length len) ⟨b,o,none⟩ ys.length c2 news h8 (fun j v hv=>by rw[CY];exact hg _ _ (h9 j v hv));have hst:=CZ (P:=P) news w cur (off*i.size) 0 h3 (by omega) hn1;simp only[Nat.add_zero]at hst
    have hrun:(Builtin.copy_ #[t,u] ty #[.slice (some ⟨n,off*i.size,none⟩) len cap,.slice (some ⟨b,o,none⟩) ys.length c2]).run P w= .ok (goInt (min ys.length len:Nat)) (CK w n (.cells (Ci cur (off*i.size) news) et (0,0))):=by
     simp[Builtin.copy_,run_underlying ht,sizeOf,typeInfo,hi,Builtin.lenOf,hmin,hrunF,hst]
    rw[hrun];refine⟨_,_,hk,hrng _,I6 hR hs ⟨_,et,rfl,by rw[Db];exact h4,by simp;omega,by simp;omega,?_⟩,GQ hs _ _⟩;have hol:off<=es.length:=by omega
    refine GR (D6 (HU h7 off) fun j hj=>?_) (GR (D6 h10 fun j hj=>?_) (D6 (Mw h7 (off+min ys.length len)) fun j hj=>?_))
    .rw[NK,Nat.min_eq_left hol]at hj
     exact C1 _ _ _ _ (by omega)
    .rw[hcnt]at hj
     rw[NK,Nat.min_eq_left hol];simp only[F9];exact Fm _ _ _ _ (by omega) (by omega)
    .rw[NK,Nat.min_eq_left hol,hcnt,F9,F9,Nat.add_mul]
     exact C1 _ _ _ _ (by omega)
  .exact hk.elim
 cases vx
 case sl n len cap=>
  obtain⟨rfl,_⟩:=hx;exact main n 0 len _ cap (fun _=>by simp) h
 case sv n s off len=>
  obtain⟨rfl,h⟩:=h;obtain⟨a,cap,rfl,_,h6⟩:=hx;exact main n off len a cap h6 h
 all_goals exact h.elim
def eF (P:Program):Op->Option FU
 | .call c=>match c.callee,c.args.toList,c.argTypes.toList with
   | .builtin .copy,[x,y],[t,_]=>match P.underlying t with
     | some (.slice e)=>match BG x,BG y,P.info? e with
       | some x,some y,some i=>some (.copy i.size x y)
       | _,_,_=>none
     | _=>none
   | _,_,_=>none
 | _=>none
def Wc {env:Env} {a:Act} {o:Oper} {ao:FU} (ho:eF P o.op=some ao) (h:Ez P ao env Z k kp) (he:B9 (Hh F Z w) env a.tmps) (hR:Rel F Z w) :
    Good P F Z w k kp ((execOp a.eval o).run P w):=by
 unfold eF at ho;split at ho
 rotate_left
 .cases ho
 rename_i c hop;split at ho
 rotate_left
 .cases ho
 rename_i x y t u hc hargs htys;split at ho
 rotate_left
 .cases ho
 rename_i e hu;split at ho
 rotate_left
 .cases ho
 rename_i x' y' i hx hy hi;cases ho;obtain⟨vx,h1,g⟩:=Af h;obtain⟨vy,h2,g⟩:=Af g;have ea:c.args= #[x,y]:=by apply Array.ext';simpa using hargs
 have et:c.argTypes= #[t,u]:=by apply Array.ext';simpa using htys
 unfold execOp;simp only[hop,resolve,hc,ea,et,C5,EK,GA,invoke,builtin,List.map_toArray,Eg,List.map_nil];exact D7 (YM (P:=P) (kp:=kp) o.type hu hi hR (Al he hx h1) (Al he hy h2) g)
def db (P:Program) (o:Op):Option FU:=match py P o with|some a=>some a|none=>match pz P o with|some a=>some a|none=>match qA P o with|some a=>some a|none=>eF P o
def X4 {env:Env} {a:Act} {o:Oper} {ao:FU} (ho:db P o.op=some ao) (h:Ez P ao env Z k kp) (he:B9 (Hh F Z w) env a.tmps) (hR:Rel F Z w) :
    Good P F Z w k kp ((execOp a.eval o).run P w):=by
 unfold db at ho;split at ho
 .rename_i h';cases ho;exact X5 h' h he hR
 .split at ho
  .rename_i h';cases ho;exact X6 h' h he hR
  .split at ho
   .rename_i h';cases ho;exact X7 h' h he hR
   .exact Wc ho h he hR
end Go.Gl
namespace Go.Gl
variable {P:Program} {F:Nat->Prop}
def emp:AE:=fun _=>none
def Pure (P:Program) (f:FuncId) (args:List V) (v:V):Prop:=Ao P f args emp fun r Z'=>r= .ret v/\Z'=emp
def ZF {w:World} (F:Nat->Prop) (h: ∀n,F n->n<w.heap.size):Rel F emp w:=⟨fun n o ho=>(by cases ho),h⟩
def T4 {Z:AE} {w w':World} {F':Nat->Prop} (h:Bw F' emp w emp w'):Bw F Z w Z w':=
 ⟨fun n hn _=>h.frame n hn rfl,h.size,h.os,h.tape,h.output,fun _ h0 _=>h0⟩
def Rr {Z:AE} {w w':World} {F':Nat->Prop} (hR:Rel F Z w) (h:Bw F' emp w emp w'):Rel F Z w':=
 hR.step (T4 h) fun n _ hn=> .inl ⟨hn,h.frame n (hR.lt hn) rfl⟩
def Pure.use {f:FuncId} {args:List V} {v:V} (h:Pure P f args v) {Z:AE} {k kp:V->AE->Prop} (hk:k v Z):Ao P f args Z (qk k kp):=by
 refine⟨h.1,fun F w cs hR hv=>?_⟩
 have hH: ∀w:World,(Hh (fun n=>F n\/Z n≠none) emp w)=Hh F Z w:=fun w=>by
  funext b o;unfold Hh;by_cases hb:F b\/(Z b).isSome=true
  .rw[if_pos hb,if_pos]
   rcases hb with hb|hb
   .exact .inl (.inl hb)
   .exact .inl (.inr (by intro e;rw[e]at hb;cases hb))
  .rw[if_neg hb,if_neg]
   rintro((h|h)|h)
   .exact hb (.inl h)
   .exact hb (.inr (by cases hs:Z b with|none=>exact absurd hs h|some o=>rfl))
   .cases h
 refine Calls.mono (h.2 (fun n=>F n\/Z n≠none) w cs (ZF _ fun n hn=>?_) (by rw[hH];exact hv)) fun e w' ⟨r,Z',⟨hr,hs⟩,h1,h2,h3⟩=>?_
 .rcases hn with hn|hn
  .exact hR.lock n hn
  .cases hs:Z n with
   | none=>exact absurd hs hn
   | some o=>exact hR.lt hs
 .subst hr
  subst hs;rw[hH]at h1;exact⟨.ret v,Z,hk,h1,Rr hR h3,T4 h3⟩
def Ao.mono {f:FuncId} {args:List V} {Z:AE} {Q Q':R->AE->Prop} (h:Ao P f args Z Q) (hq: ∀r Z',Q r Z'->Q' r Z'):Ao P f args Z Q':=
 ⟨h.1,fun F w cs hR hv=>Calls.mono (h.2 F w cs hR hv) fun _ _ ⟨r,Z',h1,h2⟩=>⟨r,Z',hq _ _ h1,h2⟩⟩
def MQ.mono {l:Nat} {args:List V} {Z:AE} {Q Q':R->AE->Prop} (h:MQ P l args Z Q) (hq: ∀r Z',Q r Z'->Q' r Z'):MQ P l args Z Q':=
 fun F w cs hR hv=>let⟨f,tmps,assign,body,h1,h2⟩:=h F w cs hR hv;⟨f,tmps,assign,body,h1,h2.mono fun e w' ⟨r,Z',h3,h4⟩=>⟨r,Z',hq _ _ h3,h4⟩⟩
def Ak.mono {x:V} {args:List V} {Z:AE} {Q Q':R->AE->Prop} (h:Ak P x args Z Q) (hq: ∀r Z',Q r Z'->Q' r Z'):Ak P x args Z Q':=by
 unfold Ak at *;split at h
 .exact Ao.mono h hq
 .exact MQ.mono h hq
 .exact h.elim
def Au.mono {tab:List (TypeId×FuncId)} {x:V} {args:List V} {Z:AE} {Q Q':R->AE->Prop} (h:Au P tab x args Z Q) (hq: ∀r Z',Q r Z'->Q' r Z'):Au P tab x args Z Q':=by
 unfold Au at *;split at h
 .split at h
  .exact Ao.mono h hq
  .exact h.elim
 .exact h.elim
def rd:Bb->List Nat| .t n=>[n]| .c _=>[]
def xh:Option Bb->List Nat|some x=>rd x|none=>[]
def dE (l:List Bb):List Nat:=l.flatMap rd
def reads:FU->List Nat
 | .mv x| .kL x| .not x| .neg _ x| .conv _ x| .box x| .N3 x| .load _ x| .FW _ x| .field _ _ x| .len x| .Sx x| .str x| .extract _ x| .IB x| .NR _ x| .dD _ _ _ x| .panic x| .dI _ _ x=>rd x
 | .pick a b c=>rd a++rd b++rd c
 | .UT x y| .bin _ x y| .kR _ x y| .kQ _ _ x y| .store _ x y| .K4 _ _ x y| .index _ _ _ x y| .append _ _ x y| .Q3 _ _ x y| .copy _ x y| .UY x y| .UX x y| .Fb _ _ _ x y| .lookup _ _ _ x y=>rd x++rd y
 | .alloc _| .NQ=>[]
 | .build _ ps=>dE (ps.map fun p=>p.2.2)
 | .Gj _ _ _ ps=>dE (ps.map fun p=>p.2)
 | .slice _ x a b c=>rd x++xh a++xh b++xh c
 | .dF _ a b=>dE a++dE b
 | .D0 _ m k v=>rd m++rd k++rd v
 | .call _ as| .K7 _ as=>dE as
 | .Ii x as| .Xm x as| .inv _ x as=>rd x++dE as
variable {env env':Env}
def AZ {x:Bb} (h: ∀s∈rd x,get s env'=get s env):ev env' x=ev env x:=by
 cases x with
 | t n=>exact h n (by simp[rd])
 | c v=>rfl
def Et: ∀ {l:List Bb},(∀s∈dE l,get s env'=get s env)->UN env' l=UN env l
 | [],_=>rfl
 | x::r,h=>by
   simp only[dE,List.flatMap_cons,Dm]at h;simp only[UN,AZ (fun s hs=>h s (.inl hs)),Et (l:=r) (fun s hs=>h s (.inr hs))]
def Iy {x:Option Bb} (h: ∀s∈xh x,get s env'=get s env):G4 env' x=G4 env x:=by
 cases x with
 | none=>rfl
 | some x=>simp only[G4,AZ (x:=x) h]
def Ni: ∀ {ps:List (Nat×Nat×Bb)} {cs:List V},(∀s∈dE (ps.map fun p=>p.2.2),get s env'=get s env)->Jw env' cs ps=Jw env cs ps
 | [],_,_=>rfl
 | (off,sz,x)::r,cs,h=>by
   simp only[dE,Eg,List.flatMap_cons,Dm]at h;simp only[Jw,AZ (fun s hs=>h s (.inl hs))];split<;>try rfl
   split<;>try rfl
   cases hb:(Nat.beq _ sz&&Nat.ble (off+sz) cs.length)<;>simp only[cond_true,cond_false]
   exact Ni (ps:=r) fun s hs=>h s (.inr hs)
def Nj {sz:Nat}: ∀ {ps:List (Nat×Bb)} {es:List (List V)},(∀s∈dE (ps.map fun p=>p.2),get s env'=get s env)->Ig env' sz es ps=Ig env sz es ps
 | [],_,_=>rfl
 | (i,x)::r,es,h=>by
   simp only[dE,Eg,List.flatMap_cons,Dm]at h;simp only[Ig,AZ (fun s hs=>h s (.inl hs))];split<;>try rfl
   split<;>try rfl
   cases hb:(Nat.beq _ sz&&Nat.blt i es.length)<;>simp only[cond_true,cond_false]
   exact Nj (ps:=r) fun s hs=>h s (.inr hs)
def Se {o:FU} {Z:AE} {k kp:V->AE->Prop} (h: ∀s∈reads o,get s env'=get s env):Ez P o env' Z k kp=Ez P o env Z k kp:=by
 cases o<;>simp only[reads,Dm,or_imp,forall_and]at h<;>simp only[Ez]
 case mv x=>rw[AZ h]
 case kL x=>rw[AZ h]
 case pick a b c=>rw[AZ h.1.1,AZ h.1.2,AZ h.2]
 case bin op x y=>rw[AZ h.1,AZ h.2]
 case kR n x y=>rw[AZ h.1,AZ h.2]
 case kQ q n x y=>rw[AZ h.1,AZ h.2]
 case dI q n x=>rw[AZ h]
 case lookup a b c x y=>rw[AZ h.1,AZ h.2]
 case D0 a x y z=>rw[AZ h.1.1,AZ h.1.2,AZ h.2]
 case Fb a b c x y=>rw[AZ h.1,AZ h.2]
 case not x=>rw[AZ h]
 case neg n x=>rw[AZ h]
 case conv n x=>rw[AZ h]
 case box x=>rw[AZ h]
 case N3 x=>rw[AZ h]
 case Q3 a b x y=>rw[AZ h.1,AZ h.2]
 case build z ps=>rw[Ni h]
 case Gj a b c ps=>rw[Nj h]
 case load a x=>rw[AZ h]
 case store a x y=>rw[AZ h.1,AZ h.2]
 case FW a x=>rw[AZ h]
 case field a b x=>rw[AZ h]
 case K4 a b x y=>rw[AZ h.1,AZ h.2]
 case index a b c x y=>rw[AZ h.1,AZ h.2]
 case slice s x a b c=>rw[AZ h.1.1.1,Iy h.1.1.2,Iy h.1.2,Iy h.2]
 case len x=>rw[AZ h]
 case Sx x=>rw[AZ h]
 case str x=>rw[AZ h]
 case UT x y=>rw[AZ h.1,AZ h.2]
 case append a b x y=>rw[AZ h.1,AZ h.2]
 case copy a x y=>rw[AZ h.1,AZ h.2]
 case inv tab x as=>rw[AZ h.1,Et h.2]
 case UY x y=>rw[AZ h.1,AZ h.2]
 case UX x y=>rw[AZ h.1,AZ h.2]
 case extract i x=>rw[AZ h]
 case IB x=>rw[AZ h]
 case dF f a b=>rw[Et h.1,Et h.2]
 case NR t x=>rw[AZ h]
 case dD a b c x=>rw[AZ h]
 case panic x=>rw[AZ h]
 case call f as=>rw[Et h]
 case K7 f as=>rw[Et h]
 case Ii x as=>rw[AZ h.1,Et h.2]
end Go.Gl
