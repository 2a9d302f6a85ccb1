import Derived.DeepKeys3
import Derived.StringKeys
import Derived.Test.YtinppljblkpedaaGreatU5
set_option linter.all false
set_option linter.defProp false
set_option maxHeartbeats 8000000
noncomputable section
namespace Go.Gl
variable {P:Program} {F:Nat->Prop} {Z:AE} {w:World} {k kp:V->AE->Prop}
structure KL (P:Program) (kt:TypeId) (ok:Value->Prop):Prop where
 check: ∀(w:World) (em:Bool) {v:Value},ok v->(Instr.checkKey em 10000 kt v).run P w= .ok () w
 find: ∀(w:World) {x:Value},ok x-> ∀es:List MapEntry,(∀e∈es,ok e.key)->
  ((Instr.findKey kt x es).run P w= .ok none w/\ ∀e∈es,e.key≠x)\/ ∃j e,(Instr.findKey kt x es).run P w= .ok (some (j,e.val)) w/\es[j]? =some e/\e.key=x
 stays: ∀(w:World) {v:Value},ok v->(Instr.keyThatStays v v).run P w= .ok v w
def KL.of_law {kt:TypeId} (K:WideMaps.KeyLaw P kt):KL P kt fun v=> ∃l,keyOf P kt v=some l where
 check w em _ h:=let⟨_,h⟩:=h;K.check w em h
 find w _ h es hes:=let⟨_,h⟩:=h;K.find w h es hes
 stays w _ h:=let⟨_,h⟩:=h;K.stays w h
def Oh {q:IntKind} {ki:IntKind} (a:Int): ∀(es:List MapEntry) (i:Nat),(∀e∈es,∃b,e.key= .int ki b)->
    (Instr.findNow (.int q) (.int ki a) es i=some none/\ ∀e∈es,e.key≠ .int ki a)\/ ∃j e,Instr.findNow (.int q) (.int ki a) es i=some (some (i+j,e.val))/\es[j]? =some e/\e.key= .int ki a
 | [],i,_=> .inl ⟨rfl,by simp⟩
 | e ::es,i,h=>by
   obtain⟨b,hb⟩:=h e (.head _);simp only[Instr.findNow,hb,Instr.sameNow,if_true];by_cases hab:a=b
   .subst hab
    refine .inr ⟨0,e,by simp,rfl,hb⟩
   .have:(a==b)=false:=by simpa using hab
    rw[this];rcases Oh a es (i+1) (fun e he=>h e (.tail _ he))with⟨h1,h2⟩|⟨j,e',h1,h2,h3⟩
    .refine .inl ⟨h1,fun e' he'=>?_⟩
     rcases Ep.1 he' with rfl|he'
     .rw[hb];intro e;cases e;exact hab rfl
     .exact h2 e' he'
    .exact .inr ⟨j+1,e',by rw[h1,show i+1+j=i+(j+1) by omega],h2,h3⟩
def ei {kt:TypeId} {q:IntKind} (hu:P.underlying kt=some (.int q)) (em:Bool) (n:Nat) (ki:IntKind) (b:Int):(Instr.checkKey em (n+1) kt (.int ki b)).run P w= .ok () w:=by
 simp only[Instr.checkKey,DZ,BK hu,HG,E3]
def KL.int {kt:TypeId} {q:IntKind} (hu:P.underlying kt=some (.int q)) (ki:IntKind):KL P kt fun v=> ∃b,v= .int ki b where
 check w em v h:=by
  obtain⟨b,rfl⟩:=h;exact ei hu em 9999 ki b
 find w x h es hes:=by
  obtain⟨b,rfl⟩:=h;unfold Instr.findKey;simp only[DZ,BK hu,HG];rcases Oh (q:=q) b es 0 hes with⟨h1,h2⟩|⟨j,e,h1,h2,h3⟩
  .exact .inl ⟨by rw[h1];rfl,h2⟩
  .exact .inr ⟨j,e,by rw[h1,GZ];rfl,h2,h3⟩
 stays w v h:=by
  obtain⟨b,rfl⟩:=h;unfold Instr.keyThatStays;have:Instr.sameBits 10000 (.int ki b) (.int ki b)=true:=by simp[Instr.sameBits]
  rw[this];rfl
def Ints (cs cs':List Value):Prop:=cs.length=cs'.length/\ ∀(i:Nat) (a:Value),cs[i]? =some a-> ∃(q:IntKind) (n m:Int),a=Value.int q n/\cs'[i]? =some (Value.int q m)/\(Lit.int q m).wf=true
def Ints.part {cs cs':List Value} (h:Ints cs cs') (o n:Nat):Ints ((cs.drop o).take n) ((cs'.drop o).take n):=by
 refine⟨by simp[h.1],fun i a ha=>?_⟩;rw[List.getElem?_take]at ha ⊢;split at ha
 .rename_i hi
  rw[if_pos hi];rw[fD]at ha ⊢;exact h.2 _ _ ha
 .cases ha
def Ue {α β:Type} {f g:α->Option β}: ∀ {l:List α} {ys:List β},(∀x∈l,∀y,f x=some y-> ∃y',g x=some y')->l.mapM f=some ys-> ∃ys',l.mapM g=some ys'
 | [],_,_,_=>⟨[],by simp⟩
 | x::l,ys,h,hm=>by
   rw[List.mapM_cons]at hm;simp only[bind,Option.bind_eq_some_iff,pure,Gh]at hm;obtain⟨y,h1,ys',h2,rfl⟩:=hm;obtain⟨y',h3⟩:=h x (.head _) y h1;obtain⟨ys'',h4⟩:=Ue (fun x hx=>h x (.tail _ hx)) h2;exact⟨y'::ys'',by rw[List.mapM_cons];simp[h3,h4]⟩
def Lw: ∀(D:Nat) (t:TypeId) {cs cs':List Value} {l:List Lit},Ints cs cs'->P.keyLits D t cs=some l-> ∃l',P.keyLits D t cs'=some l'
 | 0,_,_,_,_,_,h=>by simp[Program.keyLits]at h
 | D + 1,t,cs,cs',l,hi,h=>by
   unfold Program.keyLits at h ⊢;split at h
   .rename_i b _
    obtain⟨q,n,m,e,_⟩:=hi.2 0 _ rfl;cases e
   .rename_i q q' n hu
    obtain⟨q2,n2,m,e,e2,e3⟩:=hi.2 0 _ rfl;cases e;have hl:cs'.length=1:=hi.1.symm
    match cs',hl,e2 with
    | [c],_,e2=>
      simp only[fL,Gh]at e2;subst e2;split at h
      .rename_i hq
       obtain⟨rfl,_⟩:=hq;simp only[hu];exact⟨_,if_pos ⟨trivial,e3⟩⟩
      .cases h
   .obtain⟨q,n,m,e,_⟩:=hi.2 0 _ rfl
    cases e
   .rename_i n e hu
    simp only[hu];split at h
    .rename_i hl
     rw[if_pos (by rw[<-hi.1];exact hl)];obtain⟨ys,h1,_⟩:=Ao h;obtain⟨ys',h2⟩:=Ue (g:=fun i=>P.keyLits D e ((cs'.drop (i*P.cellsOf e)).take (P.cellsOf e))) (fun i _ y hy=>Lw D e (hi.part _ _) hy) h1;exact⟨_,by rw[h2];rfl⟩
    .cases h
   .rename_i fs hu
    simp only[hu];split at h
    .rename_i hl
     rw[if_pos (by rw[<-hi.1];exact hl)];obtain⟨ys,h1,_⟩:=Ao h;obtain⟨ys',h2⟩:=Ue (g:=fun f=>P.keyLits D f.type ((cs'.drop f.offset).take (P.cellsOf f.type))) (fun f _ y hy=>Lw D f.type (hi.part _ _) hy) h1;exact⟨_,by rw[h2];rfl⟩
    .cases h
   .cases h
def tz:V->Option IntKind| .i q _=>some q|_=>none
def Ui:List V->Option (List IntKind)
 | []=>some []
 | c::cs=>match tz c,Ui cs with|some q,some l=>some (q::l)|_,_=>none
def VK (P:Program) (kt:TypeId):Option KS:=
 match P.underlying kt with
 | some (.int k)=>some (.i k)
 | some .string=>some .s
 | some (.array _ _)|some (.struct _)=>match zeroOf P kt with
   | some (.a cs)=>match Ui cs with
     | some l=>if P.keyType kt&&P.keyTypeAt 6 kt&&P.tiled 6 kt&&(P.keyLits (P.types.size+1) kt (l.map fun q=> .int q 0)).isSome&&Nat.beq l.length (P.cellsOf kt)then some (.a l)else none
     | none=>none
   | _=>none
 | _=>none
def I8 {H:Nat->Nat->Option Value} {g:Nat->Option Value}: ∀ {l:List IntKind} {cs:List V} {o:Nat},FE l cs=true->BX H g o cs->
    cs.length=l.length/\ ∀(i:Nat) (q:IntKind),l[i]? =some q-> ∃m:Int,cs[i]? =some (.i q m)/\g (o+i)=some (.int q m)/\q.min<=m/\m<=q.max
 | [],[],_,_,_=>⟨rfl,by simp⟩
 | [],_::_,_,h,_=>by simp[FE]at h
 | q::l,[],_,h,_=>by simp[FE]at h
 | q ::l,c::cs,o,h,hv=>by
   cases c<;>simp only[FE,JX]at h
   rename_i q' n;simp only[A4,B7]at h;obtain⟨rfl,h⟩:=h;obtain⟨⟨c,h1,⟨rfl,h2⟩⟩,h3⟩:=hv;obtain⟨h4,h5⟩:=I8 h h3;refine⟨by simp[h4],fun i q' hq=>?_⟩;cases i with
   | zero=>simp only[fL,Gh]at hq;subst hq;exact⟨n,rfl,h1,h2⟩
   | succ i=>
     obtain⟨m,h6,h7,h8⟩:=h5 i q' (by simpa using hq);exact⟨m,by simpa using h6,by rw[<-h7];congr 1;omega,h8⟩
def qy {kt:TypeId} {ks:KS} (h:VK P kt=some ks): ∃ok,KL P kt ok/\ ∀(H:Nat->Nat->Option Value) (v:V) (c:Value),Bl ks v=true->Ac H v c->ok c:=by
 unfold VK at h
 have agg: ∀(hw:(match P.underlying kt with|some (.array _ _)|some (.struct _)=>true|_=>false)=true),(match zeroOf P kt with
  | some (.a cs)=>match Ui cs with
    | some l=>if P.keyType kt&&P.keyTypeAt 6 kt&&P.tiled 6 kt&&(P.keyLits (P.types.size+1) kt (l.map fun q=>Value.int q 0)).isSome&&Nat.beq l.length (P.cellsOf kt)then some (.a l)else none
    | none=>none
  | _=>none)=some ks-> ∃ok,KL P kt ok/\ ∀(H:Nat->Nat->Option Value) (v:V) (c:Value),Bl ks v=true->Ac H v c->ok c:=fun hw h=>by
  split at h
  .split at h
   .rename_i l _
    split at h
    .rename_i hc
     cases h;simp only[A4]at hc;obtain⟨⟨⟨⟨c1,c2⟩,c3⟩,c4⟩,c5⟩:=hc;refine⟨_,KL.of_law (deep_law (m:=6) (by omega) c2 c3 hw),fun H v c hv hr=>?_⟩;cases v<;>simp only[Bl,JX]at hv
     rename_i cs;obtain⟨c',rfl,h1,h2⟩:=hr;obtain⟨h3,h4⟩:=I8 hv h2;have hsz:c'.size=P.cellsOf kt:=by rw[h1,h3];exact Zc c5
     obtain⟨L,hL⟩:=Option.isSome_iff_exists.1 c4
     obtain⟨L',hL'⟩:=Lw (P:=P) (P.types.size+1) kt (cs:=l.map fun q=>Value.int q 0) (cs':=c'.toList) ⟨by simp[h1,h3],fun i a ha=>by
      rw[LY]at ha;obtain⟨q,hq,rfl⟩:=Ao ha;obtain⟨m,_,h6,h7⟩:=h4 i q hq
      refine⟨q,0,m,rfl,by simpa using h6,by simpa[Lit.wf]using h7⟩⟩ hL
     have hf:(Value.agg c').formed P kt=true:=by
      unfold Value.formed;split at hw<;>simp_all
     refine⟨.string (keyBytes L'),?_⟩;unfold keyOf;split at hw
     .rename_i hu;simp only[hu,c1,hf,Bool.and_self,if_true];show Option.map _ (P.keyLits _ kt c'.toList)=_;rw[hL'];rfl
     .rename_i hu;simp only[hu,c1,hf,Bool.and_self,if_true];show Option.map _ (P.keyLits _ kt c'.toList)=_;rw[hL'];rfl
     .cases hw
    .cases h
   .cases h
  .cases h
 split at h
 .rename_i q0 hu
  cases h;refine⟨_,KL.int hu q0,fun H v c hv hr=>?_⟩;cases v<;>simp only[Bl,JX]at hv
  rename_i q n;obtain⟨rfl,_⟩:=hr;have:=of_decide_eq_true hv;subst this;exact⟨n,rfl⟩
 .rename_i hu
  cases h;refine⟨_,KL.of_law (WideMaps.string_law hu),fun H v c hv hr=>?_⟩;cases v<;>simp only[Bl,JX]at hv
  have hr':c= .string _:=hr;subst hr';exact⟨_,WideMaps.keyOf_string_mk hu (Nat.le_trans (Nat.le_of_ble_eq_true hv) (by decide))⟩
 .rename_i hu;exact agg (by rw[hu]) h
 .rename_i hu;exact agg (by rw[hu]) h
 .cases h
def RU: ∀ {l:List IntKind} {cs ds:List V},FE l cs=true->FE l ds=true-> ∃r,CI cs ds=some r/\(r=true↔cs=ds)
 | [],[],[],_,_=>⟨true,rfl,by simp⟩
 | [],_::_,_,h,_=>by simp[FE]at h
 | [],[],_::_,_,h=>by simp[FE]at h
 | _::_,[],_,h,_=>by simp[FE]at h
 | _::_,_::_,[],_,h=>by simp[FE]at h
 | q ::l,c::cs,d::ds,h,h'=>by
   cases c<;>simp only[FE,JX]at h
   cases d<;>simp only[FE,JX]at h'
   rename_i k a k' b;simp only[A4,B7]at h h';obtain⟨rfl,h⟩:=h;obtain⟨rfl,h'⟩:=h';obtain⟨r,h1,h2⟩:=RU h h';refine⟨(a==b)&&r,by simp[CI,h1],?_⟩;rw[A4,h2];constructor
   .rintro⟨h3,rfl⟩
    rw[show a=b by simpa using h3]
   .intro e
    cases e;exact⟨by simp,rfl⟩
def TG {ks:KS} {H:Nat->Nat->Option Value} {x y:V} {c d:Value} (hx:Bl ks x=true) (hy:Bl ks y=true) (hc:Ac H x c) (hd:Ac H y d):Dw x y=true↔c=d:=by
 cases ks with
 | i q=>
   cases x<;>simp only[Bl,JX]at hx
   cases y<;>simp only[Bl,JX]at hy
   rename_i k a k' b;obtain⟨rfl,_⟩:=hc;obtain⟨rfl,_⟩:=hd;have h1:=of_decide_eq_true hx;have h2:=of_decide_eq_true hy;subst h1;subst h2;simp[Dw]
 | s=>
   cases x<;>simp only[Bl,JX]at hx
   cases y<;>simp only[Bl,JX]at hy
   have h1:c= .string _:=hc;have h2:d= .string _:=hd;subst h1;subst h2;simp[Dw]
 | a l =>
   cases x<;>simp only[Bl,JX]at hx
   cases y<;>simp only[Bl,JX]at hy
   rename_i cs ds;obtain⟨c',rfl,h1,h2⟩:=hc;obtain⟨d',rfl,h3,h4⟩:=hd;obtain⟨r,h5,h6⟩:=RU hx hy;obtain⟨g1,g2⟩:=I8 hx h2;obtain⟨g3,g4⟩:=I8 hy h4;simp only[Dw,h5,Option.getD_some,h6,Value.agg.injEq];constructor
   .rintro rfl
    refine Array.ext (by omega) fun i hi hj=>?_
    obtain⟨m,a1,a2,_⟩:=g2 i l[i] (Cd (by omega));obtain⟨m',b1,b2,_⟩:=g4 i l[i] (Cd (by omega));rw[a1]at b1;cases b1;simp only[GZ,Array.getElem?_eq_getElem hi,Array.getElem?_eq_getElem hj,Gh]at a2 b2;rw[a2,b2]
   .rintro rfl
    refine List.ext_getElem? fun i=>?_
    by_cases hi:i<l.length
    .obtain⟨m,a1,a2,_⟩:=g2 i l[i] (Cd hi)
     obtain⟨m',b1,b2,_⟩:=g4 i l[i] (Cd hi);rw[a2]at b2;cases b2;rw[a1,b1]
    .rw[List.getElem?_eq_none (by omega),List.getElem?_eq_none (by omega)]
def Uh {ks:KS} {H:Nat->Nat->Option Value} {key:V} {c x:Value} {val:V} (hk:Bl ks key=true) (hc:Ac H key c) (hx:Ac H val x) (clk:Nat): ∀ {kvs:List (V×V)} {es:List MapEntry},F7 H kvs es->(∀kv∈kvs,Bl ks kv.1=true)->(∀e∈es,e.key≠c)->
    Cz key kvs=none/\F7 H (Du key val kvs) (es++[{key:=c,val:=x,born:=clk}])
 | [],[],_,_,_=>⟨rfl,hc,hx,trivial⟩
 | [],_::_,h,_,_=>h.elim
 | _::_,[],h,_,_=>h.elim
 | (k,v)::r,e::es,h,hks,hne=>by
   obtain⟨h1,h2,h3⟩:=h
   have hf:Dw key k=false:=by
    cases hb:Dw key k with
    | false=>rfl
    | true=>exact absurd ((TG hk (hks _ (.head _)) hc h1).1 hb).symm (hne e (.head _))
   obtain⟨h4,h5⟩:=Uh hk hc hx clk h3 (fun kv hkv=>hks kv (.tail _ hkv)) (fun e he=>hne e (.tail _ he));simp only[Cz,Du,hf,cond_false];exact⟨h4,h1,h2,h5⟩
def Ug {ks:KS} {H:Nat->Nat->Option Value} {key:V} {c x:Value} {val:V} (hk:Bl ks key=true) (hc:Ac H key c) (hx:Ac H val x): ∀ {kvs:List (V×V)} {es:List MapEntry} {j:Nat} {e:MapEntry},F7 H kvs es->(∀kv∈kvs,Bl ks kv.1=true)->
    es.Pairwise (fun a b=>a.key≠b.key)->es[j]? =some e->e.key=c->
    ∃v,Cz key kvs=some v/\Ac H v e.val/\F7 H (Du key val kvs) (es.modify j fun e=>{e with key:=c,val:=x})
 | [],[],j,_,_,_,_,hj,_=>by simp at hj
 | [],_::_,_,_,h,_,_,_,_=>h.elim
 | _::_,[],_,_,h,_,_,_,_=>h.elim
 | (k, v)::r,e0::es,j,e,h,hks,hd,hj,he=>by
   obtain⟨h1,h2,h3⟩:=h;obtain⟨hd1,hd2⟩:=List.pairwise_cons.1 hd;have hiff:=TG hk (hks _ (.head _)) hc h1;cases j with
   | zero=>
     simp only[fL,Gh]at hj;subst hj;have hb:Dw key k=true:=hiff.2 he.symm;simp only[Cz,Du,hb,cond_true];exact⟨v,rfl,h2,hc,hx,h3⟩
   | succ j=>
     simp only[qW]at hj
     have hb:Dw key k=false:=by
      cases hb:Dw key k with
      | false=>rfl
      | true=>
        have:=hiff.1 hb;exact absurd (this.symm.trans he.symm) (hd1 e (B6 hj))
     obtain⟨v',h4,h5,h6⟩:=Ug hk hc hx h3 (fun kv hkv=>hks kv (.tail _ hkv)) hd2 hj he;simp only[Cz,Du,hb,cond_false];exact⟨v',h4,h5,h1,h2,h6⟩
def gJ {ok:Value->Prop} {ks:KS} {H:Nat->Nat->Option Value} (hok: ∀(H:Nat->Nat->Option Value) (v:V) (c:Value),Bl ks v=true->Ac H v c->ok c): ∀ {kvs:List (V×V)} {es:List MapEntry},F7 H kvs es->(∀kv∈kvs,Bl ks kv.1=true)-> ∀e∈es,ok e.key
 | (k,v)::r,e0::es,h,hks,e,he=>by
   obtain⟨h1,h2,h3⟩:=h;rcases Ep.1 he with rfl|he
   .exact hok H k _ (hks _ (.head _)) h1
   .exact gJ hok h3 (fun kv hkv=>hks kv (.tail _ hkv)) e he
 | [],[],_,_,_,he=>by cases he
 | [],_::_,h,_,_,_=>h.elim
 | _::_,[],h,_,_,_=>h.elim
def WZ (hR:Rel F Z w) {n:Nat} {kvs:List (V×V)} (h:Z n=some (.map kvs)): ∃es clk,w.heap[n]? =some (.map es clk)/\F7 (Hh F Z w) kvs es.toList/\es.toList.Pairwise (fun a b=>a.key≠b.key):=by
 obtain⟨_,ob,h2,es,clk,rfl,h4⟩:=hR.own n _ h;exact⟨es,clk,h2,h4⟩
def U4 {t kt e:TypeId} {ks:KS} {z:V} {ok:Bool} (hu:P.underlying t=some (.map kt e)) (hks:VK P kt=some ks) (hz:zeroOf P e=some z) (hR:Rel F Z w) {vm vk:V} {cm ck:Value}
    (hm:Ac (Hh F Z w) vm cm) (hk:Ac (Hh F Z w) vk ck) (h:AM Z ks z ok vm vk fun v=>k v Z):CY F Z w k kp ((Instr.lookup t cm ck ok).run P w):=by
 obtain⟨h0,h⟩:=h;obtain⟨okk,K,hok⟩:=qy hks;have hck:=hok _ _ _ h0 hk;obtain⟨zc,hz1,hz2⟩:=El hz w;have hzr:Ac (Hh F Z w) z zc:=HY hz2;have hch: ∀em,(Instr.checkKey em 10000 kt ck).run P w= .ok () w:=fun em=>K.check w em hck
 unfold Instr.lookup;simp only[DZ,BK hu,HG]
 have fin: ∀ {o:Option V} {x:Value} {b:Bool},(match o with|some v=>b=true/\Ac (Hh F Z w) v x|none=>b=false/\x=zc)->k (found z ok o) Z->CY F Z w k kp (Result.ok (if ok=true then Value.tuple #[x,.bool b]else x) w):=fun {o x b} ho hk=>by
  have tup: ∀ {v:V} {x:Value} {b:Bool},Ac (Hh F Z w) v x->Ac (Hh F Z w) (.t [v,.b b]) (.tuple #[x,.bool b]):=fun hv=>⟨_,rfl,rfl,⟨_,rfl,hv⟩,⟨_,rfl,rfl⟩,trivial⟩
  cases o with
  | some v=>
    obtain⟨rfl,hv⟩:=ho;cases ok
    .exact Ax hR hk hv
    .exact Ax hR hk (tup hv)
  | none=>
    obtain⟨rfl,rfl⟩:=ho;cases ok
    .exact Ax hR hk hzr
    .exact Ax hR hk (tup hzr)
 cases vm<;>first|exact h.elim|skip
 .rename_i n
  simp only at h;split at h
  .rename_i kvs hn
   obtain⟨h1,h2⟩:=h;simp only[Ac]at hm;subst hm;obtain⟨es,clk,h3,h4,h5⟩:=WZ hR hn;have hg:(getObj n).run P w= .ok (.map es clk) w:=by simp[getObj,Sem.run,h3]
   simp only[DZ,hg,HG,E3,hch];rcases K.find w hck es.toList (gJ hok h4 h1)with⟨h6,h7⟩|⟨j,e',h6,h7,h8⟩
   .obtain⟨h9,_⟩:=Uh h0 hk hk 0 h4 h1 h7
    simp only[h6,HG,DZ,hz1,E3];rw[h9]at h2;exact fin (o:=none) ⟨rfl,rfl⟩ h2
   .obtain⟨v,h9,h10,_⟩:=Ug h0 hk hk h4 h1 h5 h7 h8
    simp only[h6,HG,E3];rw[h9]at h2;exact fin (o:=some v) ⟨rfl,h10⟩ h2
  .exact h.elim
 .simp only[Ac]at hm
  subst hm;simp only[DZ,E3,HG,hch];rcases K.find w hck [] (fun e he=>by cases he)with⟨h6,_⟩|⟨j,e',_,h7,_⟩
  .simp only[h6,HG,DZ,hz1,E3]
   exact fin (o:=none) ⟨rfl,rfl⟩ h
  .simp at h7
def Q2 {n:Nat} {ob:Obj} {es:Array MapEntry} {clk:Nat} (h:w.heap[n]? =some (.map es clk)):(setObj n ob).run P w= .ok () (CT w n ob):=by
 simp[setObj,Sem.run,h,CT]
def JT {c x:Value}: ∀ {es:List MapEntry} {j:Nat} {e:MapEntry},es[j]? =some e->e.key=c->es.Pairwise (fun a b=>a.key≠b.key)->(es.modify j fun e=>{e with key:=c,val:=x}).Pairwise (fun a b=>a.key≠b.key)
 | [],_,_,h,_,_=>by simp at h
 | e0::es,0,e,h,he,hp=>by
   simp only[fL,Gh]at h;subst h;obtain⟨h1,h2⟩:=List.pairwise_cons.1 hp;exact List.pairwise_cons.2 ⟨fun a ha=>by simpa only[<-he]using h1 a ha,h2⟩
 | e0::es,j+1,e,h,he,hp=>by
   simp only[qW]at h;obtain⟨h1,h2⟩:=List.pairwise_cons.1 hp;refine List.pairwise_cons.2 ⟨fun a ha=>?_,JT h he h2⟩;have ha:a∈es.modify j fun e=>{e with key:=c,val:=x}:=ha
   obtain⟨i,hi⟩:=List.mem_iff_getElem?.1 ha;rw[List.getElem?_modify]at hi;cases hb:es[i]? with
   | none=>rw[hb]at hi;cases hi
   | some b=>
     rw[hb]at hi;simp only[Option.map_eq_map,b9,Gh]at hi;split at hi
     .rename_i hji
      subst hi;subst hji;rw[h]at hb;cases hb;simpa only[<-he]using h1 e (B6 h)
     .subst hi
      exact h1 b (B6 hb)
def U3 {t kt e:TypeId} {ks:KS} (hu:P.underlying t=some (.map kt e)) (hks:VK P kt=some ks) (hR:Rel F Z w) {vm vk vx:V} {cm ck cx:Value}
    (hm:Ac (Hh F Z w) vm cm) (hk:Ac (Hh F Z w) vk ck) (hx:Ac (Hh F Z w) vx cx) (h:AN Z ks vm vk vx fun Z'=>k (.t []) Z') :
    ∃Z' w',(Instr.mapUpdate t cm ck cx).run P w= .ok () w'/\k (.t []) Z'/\Rel F Z' w'/\B8 F Z w Z' w':=by
 obtain⟨h0,h⟩:=h;obtain⟨okk,K,hok⟩:=qy hks;have hck:=hok _ _ _ h0 hk;have hch: ∀em,(Instr.checkKey em 10000 kt ck).run P w= .ok () w:=fun em=>K.check w em hck
 cases vm<;>first|exact h.elim|skip
 rename_i n;simp only at h;split at h
 .rename_i kvs hn
  obtain⟨h1,h2⟩:=h;simp only[Ac]at hm;subst hm;obtain⟨es,clk,h3,h4,h5⟩:=WZ hR hn;have hg:(getObj n).run P w= .ok (.map es clk) w:=by simp[getObj,Sem.run,h3]
  unfold Instr.mapUpdate;simp only[DZ,BK hu,HG,hg,hch];rcases K.find w hck es.toList (gJ hok h4 h1)with⟨h6,h7⟩|⟨j,e',h6,h7,h8⟩
  .obtain⟨_,h9⟩:=Uh h0 hk hx clk h4 h1 h7
   refine⟨_,CT w n (.map (es.push {key:=ck,val:=cx,born:=clk}) (clk+1)),?_,h2,KX hR hn ⟨_,_,rfl,?_,?_⟩,Hg hn _ _⟩
   .simp only[h6,HG]
    exact Q2 h3
   .simpa using h9
   .rw[Array.toList_push,List.pairwise_append]
    exact⟨h5,by simp,fun a ha b hb=>by simp at hb;subst hb;exact h7 a ha⟩
  .obtain⟨v,_,_,h9⟩:=Ug h0 hk hx h4 h1 h5 h7 h8
   have hj:es[j]? =some e':=by rw[<-h7];simp
   refine⟨_,CT w n (.map (es.modify j fun e=>{e with key:=ck,val:=cx}) clk),?_,h2,KX hR hn ⟨_,_,rfl,?_,?_⟩,Hg hn _ _⟩
   .simp only[h6,HG,DZ,hj,b9,Option.getD_some,h8,K.stays w hck]
    exact Q2 h3
   .simpa using h9
   .simpa using JT (x:=cx) h7 h8 h5
 .exact h.elim
def r9 (P:Program):Op->Option H4
 | .makeMap t r=>match r,P.underlying t with
   | none,_=>some .Vh
   | some _,_=>none
 | .lookup t x i ok=>match P.underlying t with
   | some (.map kt e)=>match VK P kt,zeroOf P e,BU x,BU i with
     | some ks,some z,some x,some i=>some (.lookup ks z ok x i)
     | _,_,_,_=>none
   | _=>none
 | .mapUpdate t m i x=>match P.underlying t with
   | some (.map kt _)=>match VK P kt,BU m,BU i,BU x with
     | some ks,some m,some i,some x=>some (.Ht ks m i x)
     | _,_,_,_=>none
   | _=>none
 | .insert t m i x=>match P.underlying t with
   | some (.map kt _)=>match VK P kt,BU m,BU i,BU x with
     | some ks,some m,some i,some x=>some (.Ht ks m i x)
     | _,_,_,_=>none
   | _=>none
 | _=>none
def Yy {env:Env} {a:Act} {o:Oper} {ao:H4} (ho:r9 P o.op=some ao) (h:GC P ao env Z k kp) (he:CL (Hh F Z w) env a.tmps) (hR:Rel F Z w) :
    Good P F Z w k kp ((execOp a.eval o).run P w):=by
 have put: ∀ {t:TypeId} {m i x:Operand},(match P.underlying t with
  | some (.map kt _)=>match VK P kt,BU m,BU i,BU x with
    | some ks,some m,some i,some x=>some (H4.Ht ks m i x)
    | _,_,_,_=>none
  | _=>none)=some ao->Good P F Z w k kp ((do Instr.mapUpdate t (a.eval m) (a.eval i) (a.eval x);pure Next.skip:Sem Next).run P w):=fun {t m i x} ho=>by
  split at ho
  .rename_i kt e hu
   split at ho
   .rename_i ks m' i' x' hks hm hi hx
    cases ho;obtain⟨vm,h1,g⟩:=Am h;obtain⟨vi,h2,g⟩:=Am g;obtain⟨vx,h3,g⟩:=Am g;obtain⟨Z',w',e1,e2,e3,e4⟩:=U3 hu hks hR (Av he hm h1) (Av he hi h2) (Av he hx h3) g;simp only[DZ,e1,HG,E3];exact⟨Z',e2,e3,e4⟩
   .cases ho
  .cases ho
 unfold execOp;unfold r9 at ho;split at ho
 .rename_i t r hop
  rw[hop];dsimp only;split at ho
  .cases ho
   refine A6 ?_;simp only[GC]at h;exact⟨_,_,h w.heap.size hR.new,rfl,Ia hR (o:= .map []) ⟨#[],0,rfl,trivial,by simp⟩,EG _ _⟩
  .cases ho
 .rename_i t x i ok hop
  rw[hop];dsimp only;split at ho
  .rename_i kt e hu
   split at ho
   .rename_i ks z x' i' hks hz hx hi
    cases ho;obtain⟨vx,h1,g⟩:=Am h;obtain⟨vi,h2,g⟩:=Am g;exact A6 (U4 hu hks hz hR (Av he hx h1) (Av he hi h2) g)
   .cases ho
  .cases ho
 .rename_i t m i x hop
  rw[hop];exact put ho
 .rename_i t m i x hop
  rw[hop];exact put ho
 .cases ho
def YX (P:Program) (name:String):List (TypeId×FuncId):=(List.range P.types.size).filterMap fun t=>
 match P.info? t,P.underlying t with
 | some i,some d=>match i.methods.find? (·.name==name)with
   | some m=>if m.path.isEmpty then match m.func,d with
     | some (f,true),.pointer _=>some (t,f)
     | some (_,false),.pointer _=>none
     | some (f,false),_=>some (t,f)
     | _,_=>none
     else none
   | none=>none
 | _,_=>none
def sA (P:Program):Op->Option H4
 | .call c=>match c.callee with
   | .invoke x name=>match BU x,LG c.args.toList with
     | some x,some as=>some (.inv (YX P name) x as)
     | _,_=>none
   | _=>none
 | _=>none
def Wb {t:TypeId} {f:FuncId}: ∀ {l:List (TypeId×FuncId)},look t l=some f->(t,f)∈l
 | [],h=>by cases h
 | (u,g)::r,h=>by
   simp only[look]at h;cases hb:Nat.beq u t with
   | true=>
     rw[hb]at h;simp only[cond_true,Gh]at h;rw[Zc hb,h];exact .head _
   | false=>
     rw[hb]at h;exact .tail _ (Wb h)
def Yq {name:String} {t:TypeId} {f:FuncId} (h:(t,f)∈YX P name) (c:Value):(method (P.types.size+Made.depth) t c name).run P w= .ok (f,c) w:=by
 unfold YX at h;rw[List.mem_filterMap]at h;obtain⟨u,hu,h⟩:=h;rw[List.mem_range]at hu;split at h
 rotate_left
 .cases h
 rename_i i d hi hd;split at h
 rotate_left
 .cases h
 rename_i m hm;split at h
 rotate_left
 .cases h
 rename_i hp
 have hpl:m.path.toList= []:=by
  have:m.path= #[]:=by simpa using hp
  rw[this]
 obtain⟨n,hn⟩: ∃n,P.types.size+Made.depth=n+1:=⟨P.types.size+Made.depth - 1,by omega⟩
 have key: ∀ptr,u=t->m.func=some (f,ptr)->(ptr=true-> ∃e,d= .pointer e)->(ptr=false-> ∀e,d≠ .pointer e)->(method (P.types.size+Made.depth) t c name).run P w= .ok (f,c) w:=fun ptr e1 e2 e3 e4=>by
  subst e1;rw[hn];unfold method;simp only[DZ,run_typeInfo w hi,HG,hm,hpl,follow,E3,e2,receiverAt,run_underlying hd];cases ptr with
  | true=>
    obtain⟨e,rfl⟩:=e3 rfl;simp[Place.get]
  | false=>
    have:=e4 rfl;cases d<;>first|exact absurd rfl (this _)|simp[Place.get]
 split at h
 .rename_i f' e hfun
  cases h;exact key true rfl hfun (fun _=>⟨_,rfl⟩) (fun h=>by cases h)
 .cases h
 .rename_i f' hfun hne
  cases h;exact key false rfl hfun (fun h=>by cases h) (fun _ e he=>by subst he;exact hne e rfl)
 .cases h
def fC {tab:List (TypeId×FuncId)} {x:V} {args:List V} {Q:R->AE->Prop} (h:Ap P tab x args Z Q): ∃t v f,x= .ME t v/\look t tab=some f/\As P f (v::args) Z Q:=by
 unfold Ap at h;split at h
 .split at h
  .exact⟨_,_,_,rfl,by assumption,h⟩
  .exact h.elim
 .exact h.elim
def Yz {env:Env} {a:Act} {o:Oper} {ao:H4} (ho:sA P o.op=some ao) (h:GC P ao env Z k kp) (he:CL (Hh F Z w) env a.tmps) (hR:Rel F Z w) :
    Good P F Z w k kp ((execOp a.eval o).run P w):=by
 unfold sA at ho;split at ho
 rotate_left
 .cases ho
 rename_i c hop;split at ho
 rotate_left
 .cases ho
 rename_i x name hc;split at ho
 rotate_left
 .cases ho
 rename_i x' as hx has;cases ho;obtain⟨vx,h1,g⟩:=Am h;obtain⟨vs,h2,g⟩:=Ix g;obtain⟨t,v,f,rfl,hf,g⟩:=fC g;obtain⟨cv,hcv,hvr⟩:=Av he hx h1
 have hext:(#[Value.iface t cv]++c.args.map a.eval).extract 1 (#[Value.iface t cv]++c.args.map a.eval).size=c.args.map a.eval:=by
  apply Array.ext';simp[List.take_of_length_le]
 have h0:(#[Value.iface t cv]++c.args.map a.eval)[0]? =some (.iface t cv):=by rw[Array.getElem?_append_left (Nat.zero_lt_one)];rfl
 have hrun:(execOp a.eval o).run P w=(callFunc f (#[cv]++c.args.map a.eval)).run P w:=by
  unfold execOp;simp only[hop,resolve,hc,DZ,E3,HG,invoke,hcv,h0,hext,callMethod];have hprog:(program).run P w= .ok P w:=rfl;simp only[hprog,HG,Yq (Wb hf)]
 rw[hrun];refine Qd hR ?_ g;have:=I2 (H:=Hh F Z w) (vs:=[v]) (cs:= #[cv]) ⟨rfl,⟨cv,rfl,hvr⟩,trivial⟩ (Kj he has h2);simpa using this
def ZE {t u e:TypeId} {i:TypeInfo} (ty:TypeId) (ht:P.underlying t=some (.slice e)) (hi:P.info? e=some i) (hR:Rel F Z w) {vx vy:V} {cx cy:Value} (hx:Ac (Hh F Z w) vx cx) (hy:Ac (Hh F Z w) vy cy)
    (h:AW Z i.size vx vy k):CY F Z w k kp ((Builtin.copy_ #[t,u] ty #[cx,cy]).run P w):=by
 have h':=Lm hR hy h;clear h;obtain⟨ys,base,c2,⟨hone,h⟩,rfl,hyl,hys⟩:=h'
 have main: ∀(n off len:Nat) (a:Option Addr) (cap:Nat),(len≠0->a=some ⟨n,off*i.size,none⟩)->Tn Z i.size ys n off len k->CY F Z w k kp ((Builtin.copy_ #[t,u] ty #[.slice a len cap,.slice base ys.length c2]).run P w):=fun n off len a cap ha hk=>by
  unfold Tn at hk;split at hk
  .rename_i s es c hs
   obtain⟨rfl,hle,hk⟩:=hk;obtain⟨cur,et,h3,h4,h5,h6,h7⟩:=FG hR hs;have hsz:sizeOf e=(do pure (<-typeInfo e).size:Sem Nat):=rfl;have hmin:Nat.min ys.length len=min ys.length len:=rfl;have hmL:min ys.length len<=Ab:=by omega
   have hrng: ∀H,Ac H (.i .i64 (min ys.length len:Nat)) (goInt (min ys.length len:Nat)):=fun H=>⟨rfl,Kh hmL⟩
   by_cases h0:min ys.length len=0
   ·
    have hrun:(Builtin.copy_ #[t,u] ty #[.slice a len cap,.slice base ys.length c2]).run P w= .ok (goInt 0) w:=by
     have hm0:Nat.min ys.length len=0:=h0;cases a<;>cases base<;>simp[Builtin.copy_,run_underlying ht,sizeOf,typeInfo,hi,Builtin.lenOf,hm0,Builtin.firstCells,loadCells,loadCellsFrom,storeCells]
    rw[hrun];rw[h0]at hk;simp only[Nat.add_zero]at hk;have e1:es.take off++(ys.take 0++es.drop off)=es:=by simp
    rw[e1]at hk
    have e2:BZ Z n (.arr i.size es c)=Z:=by
     funext m;unfold BZ;split
     .rename_i e;rw[e,hs]
     .rfl
    rw[e2]at hk;exact Ax hR hk ⟨rfl,Kh (n:=0) (by simp)⟩
   .obtain⟨b,o,g,rfl,hg,hrow⟩:=hys.resolve_left (fun e=>by rw[e]at h0;simp at h0)
    obtain rfl:=ha (by omega);obtain⟨news,h8,h9,h10⟩:=Ks (IZ hrow (min ys.length len));have hcnt:(ys.take (min ys.length len)).length=min ys.length len:=by simp
    rw[hcnt]at h8;have hmul:(off+min ys.length len)*i.size<=c*i.size:=SE _ (by omega);rw[Nat.add_mul]at hmul
    have hn1: ∀u∈news,u.oneCell'=true:=fun u hu=>by
     obtain⟨j,hj⟩:=List.mem_iff_getElem?.1 hu;have hlt:j<(ys.take (min ys.length len)).length*i.size:=by rw[hcnt,<-h8];exact(Ip.1 hj).1
     obtain⟨h4,h5⟩:=UR hlt;obtain⟨h6,h7⟩:=BI.1 h10 (j / i.size) _ (Cd h4);obtain⟨c,hc,hr⟩:=Bg.1 h7 (j % i.size) _ (Cd (by omega));have hdm:=Nat.div_add_mod' j i.size;rw[show 0+j / i.size*i.size+j % i.size=j by omega,hj]at hc;cases hc;exact QP hr (hone _ (List.mem_of_mem_take (List.getElem_mem h4)) _ (List.getElem_mem _))
    have hrunF:=run_firstCells_some (P:=P) w i.size (min ys.length len) ⟨b,o,none⟩ ys.length c2 news h8 (fun j v hv=>by rw[Co];exact hg _ _ (h9 j v hv));have hst:=Cp (P:=P) news w cur (off*i.size) 0 h3 (by omega) hn1;simp only[Nat.add_zero]at hst
    have hrun:(Builtin.copy_ #[t,u] ty #[.slice (some ⟨n,off*i.size,none⟩) len cap,.slice (some ⟨b,o,none⟩) ys.length c2]).run P w= .ok (goInt (min ys.length len:Nat)) (CT w n (.cells (DE cur (off*i.size) news) et (0,0))):=by
     simp[Builtin.copy_,run_underlying ht,sizeOf,typeInfo,hi,Builtin.lenOf,hmin,hrunF,hst]
    rw[hrun];refine⟨_,_,hk,hrng _,KX hR hs ⟨_,et,rfl,by rw[D7];exact h4,by simp;omega,by simp;omega,?_⟩,Hg hs _ _⟩;have hol:off<=es.length:=by omega
    refine Hi (Em (IZ h7 off) fun j hj=>?_) (Hi (Em h10 fun j hj=>?_) (Em (Nv h7 (off+min ys.length len)) fun j hj=>?_))
    .rw[Je,Nat.min_eq_left hol]at hj
     exact DW _ _ _ _ (by omega)
    .rw[hcnt]at hj
     rw[Je,Nat.min_eq_left hol];simp only[GZ];exact Ge _ _ _ _ (by omega) (by omega)
    .rw[Je,Nat.min_eq_left hol,hcnt,GZ,GZ,Nat.add_mul]
     exact DW _ _ _ _ (by omega)
  .exact hk.elim
 cases vx
 case sl n len cap=>
  obtain⟨rfl,_⟩:=hx;exact main n 0 len _ cap (fun _=>by simp) h
 case sv n s off len=>
  obtain⟨rfl,h⟩:=h;obtain⟨a,cap,rfl,_,h6⟩:=hx;exact main n off len a cap h6 h
 all_goals exact h.elim
def gA (P:Program):Op->Option H4
 | .call c=>match c.callee,c.args.toList,c.argTypes.toList with
   | .builtin .copy,[x,y],[t,_]=>match P.underlying t with
     | some (.slice e)=>match BU x,BU y,P.info? e with
       | some x,some y,some i=>some (.copy i.size x y)
       | _,_,_=>none
     | _=>none
   | _,_,_=>none
 | _=>none
def XT {env:Env} {a:Act} {o:Oper} {ao:H4} (ho:gA P o.op=some ao) (h:GC P ao env Z k kp) (he:CL (Hh F Z w) env a.tmps) (hR:Rel F Z w) :
    Good P F Z w k kp ((execOp a.eval o).run P w):=by
 unfold gA at ho;split at ho
 rotate_left
 .cases ho
 rename_i c hop;split at ho
 rotate_left
 .cases ho
 rename_i x y t u hc hargs htys;split at ho
 rotate_left
 .cases ho
 rename_i e hu;split at ho
 rotate_left
 .cases ho
 rename_i x' y' i hx hy hi;cases ho;obtain⟨vx,h1,g⟩:=Am h;obtain⟨vy,h2,g⟩:=Am g;have ea:c.args= #[x,y]:=by apply Array.ext';simpa using hargs
 have et:c.argTypes= #[t,u]:=by apply Array.ext';simpa using htys
 unfold execOp;simp only[hop,resolve,hc,ea,et,DZ,E3,HG,invoke,builtin,List.map_toArray,CK,List.map_nil];exact En (ZE (P:=P) (kp:=kp) o.type hu hi hR (Av he hx h1) (Av he hy h2) g)
def fV (P:Program) (o:Op):Option H4:=match r8 P o with|some a=>some a|none=>match r9 P o with|some a=>some a|none=>match sA P o with|some a=>some a|none=>gA P o
def Yw {env:Env} {a:Act} {o:Oper} {ao:H4} (ho:fV P o.op=some ao) (h:GC P ao env Z k kp) (he:CL (Hh F Z w) env a.tmps) (hR:Rel F Z w) :
    Good P F Z w k kp ((execOp a.eval o).run P w):=by
 unfold fV at ho;split at ho
 .rename_i h';cases ho;exact Yx h' h he hR
 .split at ho
  .rename_i h';cases ho;exact Yy h' h he hR
  .split at ho
   .rename_i h';cases ho;exact Yz h' h he hR
   .exact XT ho h he hR
end Go.Gl
namespace Go.Gl
variable {P:Program} {F:Nat->Prop}
def emp:AE:=fun _=>none
def Pure (P:Program) (f:FuncId) (args:List V) (v:V):Prop:=As P f args emp fun r Z'=>r= .ret v/\Z'=emp
def aG {w:World} (F:Nat->Prop) (h: ∀n,F n->n<w.heap.size):Rel F emp w:=⟨fun n o ho=>(by cases ho),h⟩
def Us {Z:AE} {w w':World} {F':Nat->Prop} (h:B8 F' emp w emp w'):B8 F Z w Z w':=
 ⟨fun n hn _=>h.frame n hn rfl,h.size,h.os,h.tape,h.output,fun _ h0 _=>h0⟩
def Sp {Z:AE} {w w':World} {F':Nat->Prop} (hR:Rel F Z w) (h:B8 F' emp w emp w'):Rel F Z w':=
 hR.step (Us h) fun n _ hn=> .inl ⟨hn,h.frame n (hR.lt hn) rfl⟩
def Pure.use {f:FuncId} {args:List V} {v:V} (h:Pure P f args v) {Z:AE} {k kp:V->AE->Prop} (hk:k v Z):As P f args Z (qk k kp):=by
 refine⟨h.1,fun F w cs hR hv=>?_⟩
 have hH: ∀w:World,(Hh (fun n=>F n\/Z n≠none) emp w)=Hh F Z w:=fun w=>by
  funext b o;unfold Hh;by_cases hb:F b\/(Z b).isSome=true
  .rw[if_pos hb,if_pos]
   rcases hb with hb|hb
   .exact .inl (.inl hb)
   .exact .inl (.inr (by intro e;rw[e]at hb;cases hb))
  .rw[if_neg hb,if_neg]
   rintro((h|h)|h)
   .exact hb (.inl h)
   .exact hb (.inr (by cases hs:Z b with|none=>exact absurd hs h|some o=>rfl))
   .cases h
 refine Calls.mono (h.2 (fun n=>F n\/Z n≠none) w cs (aG _ fun n hn=>?_) (by rw[hH];exact hv)) fun e w' ⟨r,Z',⟨hr,hs⟩,h1,h2,h3⟩=>?_
 .rcases hn with hn|hn
  .exact hR.lock n hn
  .cases hs:Z n with
   | none=>exact absurd hs hn
   | some o=>exact hR.lt hs
 .subst hr
  subst hs;rw[hH]at h1;exact⟨.ret v,Z,hk,h1,Sp hR h3,Us h3⟩
def As.mono {f:FuncId} {args:List V} {Z:AE} {Q Q':R->AE->Prop} (h:As P f args Z Q) (hq: ∀r Z',Q r Z'->Q' r Z'):As P f args Z Q':=
 ⟨h.1,fun F w cs hR hv=>Calls.mono (h.2 F w cs hR hv) fun _ _ ⟨r,Z',h1,h2⟩=>⟨r,Z',hq _ _ h1,h2⟩⟩
def LB.mono {l:Nat} {args:List V} {Z:AE} {Q Q':R->AE->Prop} (h:LB P l args Z Q) (hq: ∀r Z',Q r Z'->Q' r Z'):LB P l args Z Q':=
 fun F w cs hR hv=>let⟨f,tmps,assign,body,h1,h2⟩:=h F w cs hR hv;⟨f,tmps,assign,body,h1,h2.mono fun e w' ⟨r,Z',h3,h4⟩=>⟨r,Z',hq _ _ h3,h4⟩⟩
def Ai.mono {x:V} {args:List V} {Z:AE} {Q Q':R->AE->Prop} (h:Ai P x args Z Q) (hq: ∀r Z',Q r Z'->Q' r Z'):Ai P x args Z Q':=by
 unfold Ai at *;split at h
 .exact As.mono h hq
 .exact LB.mono h hq
 .exact h.elim
def Ap.mono {tab:List (TypeId×FuncId)} {x:V} {args:List V} {Z:AE} {Q Q':R->AE->Prop} (h:Ap P tab x args Z Q) (hq: ∀r Z',Q r Z'->Q' r Z'):Ap P tab x args Z Q':=by
 unfold Ap at *;split at h
 .split at h
  .exact As.mono h hq
  .exact h.elim
 .exact h.elim
def rd:CG->List Nat| .t n=>[n]| .c _=>[]
def rdO:Option CG->List Nat|some x=>rd x|none=>[]
def fF (l:List CG):List Nat:=l.flatMap rd
def reads:H4->List Nat
 | .mv x| .yR x| .not x| .neg _ x| .conv _ x| .box x| .Tp x| .load _ x| .MP _ x| .field _ _ x| .len x| .cQ x| .str x| .extract _ x| .Pu x| .Vi _ x| .rY _ _ _ x| .panic x| .rj _ _ x=>rd x
 | .pick a b c=>rd a++rd b++rd c
 | .fU x y| .bin _ x y| .yW _ x y| .yV _ _ x y| .store _ x y| .SS _ _ x y| .index _ _ _ x y| .append _ _ x y| .YE _ _ x y| .copy _ x y| .fe x y| .fb x y| .Kf _ _ _ x y| .lookup _ _ _ x y=>rd x++rd y
 | .alloc _| .Vh=>[]
 | .build _ ps=>fF (ps.map fun p=>p.2.2)
 | .Nk _ _ _ ps=>fF (ps.map fun p=>p.2)
 | .slice _ x a b c=>rd x++rdO a++rdO b++rdO c
 | .ra _ a b=>fF a++fF b
 | .Ht _ m k v=>rd m++rd k++rd v
 | .call _ as| .SW _ as=>fF as
 | .Py x as| .jM x as| .inv _ x as=>rd x++fF as
variable {env env':Env}
def Aa {x:CG} (h: ∀s∈rd x,get s env'=get s env):ev env' x=ev env x:=by
 cases x with
 | t n=>exact h n (by simp[rd])
 | c v=>rfl
def Fl: ∀ {l:List CG},(∀s∈fF l,get s env'=get s env)->Xy env' l=Xy env l
 | [],_=>rfl
 | x::r,h=>by
   simp only[fF,List.flatMap_cons,Dn]at h;simp only[Xy,Aa (fun s hs=>h s (.inl hs)),Fl (l:=r) (fun s hs=>h s (.inr hs))]
def KK {x:Option CG} (h: ∀s∈rdO x,get s env'=get s env):Jp env' x=Jp env x:=by
 cases x with
 | none=>rfl
 | some x=>simp only[Jp,Aa (x:=x) h]
def Oi: ∀ {ps:List (Nat×Nat×CG)} {cs:List V},(∀s∈fF (ps.map fun p=>p.2.2),get s env'=get s env)->OT env' cs ps=OT env cs ps
 | [],_,_=>rfl
 | (off,sz,x)::r,cs,h=>by
   simp only[fF,CK,List.flatMap_cons,Dn]at h;simp only[OT,Aa (fun s hs=>h s (.inl hs))];split<;>try rfl
   split<;>try rfl
   cases hb:(Nat.beq _ sz&&Nat.ble (off+sz) cs.length)<;>simp only[cond_true,cond_false]
   exact Oi (ps:=r) fun s hs=>h s (.inr hs)
def Oj {sz:Nat}: ∀ {ps:List (Nat×CG)} {es:List (List V)},(∀s∈fF (ps.map fun p=>p.2),get s env'=get s env)->MO env' sz es ps=MO env sz es ps
 | [],_,_=>rfl
 | (i,x)::r,es,h=>by
   simp only[fF,CK,List.flatMap_cons,Dn]at h;simp only[MO,Aa (fun s hs=>h s (.inl hs))];split<;>try rfl
   split<;>try rfl
   cases hb:(Nat.beq _ sz&&Nat.blt i es.length)<;>simp only[cond_true,cond_false]
   exact Oj (ps:=r) fun s hs=>h s (.inr hs)
def TW {o:H4} {Z:AE} {k kp:V->AE->Prop} (h: ∀s∈reads o,get s env'=get s env):GC P o env' Z k kp=GC P o env Z k kp:=by
 cases o<;>simp only[reads,Dn,or_imp,forall_and]at h<;>simp only[GC]
 case mv x=>rw[Aa h]
 case yR x=>rw[Aa h]
 case pick a b c=>rw[Aa h.1.1,Aa h.1.2,Aa h.2]
 case bin op x y=>rw[Aa h.1,Aa h.2]
 case yW n x y=>rw[Aa h.1,Aa h.2]
 case yV q n x y=>rw[Aa h.1,Aa h.2]
 case rj q n x=>rw[Aa h]
 case lookup a b c x y=>rw[Aa h.1,Aa h.2]
 case Ht a x y z=>rw[Aa h.1.1,Aa h.1.2,Aa h.2]
 case Kf a b c x y=>rw[Aa h.1,Aa h.2]
 case not x=>rw[Aa h]
 case neg n x=>rw[Aa h]
 case conv n x=>rw[Aa h]
 case box x=>rw[Aa h]
 case Tp x=>rw[Aa h]
 case YE a b x y=>rw[Aa h.1,Aa h.2]
 case build z ps=>rw[Oi h]
 case Nk a b c ps=>rw[Oj h]
 case load a x=>rw[Aa h]
 case store a x y=>rw[Aa h.1,Aa h.2]
 case MP a x=>rw[Aa h]
 case field a b x=>rw[Aa h]
 case SS a b x y=>rw[Aa h.1,Aa h.2]
 case index a b c x y=>rw[Aa h.1,Aa h.2]
 case slice s x a b c=>rw[Aa h.1.1.1,KK h.1.1.2,KK h.1.2,KK h.2]
 case len x=>rw[Aa h]
 case cQ x=>rw[Aa h]
 case str x=>rw[Aa h]
 case fU x y=>rw[Aa h.1,Aa h.2]
 case append a b x y=>rw[Aa h.1,Aa h.2]
 case copy a x y=>rw[Aa h.1,Aa h.2]
 case inv tab x as=>rw[Aa h.1,Fl h.2]
 case fe x y=>rw[Aa h.1,Aa h.2]
 case fb x y=>rw[Aa h.1,Aa h.2]
 case extract i x=>rw[Aa h]
 case Pu x=>rw[Aa h]
 case ra f a b=>rw[Fl h.1,Fl h.2]
 case Vi t x=>rw[Aa h]
 case rY a b c x=>rw[Aa h]
 case panic x=>rw[Aa h]
 case call f as=>rw[Fl h]
 case SW f as=>rw[Fl h]
 case Py x as=>rw[Aa h.1,Fl h.2]
end Go.Gl
