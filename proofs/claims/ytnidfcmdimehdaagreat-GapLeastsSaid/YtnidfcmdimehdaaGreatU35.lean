import Derived.Test.YtnidfcmdimehdaaGreatU14
import Derived.Test.YtnidfcmdimehdaaGreatU15
import Derived.Test.YtnidfcmdimehdaaGreatU18
import Derived.Test.YtnidfcmdimehdaaGreatU21
import Derived.Test.YtnidfcmdimehdaaGreatU23
import Derived.Test.YtnidfcmdimehdaaGreatU25
import Derived.Test.YtnidfcmdimehdaaGreatU29
import Derived.Test.YtnidfcmdimehdaaGreatU31
import Derived.Test.YtnidfcmdimehdaaGreatU33
import Derived.Test.YtnidfcmdimehdaaGreatU34
set_option linter.all false
set_option linter.defProp false
set_option maxHeartbeats 8000000
noncomputable section
namespace Go.Gl
open Go.Proofs
attribute [local irreducible] As Af AV AQ AI AU AP AR AJ AT AM AN Ag Ar Sat AS Ap AX W
def j7 (g:FuncId) (fi ca:List V) (q:Int->Bool) (xs:List Int) (hpf: ∀y∈xs,Pure zP g (fi++[eI y]++ca) (.b (q y))) (f:Bool) (hxl:xs.length<=1000):Pure zP 300 [.l (iL xs) f,.f (.func g) fi ca] (.l (iL (xs.filter q)) true):=by
 refine Pure.of ?_;have hM:=Mx;refine tY kZ ?_;have hs:=Sn;refine zz ?_;(repeat clear U K);repeat intro K U
 refine Ba xs.length (fun k v=>[(5,v),(10,eI (Au k))]) (fun k v=>[.own v 1 (iL ((xs.take k).filter q))]) (fun _ _=>True) (.l [] true) rfl trivial (Ce hs 1) ?_;clear hs;rintro k v Z hk - hs;have hfl:=NI q (xs.take k);rw[Ib]at hfl;rcases Aw xs hk with⟨y,hy,hlt⟩|hke
 .have hpy:=hpf y (BY hy)
  have hst:(xs.take (k+1)).filter q=if q y then(xs.take k).filter q++[y]else(xs.take k).filter q:=by
   rw[AO hy,List.filter_append];cases hp:q y<;>simp[hp]
  generalize (xs.take k).filter q=zl at *;have hll:zl.length<AZ/\(zl.length+1)*8<=140737488355328:=by omega
  conv=>whnf
  repeat'((first|clear U K|apply st|(apply zk;intro K U)|refine zY ?_|refine aq fun v Z hs hsl=>?_|refine A6 (hpy.use ?_)|refine za (fun hc=>?_) fun hc=>?_|fail)<;>conv=>whnf)
  .rw[if_pos (by assumption)]at hst
   exact⟨hlt,_,rfl,trivial,by rw[hst];exact hs⟩
  .rw[if_neg (by simp[*])]at hst
   exact⟨hlt,_,rfl,trivial,by rw[hst];exact hs⟩
 .rw[Ak hke]at hs
  refine zz ?_;(repeat clear U K);repeat intro K U
  refine(P3 (xs.filter q) v (by have:=NI q xs;omega)).use (rest:=[]) (by simpa using hs) ?_;clear hs;rintro r post Z ⟨rfl,rfl⟩ hs;refine zz ?_;(repeat clear U K);repeat intro K U
  exact AH (by rfl)
def yS (x y:Int):Pure zP 301 [eI y,.rp [eI x]] (.b (y != x)):=by
 refine tX kZ ?_;have hs:=Sn;refine zz ?_;(repeat clear U K);repeat intro K U
 all_goals exact AF (by rfl)
def Nl (xs:List Int) (f:Bool) (x:Int) (hxl:xs.length<=1000):Pure zP 261 [.l (iL xs) f,eI x] (.l (iL (xs.filter (· != x))) true):=by
 have c1:=j7 301 [] [.rp [eI x]] (· != x) xs (fun y _=>yS x y) f hxl;refine uB kZ ?_;have hs:=Sn
 conv=>whnf
 repeat'((first|clear U K|apply st|(apply zk;intro K U)|refine zC ?_|fail)<;>conv=>whnf)
 all_goals exact AF (by rfl)
def GR: ∀ {l:List Int} {i:Nat} {x:Int},l.Nodup->l[i]? =some x->l.filter (· != x)=l.eraseIdx i
 | y::r,0,x,hn,hx=>by
   obtain rfl:y=x:=by simpa using hx
   rw[List.nodup_cons]at hn;rw[List.filter_cons,if_neg (by simp),List.eraseIdx_cons_zero];exact List.filter_eq_self.2 fun z hz=>by rw[zrJ];rintro rfl;exact hn.1 hz
 | y::r,i+1,x,hn,hx=>by
   rw[List.nodup_cons]at hn;rw[qI]at hx;have hyx:y≠x:=fun e=>hn.1 (e ▸ BY hx)
   rw[List.filter_cons,if_pos (by simpa using hyx),List.eraseIdx_cons_succ,GR hn.2 hx]
def dN {A:Int->Int->Bool} {l:List Int} {i:Nat} (hi:i<l.length) (h:HV A l i l.length=true) (hn: ∀j,j<i->HV A l j l.length=false):El A l=some i:=by
 rw[El,List.find?_range_eq_some];exact⟨h,List.mem_range.2 hi,fun j hj=>by rw[hn j hj];rfl⟩
def dL {A:Int->Int->Bool} {l:List Int} (hn: ∀j,j<l.length->HV A l j l.length=false):El A l=none:=by
 rw[El,List.find?_range_eq_none];exact fun j hj=>by rw[hn j hj];rfl
def mE {A:Int->Int->Bool} {l:List Int} {i k n:Nat} (hk:k<n) (h:(k==i||A (l.getD i 0) (l.getD k 0))=false):HV A l i n=false:=by
 rw[HV,<-Bool.not_eq_true,DT];intro h2;rw[h2 k (List.mem_range.2 hk)]at h;cases h
def jb {l:List Int} (hn:l.Nodup) {i k:Nat} {x y:Int} (hx:l[i]? =some x) (hy:l[k]? =some y) (h:k≠i):x≠y:=by
 rintro rfl;have hi:=(JA.1 hx)
 have hj:=(JA.1 hy)
 have:=(List.nodup_iff_pairwise_ne.1 hn)
 rw[List.pairwise_iff_getElem]at this;rcases Nat.lt_or_gt_of_ne h with h'|h'
 .exact this k i hj.1 hi.1 h' (by rw[hj.2,hi.2])
 .exact this i k hi.1 hj.1 h' (by rw[hj.2,hi.2])
def bB (p : Prog) (L:Nat) (l:List Int) (f:Bool) (hok:EN p) (hgw:CS (AG p)) (hfm: ∀x∈p.methods,Bv (AG p) x.fact=true) (hl:T4 p l) (hnd:l.Nodup) (M:List (Int×Int)) :
    BL zP 218 [Tb p L,.l (iL l) f] [.map L (LK p M)] fun r post=>r= .ret (.t [.l (iL (BW (Az p) l.length l).1) true,.b (BW (Az p) l.length l).2])/\ ∃M',post= [.map L (LK p M')]:=by
 intro Z hs;have hM:=Mx;refine um kZ ?_;refine zz ?_;(repeat clear U K);repeat intro K U
 refine DD (fun(x:List Int×Bool×V×List Int×List (Int×Int))=>x.1.length) (fun x=>[(1,.l (iL x.1) x.2.1),(6,x.2.2.1)]) (fun x=>[.own x.2.2.1 1 (iL x.2.2.2.1),.map L (LK p x.2.2.2.2)])
  (fun x=>(∀y∈x.1,BG p y=true)/\x.1.Nodup/\x.2.2.2.1.length+x.1.length<=16/\BW (Az p) l.length l=(x.2.2.2.1++(BW (Az p) x.1.length x.1).1,(BW (Az p) x.1.length x.1).2)) (l,f,.l [] true,[],M) rfl ⟨hl.FH,hnd,by simpa using hl.many,by simp⟩ (CM hs 1) ?_
 clear hs;rintro⟨l',f',v,out,M⟩ Z ⟨hme,hn,hlen,hm⟩ hs;dsimp only at hme hn hlen hm hs;dsimp only;have hll:out.length<AZ/\(out.length+1)*8<=140737488355328:=by omega
 by_cases hz:l'.length=0
 .rw[hz]at hm
  simp only[BW,EU]at hm
  conv=>whnf
  repeat'((first|clear U K|apply st|(apply zk;intro K U)|refine zY ?_|(refine zb (fun hc=>?_) (fun hc=>?_)<;>try exact⟨⟩)|fail)<;>conv=>whnf)
  refine(P3 out v (by omega)).use (rest:=[_]) hs ?_;clear hs;rintro r post Z ⟨rfl,rfl⟩ hs;refine zz ?_;(repeat clear U K);repeat intro K U
  exact AH ⟨_,⟨by rw[hm],M,rfl⟩,hs⟩
 .obtain ⟨n,hnn⟩: ∃n,l'.length=n+1:=⟨l'.length - 1,by omega⟩
  have hne:l'.isEmpty=false:=by cases l' with
   | nil=>simp at hz
   | cons=>rfl
  rw[hnn,BW]at hm
  conv=>whnf
  repeat'((first|clear U K|apply st|(apply zk;intro K U)|refine zY ?_|(refine zb (fun hc=>?_) (fun hc=>?_)<;>try exact⟨⟩)|fail)<;>conv=>whnf)
  refine Ba l'.length (fun i (_:List (Int×Int))=>[(16,eI (Au i))]) (fun _ M=>[.own v 1 (iL out),.map L (LK p M)]) (fun i _=> ∀j,j<i->HV (Az p) l' j l'.length=false) M rfl (fun j h=>by omega) hs ?_;clear hs;rintro i M Z hi hno hs;rcases Aw l' hi with⟨x,hx,hlt⟩|hie
  .have hmx:=hme x (BY hx)
   refine zz ?_;(repeat clear U K);repeat intro K U
   refine Ba l'.length (fun k (_:List (Int×Int))=>[(22,eI (Au k))]) (fun _ M=>[.own v 1 (iL out),.map L (LK p M)]) (fun k _=>HV (Az p) l' i k=true) M rfl rfl hs ?_;clear hs;rintro k M Z hk htop hs;rcases Aw l' hk with⟨y,hy,hklt⟩|hke
   .have hmy:=hme y (BY hy)
    have hsu:=Sa (Az p) l' i k;rw[B5 hx,B5 hy,htop,Db]at hsu;by_cases hki:k=i
    .obtain rfl:x=y:=by
      rw[hki,hx]at hy;exact Option.some.inj hy
     conv=>whnf
     repeat'((first|clear U K|apply st|(apply zk;intro K U)|refine zY ?_|(refine zb (fun hc=>?_) (fun hc=>?_)<;>try exact⟨⟩)|fail)<;>conv=>whnf)
     exact⟨hklt,M,rfl,by rw[hsu,hki];simp,hs⟩
    .have hxy:=jb hn hx hy hki
     have c5:=Wu p L x y hok hgw hfm hmx hmy M;cases hah:Az p x y<;>rw[hah]at c5
     all_goals
      conv=>whnf
      repeat'((first|clear U K|apply st|(apply zk;intro K U)|refine zY ?_|(refine zb (fun hc=>?_) (fun hc=>?_)<;>try exact⟨⟩)|fail)<;>conv=>whnf)
      refine c5.use (rest:=[_]) (hs.perm (.swap _ _ _)) ?_;clear hs;rintro r post Z ⟨rfl,rfl⟩ hs;refine zz ?_;(repeat clear U K);repeat intro K U
     .refine⟨hlt,_,rfl,fun j hj=>?_,hs.perm (.swap _ _ _)⟩
      rcases Nat.lt_or_ge j i with h'|h'
      .exact hno j h'
      .rw[show j=i by omega]
       exact mE hklt (by rw[B5 hx,B5 hy,hah];simpa using hki)
     .exact⟨hklt,_,rfl,by rw[hsu,hah];simp,hs.perm (.swap _ _ _)⟩
   .have c1:=Nl l' f' x (by omega)
    rw[GR hn hx]at c1;have hel:=List.length_eraseIdx_of_lt hlt;rw[dN hlt (hke ▸ htop) hno]at hm;dsimp only at hm;rw[B5 hx]at hm
    conv=>whnf
    repeat'((first|clear U K|apply st|(apply zk;intro K U)|refine zY ?_|refine aq fun v Z hs hsl=>?_|refine zC ?_|fail)<;>conv=>whnf)
    refine⟨(l'.eraseIdx i,true,v,out++[x],M),by dsimp only;omega,rfl,⟨fun y hy=>hme y (List.mem_of_mem_eraseIdx hy),hn.sublist (List.eraseIdx_sublist _ _),by simp;omega,?_⟩,hs⟩;dsimp only;rw[hm,hel,show l'.length - 1=n by omega];simp
  .rw[dL fun j hj=>hno j (by omega)]at hm
   dsimp only at hm;rw[hne,EU]at hm;refine zz ?_;(repeat clear U K);repeat intro K U
   refine(P3 out v (by omega)).use (rest:=[_]) hs ?_;clear hs;rintro r post Z ⟨rfl,rfl⟩ hs;refine zz ?_;(repeat clear U K);repeat intro K U
   exact AH ⟨_,⟨by rw[hm];rfl,M,rfl⟩,hs⟩
end Go.Gl
namespace Go.Gl
open Go.Proofs
def RK {p:Prog} (hok:EN p) {i j k:Int} (hi:BG p i=true) (hj:BG p j=true) (hk:BG p k=true) (h1:GY p i j=true) (h2:GY p j k=true):GY p i k=true:=
 imp_trans hok.dw (hok.facts _ (BY (Br hi))).1 (hok.facts _ (BY (Br hj))).1 (hok.facts _ (BY (Br hk))).1 h1 h2
def ZH {p:Prog} {i j:Int}:Az p i j=true↔GY p i j=true/\GY p j i=false:=by
 rw[Az,A7,Bool.not_eq_true']
def Re {p:Prog} (i:Int):Az p i i=false:=by
 rw[Az];cases GY p i i<;>rfl
def U8 {p:Prog} (hok:EN p) {i j k:Int} (hi:BG p i=true) (hj:BG p j=true) (hk:BG p k=true) (h1:Az p i j=true) (h2:Az p j k=true):Az p i k=true:=by
 rw[ZH]at *;refine⟨RK hok hi hj hk h1.1 h2.1,?_⟩;rw[<-Bool.not_eq_true];intro e;have:=RK hok hk hi hj e h1.1;rw[h2.2]at this;cases this
end Go.Gl
namespace Go.Gl
open Go.Proofs
attribute [local irreducible] As Af AV AQ AI AU AP AR AJ AT AM AN Ag Ar Sat AS Ap AX W
def mK (p:Prog) (L:Nat) (m:Int) (hok:EN p) (hgw:CS (AG p)) (hfm: ∀x∈p.methods,Bv (AG p) x.fact=true) (hm:BG p m=true) :
    Cq zP (.f (.func 266) [] [.rp [Tb p L],.rp [eI m]]) eI (fun M=>[.map L (LK p M)]) (fun y M=>(Az p y m,bn p M y m)) (fun y _=>BG p y=true):=by
 intro y M hy Z hs;refine A6 ?_;show As zP 266 ([]++[eI y]++[.rp [Tb p L],.rp [eI m]]) Z _;refine tw kZ ?_;refine zz ?_;(repeat clear U K);repeat intro K U
 refine(Wu p L y m hok hgw hfm hy hm M).use (rest:=[]) (by simpa using hs) ?_;clear hs;rintro r post Z ⟨rfl,rfl⟩ hs;refine zz ?_;(repeat clear U K);repeat intro K U
 exact Aj hs (List.sublist_append_left _ _) (.refl _) fun Z' hs'=>⟨rfl,hs'⟩
def TC {S:Type} {stp:Int->S->Bool×S} {q:Int->Bool}: ∀(xs:List Int) (k:Nat) (s:S),(∀y∈xs,∀s,(stp y s).1=q y)->(Bc stp xs k s).1=match(List.range xs.length).find? fun i=>q (xs.getD i 0)with|some i=>((k+i:Nat):Int)|none=> -1
 | [],_,_,_=>rfl
 | y ::r,k,s,h=>by
   rw[Bc,h y (.head _)];have ih:=TC r (k+1) (stp y s).2 fun z hz=>h z (.tail _ hz)
   rw[JU,List.range_succ_eq_map,List.find?_cons,List.getD_cons_zero];cases hq:q y
   .rw[if_neg (by decide),ih]
    simp only[List.find?_map,Function.comp_def,Nat.succ_eq_add_one,List.getD_cons_succ];cases(List.range r.length).find? fun i=>q (r.getD i 0)with
    | none=>rfl
    | some i=>simp only[Xg];congr 1;omega
   .rw[if_pos rfl];simp
def xl (p:Prog) (l:List Int) (m:Int) (M:List (Int×Int)):List (Int×Int):=(Bc (fun y M=>(Az p y m,bn p M y m)) l 0 M).2
def Zl (p:Prog) (L nb:Nat) (l:List Int) (f:Bool) (hok:EN p) (hgw:CS (AG p)) (hfm: ∀x∈p.methods,Bv (AG p) x.fact=true) (hl: ∀x∈l,BG p x=true) :
    Cq zP (.f (.func 265) [] [.p nb 0,.rp [Tb p L]]) eI (fun M=>[.box nb [.l (iL l) f],.map L (LK p M)]) (fun m M=>(!(decide ((Bc (fun y M=>(Az p y m,bn p M y m)) l 0 M).1≥0)),xl p l m M)) (fun m _=>BG p m=true):=by
 intro m M hm Z hs;refine A6 ?_;show As zP 265 ([]++[eI m]++[.p nb 0,.rp [Tb p L]]) Z _;refine tx kZ ?_;refine zz ?_;(repeat clear U K);repeat intro K U
 refine(Gy 266 [] [.rp [Tb p L],.rp [eI m]] (fun M=>[.map L (LK p M)]) _ _ (mK p L m hok hgw hfm hm) l f M (Hf fun y hy _=>hl y hy)).use (rest:=[_]) (hs.perm (.swap _ _ _)) ?_;clear hs;rintro r post Z ⟨rfl,rfl⟩ hs;refine zz ?_;(repeat clear U K);repeat intro K U
 exact Aj (hs.perm (.swap _ _ _)) (List.Sublist.refl _) (.refl _) fun Z' hs'=>⟨rfl,hs'⟩
def fw {p:Prog} (hok:EN p): ∀(l:List Int),l≠[]->(∀x∈l,BG p x=true)-> ∃x∈l,∀y∈l,Az p y x=false
 | [],h,_=>absurd rfl h
 | x ::r,_,h=>by
   by_cases hr:r= []
   .subst hr
    exact⟨x,.head _,fun y hy=>by rw[JT.1 hy];exact Re x⟩
   obtain⟨z,hz,hz2⟩:=fw hok r hr fun y hy=>h y (.tail _ hy)
   cases hxz:Az p x z
   .refine⟨z,.tail _ hz,fun y hy=>?_⟩
    rcases Ff.1 hy with rfl|hy
    .exact hxz
    .exact hz2 y hy
   .refine⟨x,.head _,fun y hy=>?_⟩
    rcases Ff.1 hy with rfl|hy
    .exact Re y
    .rw[<-Bool.not_eq_true]
     intro e;have:=U8 hok (h y (.tail _ hy)) (h x (.head _)) (h z (.tail _ hz)) e hxz;rw[hz2 y hy]at this;cases this
def Sw {p:Prog} (hok:EN p) {l:List Int} (hl:l≠[]) (h: ∀x∈l,BG p x=true): ∃i,NP (Az p) l=some i:=by
 obtain⟨x,hx,hx2⟩:=fw hok l hl h;obtain⟨i,hi⟩:=List.getElem?_of_mem hx;cases hm:NP (Az p) l with
 | some i=>exact⟨i,rfl⟩
 | none=>
   rw[NP,List.find?_range_eq_none]at hm;have h1:=hm i (JA.1 hi).1
   have h2:LM (Az p) l i l.length=true:=by
    rw[LM,DT];intro k hk;rw[B5 hi,hx2 _ (ED (List.mem_range.1 hk))];rfl
   rw[h2]at h1;cases h1
def SY (xs:List Int) (f:Bool):Pure zP 264 [.l (iL xs) f] (.f (.func 303) [] [.rp [.l (iL xs) f]]):=by
 refine tz kZ ?_;have hs:=Sn;exact zW
def mD (xs:List Int) (f:Bool) (hxl:xs.length<=1000) {S:Type} {fn:Fn} {fi ca:List V} {H:S->List At} (Inv:Nat->S->Prop) {s:S} (h0:Inv 0 s)
    (hT: ∀(k:Nat) s y,xs[k]? =some y->Inv k s-> ∀Z:AD,Sat Z (H s)->Ag zP (.f fn fi ca) [eI y] Z fun r Z'=> ∃s',r= .ret (.b true)/\Inv (k+1) s'/\Sat Z' (H s')) (Z:AD) (hs:Sat Z (H s)) :
    As zP 303 [.f fn fi ca,.rp [.l (iL xs) f]] Z fun r Z'=> ∃s',r= .ret (.t [])/\Inv xs.length s'/\Sat Z' (H s'):=by
 have hM:=Mx;refine tV kZ ?_;refine zz ?_;(repeat clear U K);repeat intro K U
 refine Ba xs.length (fun k (_:S)=>[(7,eI (Au k))]) (fun _ s'=>H s') (fun k s'=>Inv k s') s rfl h0 hs ?_;clear hs;rintro k s' Z hk ho hs;rcases Aw xs hk with⟨y,hy,hlt⟩|hke
 .have hT':=hT k s' y hy ho
  refine zz ?_;(repeat clear U K);repeat intro K U
  refine(hT' Z hs).mono ?_;rintro r Z ⟨s2,rfl,hi2,hs⟩;refine zz ?_;(repeat clear U K);repeat intro K U
  exact⟨hlt,_,rfl,hi2,hs⟩
 .rw[hke]at ho
  refine zz ?_;(repeat clear U K);repeat intro K U
  exact AH ⟨_,rfl,ho,hs⟩
def df (xs:List Int) (f:Bool) (hxl:xs.length<=1000):BL zP 316 [.l [] true,.f (.func 303) [] [.rp [.l (iL xs) f]]] [] fun r post=> ∃v,r= .ret v/\post= [.own v 1 (iL xs)]/\((Bd v).isSome=true\/(v= .l [] true/\xs= [])):=by
 intro Z hs;have hM:=Mx;refine tN kZ ?_
 conv=>whnf
 repeat'((first|clear U K|apply st|(apply zk;intro K U)|refine zo fun nn hnn Z hs=>?_|fail)<;>conv=>whnf)
 rename_i nb _ _ _;clear hnn
 revert hs
 generalize hE:([(2,V.p nb 0)]:Env)=E;generalize hk:Bi _ _ _ _=ok;intro hs;refine As.mono (mD xs f hxl (fn:= .yield nn) (fi:=[]) (ca:=[]) (H:=fun s:V×List Int=> .obj nn (.loop .ready E ok):: [.box nb [s.1],.own s.1 1 (iL s.2)]) (fun k s=>s.2=xs.take k/\(1<=k->(Bd s.1).isSome=true)/\(k=0->s.1= .l [] true)) (s:=(.l [] true,[])) ⟨rfl,fun h=>by omega,fun _=>rfl⟩ ?_ Z ((CM hs 1).perm (Jn _ _ _ _))) ?_
 .clear hs
  subst hE hk;rintro k ⟨v,ys⟩ y hy ⟨h1,h2,h3⟩ Z hs;dsimp only at h1 h2 h3 hs;have hkl:k<xs.length:=(JA.1 hy).1;have hyl:ys.length=k:=by rw[h1,Ib];omega
  have hll:ys.length<AZ/\(ys.length+1)*8<=140737488355328:=by omega
  refine xL (XC (l:=[.box nb [v],.own v 1 (iL ys)]) rfl hs ?_);clear hs;intro Z hs
  conv=>whnf
  repeat'((first|clear U K|apply st|(apply zk;intro K U)|refine zY ?_|refine zs fun Z hs=>?_|refine aq fun v Z hs hsl=>?_|fail)<;>conv=>whnf)
  intro hn;exact⟨(v,ys++[y]),rfl,⟨by rw[AO hy,h1],fun _=>hsl,fun h=>by omega⟩,hs.R8 hn⟩
 .clear hs
  rintro r Z ⟨⟨v,ys⟩,rfl,⟨h1,h2,h3⟩,hs⟩;dsimp only at h1 h2 h3 hs;refine Gn hs fun Z hs=>?_
  refine zz ?_;(repeat clear U K);repeat intro K U
  rw[List.take_length]at h1;subst h1;refine Aj hs (HU _ _) (.refl _) fun Z' hs'=>⟨_,⟨v,rfl,rfl,?_⟩,hs'⟩
  rcases Nat.eq_zero_or_pos ys.length with h|h
  .exact .inr ⟨h3 h,VA.1 h⟩
  .exact .inl (h2 h)
def dY (xs:List Int) (f:Bool) (hxl:xs.length<=1000):BL zP 302 [.f (.func 303) [] [.rp [.l (iL xs) f]]] [] fun r post=> ∃v,r= .ret v/\post= [.own v 1 (iL xs)]/\((Bd v).isSome=true\/(v= .l [] true/\xs= [])):=by
 intro Z hs;refine tW kZ ?_
 conv=>whnf
 repeat'((first|clear U K|apply st|(apply zk;intro K U)|fail)<;>conv=>whnf)
 refine(df xs f hxl).use (rest:=[]) (by simpa using hs) ?_;clear hs;rintro r post Z ⟨v,rfl,rfl,hv⟩ hs;refine zz ?_;(repeat clear U K);repeat intro K U
 exact Aj hs (List.sublist_append_left _ _) (.refl _) fun Z' hs'=>⟨_,⟨v,rfl,rfl,hv⟩,hs'⟩
def Sc (xs:List Int) (f:Bool) (hxl:xs.length<=1000):Pure zP 263 [.f (.func 303) [] [.rp [.l (iL xs) f]]] (.l (iL (xs.mergeSort Hq)) false):=by
 refine uA kZ ?_;have hs:=Sn
 conv=>whnf
 repeat'((first|clear U K|apply st|(apply zk;intro K U)|fail)<;>conv=>whnf)
 refine(dY xs f hxl).use (rest:=[]) (by simpa using hs) ?_;clear hs;rintro r post Z ⟨v,rfl,rfl,hv⟩ hs
 conv=>whnf
 repeat'((first|clear U K|apply st|(apply zk;intro K U)|fail)<;>conv=>whnf)
 refine(ei hv).use (rest:=[]) hs ?_;clear hs;rintro r post Z ⟨rfl,rfl⟩ hs;refine zz ?_;(repeat clear U K);repeat intro K U
 exact AY (hs.Ic 0 rfl)
def TD {S:Type} {stp:Int->S->Bool×S} {q:Int->Bool}: ∀(xs:List Int) (k:Nat) (s:S),(∀y∈xs,∀s,(stp y s).1=q y)->decide ((Bc stp xs k s).1≥0)=xs.any q
 | [],_,_,_=>rfl
 | y ::r,k,s,h=>by
   rw[Bc,h y (.head _),Oj];cases hq:q y
   .rw[if_neg (by decide),Bool.false_or]
    exact TD r (k+1) _ fun z hz=>h z (.tail _ hz)
   .rw[if_pos rfl,Bool.true_or]
    exact decide_eq_true (Int.natCast_nonneg k)
def cH (l:List Int) (q:Int->Bool):(List.range l.length).all (fun j=> !q (l.getD j 0))= !l.any q:=by
 rw[KF,DT,Bool.not_eq_true',<-Bool.not_eq_true,G1];constructor
 .rintro h ⟨x,hx,hq⟩
  obtain⟨i,hi⟩:=List.getElem?_of_mem hx;have:=h i (List.mem_range.2 (JA.1 hi).1);rw[B5 hi,hq]at this;cases this
 .intro h j hj
  cases hq:q (l.getD j 0)
  .rfl
  .exact absurd ⟨_,ED (List.mem_range.1 hj),hq⟩ h
def ai {p:Prog} {l:List Int} {M:List (Int×Int)}:(Bc (fun(m:Int) (M:List (Int×Int))=>(!(decide ((Bc (fun y M=>(Az p y m,bn p M y m)) l 0 M).1≥0)),xl p l m M)) l 0 M).1=match NP (Az p) l with|some i=>((i:Nat):Int)|none=> -1:=by
 rw[TC (q:=fun m=> !l.any fun y=>Az p y m) l 0 M fun m _ s=>by dsimp only;rw[TD (q:=fun y=>Az p y m) l 0 s fun y _ s=>rfl]];rw[NP,find_congr (g:=fun i=>LM (Az p) l i l.length) fun i _=>by rw[LM,cH l fun y=>Az p y (l.getD i 0)]];cases(List.range l.length).find? fun i=>LM (Az p) l i l.length with
 | none=>rfl
 | some i=>simp
def dd (p:Prog) (L:Nat) (l:List Int) (f:Bool) (hok:EN p) (hgw:CS (AG p)) (hfm: ∀x∈p.methods,Bv (AG p) x.fact=true) (hl:T4 p l) (hnd:l.Nodup) (M:List (Int×Int)) :
    BL zP 219 [Tb p L,.l (iL l) f] [.map L (LK p M)] fun r post=>r= .ret (.l (iL (DM (Az p) l.length (l.mergeSort Hq))) true)/\ ∃M',post= [.map L (LK p M')]:=by
 intro Z hs;have hM:=Mx;have h16:=hl.many;have hml:(l.mergeSort Hq).length=l.length:=List.length_mergeSort _;have c1:=SY l f;have c2:=Sc l f (by omega);refine gZ kZ ?_
 conv=>whnf
 repeat'((first|clear U K|apply st|(apply zk;intro K U)|refine zY ?_|refine zs fun Z hs=>?_|refine zC ?_|refine zo fun nn hnn Z hs=>?_|fail)<;>conv=>whnf)
 clear c1 c2 hnn
 refine DD (fun(x:List Int×Bool×V×List Int×List (Int×Int))=>x.1.length) (fun x=>[(5,x.2.2.1)]) (fun x=>[.box nn [.l (iL x.1) x.2.1],.own x.2.2.1 1 (iL x.2.2.2.1),.map L (LK p x.2.2.2.2)])
  (fun x=>(∀y∈x.1,BG p y=true)/\x.1.Nodup/\x.2.2.2.1.length+x.1.length<=16/\DM (Az p) l.length (l.mergeSort Hq)=x.2.2.2.1++DM (Az p) x.1.length x.1) (l.mergeSort Hq,false,.l [] true,[],M) rfl ⟨fun y hy=>hl.FH y (List.mem_mergeSort.1 hy),(List.mergeSort_perm l Hq).symm.nodup hnd,by simpa[hml]using h16,by simp[hml]⟩ ((CM hs 1).perm (.swap _ _ _)) ?_
 clear hs;rintro⟨l',f',v,out,M⟩ Z ⟨hme,hn,hlen,hm⟩ hs;dsimp only at hme hn hlen hm hs;dsimp only;have hll:out.length<AZ/\(out.length+1)*8<=140737488355328:=by omega
 by_cases hz:l'.length=0
 .rw[hz]at hm
  simp only[DM,EU]at hm
  conv=>whnf
  repeat'((first|clear U K|apply st|(apply zk;intro K U)|refine zY ?_|(refine zb (fun hc=>?_) (fun hc=>?_)<;>try exact⟨⟩)|fail)<;>conv=>whnf)
  refine(P3 out v (by omega)).use (rest:=[_,_]) (hs.perm (.swap _ _ _)) ?_;clear hs;rintro r post Z ⟨rfl,rfl⟩ hs;refine zz ?_;(repeat clear U K);repeat intro K U
  exact Aj hs (HU _ _) (.refl _) fun Z' hs'=>⟨_,⟨by rw[hm],M,rfl⟩,hs'⟩
 .obtain⟨n,hnn⟩: ∃n,l'.length=n+1:=⟨l'.length - 1,by omega⟩
  have hne:l'≠[]:=fun e=>hz (by rw[e];rfl)
  obtain⟨i,hi⟩:=Sw hok hne hme;have hil:i<l'.length:=by simpa using List.mem_of_find?_eq_some hi
  obtain⟨x,hx⟩: ∃x,l'[i]? =some x:=⟨_,CQ hil⟩
  rw[hnn,DM,hi,Option.getD_some,B5 hx]at hm;have c3:=Nl l' f' x (by omega);rw[GR hn hx]at c3;have hel:=List.length_eraseIdx_of_lt hil
  conv=>whnf
  repeat'((first|clear U K|apply st|(apply zk;intro K U)|refine zY ?_|(refine zb (fun hc=>?_) (fun hc=>?_)<;>try exact⟨⟩)|fail)<;>conv=>whnf)
  refine(I9 265 [] [.p nn 0,.rp [Tb p L]] (fun M=>[.box nn [.l (iL l') f'],.map L (LK p M)]) _ _ (Zl p L nn l' f' hok hgw hfm hme) l' f' M (Hf fun y hy _=>hme y hy)).use (rest:=[.own v 1 (iL out)]) (hs.perm (.cons _ (.swap _ _ _))) ?_;clear hs;rintro r post Z ⟨rfl,rfl⟩ hs;rw[ai,hi];generalize (Bc _ l' 0 M).2=M2 at hs;dsimp only
  conv=>whnf
  repeat'((first|clear U K|apply st|(apply zk;intro K U)|refine zY ?_|refine zs fun Z hs=>?_|refine aq fun v Z hs hsl=>?_|refine zC ?_|fail)<;>conv=>whnf)
  refine⟨(l'.eraseIdx i,true,v,out++[x],M2),by dsimp only;omega,rfl,⟨fun y hy=>hme y (List.mem_of_mem_eraseIdx hy),hn.sublist (List.eraseIdx_sublist _ _),by simp;omega,?_⟩,hs.perm (.cons _ (.swap _ _ _))⟩;dsimp only;rw[hm,hel,show l'.length - 1=n by omega];simp
def b9: ∀ {l:List Int},l.Nodup->(l.mergeSort Hq).Pairwise (· < ·):=fun {l} h=>by
 have h1:=List.pairwise_mergeSort (le:=Hq) (fun a b c h1 h2=>by simp only[Hq,CF]at *;omega) (fun a b=>by simp only[Hq,Ew,CF];omega) l;have h2:=List.nodup_iff_pairwise_ne.1 ((List.mergeSort_perm l Hq).symm.nodup h);exact(h1.and h2).imp fun⟨a,b⟩=>by simp only[Hq,CF]at a;omega
def aP {x:Int}: ∀ {out:List Int},out.Pairwise (· < ·)->x∉out->(HX x out).Pairwise (· < ·)
 | [],_,_=>by simp[HX]
 | y ::r,h,hx=>by
   rw[List.pairwise_cons]at h;rw[Ff,not_or]at hx;by_cases hy:y<x
   .have e:HX x (y::r)=y::HX x r:=by simp[HX,List.takeWhile_cons,List.dropWhile_cons,hy]
    rw[e,List.pairwise_cons];refine⟨fun z hz=>?_,aP h.2 hx.2⟩;rcases QT.1 hz with rfl|hz
    .exact hy
    .exact h.1 z hz
   .have e:HX x (y::r)=x::y::r:=by simp[HX,List.takeWhile_cons,List.dropWhile_cons,hy]
    rw[e,List.pairwise_cons,List.pairwise_cons];refine⟨fun z hz=>?_,h⟩;rcases Ff.1 hz with rfl|hz
    .have:=hx.1;omega
    .have:=h.1 z hz
     have:=hx.1;omega
def Wg: ∀(l out:List Int),out.Pairwise (· < ·)->l.Nodup->(∀x∈l,x∉out)->(l.foldl (fun out x=>HX x out) out).Pairwise (· < ·)
 | [],_,h,_,_=>h
 | x::r,out,h,hn,hx=>by
   rw[List.nodup_cons]at hn;refine Wg r _ (aP h (hx x (.head _))) hn.2 fun y hy hm=>?_
   rcases QT.1 hm with rfl|hm
   .exact hn.1 hy
   .exact hx y (.tail _ hy) hm
def Sd {l:List Int} (h:l.Nodup):l.mergeSort Hq=Cp l:=
 La (b9 h) (Wg l [] .nil h fun x _ hm=>by cases hm) fun x=>by rw[List.mem_mergeSort,Kc]
end Go.Gl
namespace Go.Gl
open Go.Proofs
end Go.Gl
namespace Go.Gl
open Go.Proofs
attribute [local irreducible] As Af AV AQ AI AU AP AR AJ AT AM AN Ag Ar Sat AS Ap AX W
def lL (p:Prog) (l:List Int) (kd:Bool) (x:Int):Bool:=BG p x&&((BK p x).gen==(BK p (l.getD 0 0)).gen&&(!kd||Dk p x (l.getD 0 0)))
def GI (p:Prog) (l:List Int) (kd:Bool):Bool:=l.all (lL p l kd)&&decide l.Nodup
def cf {p:Prog} {l:List Int} {kd:Bool} {i:Nat} {x:Int} (hx:l[i]? =some x) (h:lL p l kd x=false):GI p l kd=false:=by
 rw[GI,Bool.and_eq_false_iff];left;rw[<-Bool.not_eq_true,DT];intro h2;rw[h2 x (BY hx)]at h;cases h
def cd {p:Prog} {l:List Int} {kd:Bool} {i k:Nat} {x:Int} (hx:l[i]? =some x) (hk:l[k]? =some x) (h:k<i):GI p l kd=false:=by
 rw[GI,Bool.and_eq_false_iff];right;rw[decide_eq_false_iff_not];intro h2;have hi:=(JA.1 hx)
 have hj:=(JA.1 hk)
 have:=(List.nodup_iff_pairwise_ne.1 h2)
 rw[List.pairwise_iff_getElem]at this;exact this k i hj.1 hi.1 h (by rw[hj.2,hi.2])
def Yl {l:List Int} {i:Nat} {x:Int} (hx:l[i]? =some x) (h:(l.take i).Nodup) (hn: ∀k y,k<i->l[k]? =some y->y≠x):(l.take (i+1)).Nodup:=by
 rw[AO hx,List.nodup_append];refine⟨h,by simp,fun a ha b hb=>?_⟩;rw[JT.1 hb];obtain⟨k,hk⟩:=List.getElem?_of_mem ha;rw[List.getElem?_take]at hk;split at hk
 .exact hn k a (by assumption) hk
 .cases hk
def QK: ∀(n:Nat) (l:List Int),l.Nodup->(∀x∈l,0<=x/\x<(n:Int))->l.length<=n
 | 0,l,_,h=>by
   cases l with
   | nil=>simp
   | cons x r=>have:=h x (.head _);omega
 | n + 1,l,hn,h=>by
   have h1:=QK n (l.erase (n:Int)) (hn.erase _) fun x hx=>by
    have hm:=(List.Nodup.mem_erase_iff hn).1 hx;have:=h x hm.2;have:=hm.1;omega
   have h2:=List.length_erase (a:=(n:Int)) (l:=l);split at h2<;>omega
def m7 {p:Prog} (h:(BQ p).isSome=true) {x:L5} (hx:x∈p.methods):(1<=x.kind/\x.kind<=4)/\Bv (AG p) x.fact=true/\An (AG p) x.fact=true/\Gd x.fact<=p.Cc.getD x.gen.toNat 0:=by
 have:=(E3 h).2 x hx;simp only[PW,A7,CF]at this;have hf:=this.2.2.2.2.1;simp only[Bv,A7,CF]at hf;exact⟨⟨this.1,this.2.1⟩,this.2.2.2.2.1,hf.2.2,this.2.2.2.2.2⟩
structure Pl where
 ar:List Int
 ZN:Bool
 be:List Int
 pr:List Int
 prt:Bool
 af:List Int
abbrev plV (x:Pl) (g h:Bool):List V:=[.l (iL x.ar) g,.b x.ZN,.l (iL x.be) g,.l (iL x.pr) g,.b x.prt,.l (iL x.af) h]
def B7 (p:Prog) (l:List Int) (k:Int):List Int:=l.filter fun m=>(BK p m).kind==k
def xP:Pl:=⟨[],false,[],[],false,[]⟩
def pH (A:Int->Int->Bool) (p:Prog) (l:List Int):Pl:=
 ⟨(BW A (B7 p l 4).length (B7 p l 4)).1,(BW A (B7 p l 4).length (B7 p l 4)).2,DM A (B7 p l 2).length (Cp (B7 p l 2)),(BW A (B7 p l 1).length (B7 p l 1)).1,(BW A (B7 p l 1).length (B7 p l 1)).2,(DM A (B7 p l 3).length (Cp (B7 p l 3))).reverse⟩
def FF (A:Int->Int->Bool) (p:Prog) (l:List Int):Pl×Bool:=if(B7 p l 1).isEmpty then(xP,false)else(pH A p l,true)
def lz (p:Prog) (l:List Int) (f:Bool) (kd:Int) (hm: ∀x∈l,BG p x=true) (hl:l.length<=16) (h16:p.methods.length<=16):Pure zP 224 [.a (A3 p),.l (iL l) f,eI kd] (.l (iL (B7 p l kd)) false):=by
 have hM:=Mx;refine uh kZ ?_;have hs:=Sn;refine zz ?_;(repeat clear U K);repeat intro K U
 refine Ba l.length (fun k v=>[(7,v),(8,eI (Au k))]) (fun k v=>[.own v 1 (iL (B7 p (l.take k) kd))]) (fun _ _=>True) (.l [] true) rfl trivial (Ce hs 1) ?_;clear hs;rintro k v Z hk - hs
 have hfl:(B7 p (l.take k) kd).length<=16:=by
  have:=NI (fun m=>(BK p m).kind==kd) (l.take k);rw[Ib]at this;simp only[B7];omega
 rcases Aw l hk with⟨x,hx,hlt⟩|hke
 .have hst:B7 p (l.take (k+1)) kd=if(BK p x).kind==kd then B7 p (l.take k) kd++[x]else B7 p (l.take k) kd:=by
   rw[AO hx,B7,List.filter_append];cases hp:(BK p x).kind==kd<;>simp[B7,hp]
  have hmx:=hm x (BY hx);have hxm:=Br hmx;simp only[BG,A7,CF]at hmx;generalize B7 p (l.take k) kd=zl at *;have hll:zl.length<AZ/\(zl.length+1)*8<=140737488355328:=by omega
  by_cases hkd:(BK p x).kind=kd
  .rw[if_pos (Cd.2 hkd)]at hst
   conv=>whnf
   repeat'((first|clear U K|apply st|(apply zk;intro K U)|refine zY ?_|refine aq fun v Z hs hsl=>?_|(refine zb (fun hc=>?_) (fun hc=>?_)<;>try exact⟨⟩)|fail)<;>conv=>whnf)
   exact⟨hlt,_,rfl,trivial,by rw[hst];exact hs⟩
  .rw[if_neg (by simpa using hkd)]at hst
   conv=>whnf
   repeat'((first|clear U K|apply st|(apply zk;intro K U)|refine zY ?_|(refine zb (fun hc=>?_) (fun hc=>?_)<;>try exact⟨⟩)|fail)<;>conv=>whnf)
   exact⟨hlt,_,rfl,trivial,by rw[hst];exact hs⟩
 .rw[Ak hke]at hs
  refine zz ?_;(repeat clear U K);repeat intro K U
  exact AY (hs.Ic 0 rfl)
def bS (p:Prog) (gen:Int) (k:Nat):List Int:=(BE k).filter fun m=>(BK p m).gen==gen
def Bo (p:Prog) (gen:Int):List Int:=bS p gen p.methods.length
def Wb (p:Prog) (gen:Int) (k:Nat):bS p gen (k+1)=if(BK p (k:Int)).gen==gen then bS p gen k++[(k:Int)]else bS p gen k:=by
 rw[bS,J8,List.filter_append];cases hp:(BK p (k:Int)).gen==gen<;>simp[bS,hp]
def PL (p:Prog) (gen:Int) (k:Nat):(bS p gen k).length<=k:=by
 have:=NI (fun m=>(BK p m).gen==gen) (BE k)
 rwa [Cj]at this
def MQ (p:Prog) (gen:Int) (m:Int):(Bo p gen).contains m=(BG p m&&(BK p m).gen==gen):=by
 rw[KF,List.contains_iff_mem,Bo,bS,Ia,C4,A7,BG];simp only[A7,CF]
def aE {p:Prog} {k:Nat} {x:L5} (hx:p.methods[k]? =some x):BK p (k:Int)=x:=by
 have hlt:=(JA.1 hx).1;have:=Br (p:=p) (m:=k) (by simp[BG];omega);rw[FZ,hx]at this;exact(Option.some.inj this).symm
def Rt (p:Prog) (gen:Int) (l:List Int) (i:Nat):Bool:=BG p (l.getD i 0)&&((BK p (l.getD i 0)).gen==gen&& !(decide (0<i)&&decide (l.getD (i - 1) 0≥l.getD i 0)))
def G5 (p:Prog) (gen:Int) (l:List Int):Bool:=(List.range l.length).all (Rt p gen l)
def jJ {p:Prog} {gen:Int} {l:List Int} {i:Nat} (hi:i<l.length) (h:Rt p gen l i=false):G5 p gen l=false:=by
 rw[<-Bool.not_eq_true,G5,DT];intro h2;rw[h2 i (List.mem_range.2 hi)]at h;cases h
def Zm {p:Prog} {gen:Int} {l:List Int} (h: ∀i,i<l.length->Rt p gen l i=true):G5 p gen l=true:=by
 rw[G5,DT];exact fun i hi=>h i (List.mem_range.1 hi)
def Zn {p:Prog} {gen:Int} {l:List Int} (h:G5 p gen l=true): ∀i (hi:i+1<l.length),l[i]<l[i+1]:=fun i hi=>by
 rw[G5,DT]at h;have:=h (i+1) (List.mem_range.2 hi);simp only[Rt,A7,Bool.not_eq_true',Bool.and_eq_false_iff,decide_eq_false_iff_not,Nat.add_sub_cancel,Co,CQ hi,CQ (show i<l.length by omega),Option.getD_some]at this;omega
def V5 {p:Prog} {gen:Int} {l:List Int} (h:G5 p gen l=true): ∀x∈l,BG p x=true/\(BK p x).gen=gen:=fun x hx=>by
 rw[G5,DT]at h;obtain⟨i,hi,rfl⟩:=List.mem_iff_getElem.1 hx;have:=h i (List.mem_range.2 hi);simp only[Rt,A7,Co,CQ hi,Option.getD_some,Cd]at this;exact⟨this.1,this.2.1⟩
def Nr {p:Prog} {gen:Int} {l:List Int} (h:G5 p gen l=true):GI p l false=true:=by
 have hm:=V5 h;rw[GI,A7,DT,CF];refine⟨fun x hx=>?_,?_⟩
 .have h0:l.getD 0 0∈l:=by
   cases l with
   | nil=>cases hx
   | cons y r=>exact List.mem_cons_self ..
  rw[lL,(hm x hx).1,(hm x hx).2,(hm _ h0).2];simp
 .have hq: ∀(i d:Nat) (hd:i+d+1<l.length),l[i]<l[i+d+1]:=fun i d=>by
   induction d with
   | zero=>exact fun hd=>Zn h i hd
   | succ d ih=>exact fun hd=>Int.lt_trans (ih (by omega)) (Zn h (i+d+1) hd)
  have hp:List.Pairwise (· < ·) l:=List.pairwise_iff_getElem.2 fun i j hi hj hij=>by
   obtain⟨d,rfl⟩: ∃d,j=i+d+1:=⟨j - i - 1,by omega⟩
   exact hq i d hj
  exact hp.imp fun h e=>by omega
def jI {p:Prog} {gen:Int} {l:List Int} (h:G5 p gen l=true):l.length<=p.methods.length:=by
 have h1:=Nr h;rw[GI,A7,CF]at h1;refine QK p.methods.length l h1.2 fun x hx=>?_
 have:=(V5 h x hx).1;simp only[BG,A7,CF]at this;omega
def B9 (p:Prog) (gen:Int):Bool:=(BQ p).isSome&&R2 p gen
def xd (x:Pl×Bool):Int:=if x.2 then(if x.1.ar.isEmpty&&(x.1.ZN||x.1.pr.isEmpty)then 3 else if x.1.ZN||x.1.prt then 2 else 1)else 4
def NG (p:Prog) (l:List Int):Int:=xd (FF (Az p) p l)
def Tt (p:Prog) (gen:Int) (l:List Int):Int×Int:=if B9 p gen then(if G5 p gen l then(if(Bo p gen).length<=8 then(NG p l,0)else(0,3))else(0,2))else(0,2)
def Wz (p:Prog) (gen:Int) (h16:p.methods.length<=16):Pure zP 110 [.a (A3 p),eI gen] (.l (iL (Bo p gen)) false):=by
 refine Pure.fit (by kernel_rfl) fun hf=>?_
 have hP:=H6 hf.1;have hM:=Mx;refine wX kZ ?_;have hs:=Sn;refine zz ?_;(repeat clear U K);repeat intro K U
 refine Ba p.methods.length (fun k v=>[(5,v),(11,eI (Au k))]) (fun k v=>[.own v 1 (iL (bS p gen k))]) (fun _ _=>True) (.l [] true) rfl trivial (Ce hs 1) ?_;clear hs;rintro k v Z hk - hs;have hal:=PL p gen k;rcases Aw p.methods hk with⟨x,hx,hlt⟩|hke
 .have hck:Au k=k:=AW (by omega)
  have hxe:=aE hx;have hst:=Wb p gen k;rw[hxe]at hst;generalize bS p gen k=zl at *;have hll:zl.length<AZ/\(zl.length+1)*8<=140737488355328:=by omega
  by_cases hg:x.gen=gen
  .rw[if_pos (Cd.2 hg)]at hst
   conv=>whnf
   repeat'((first|clear U K|apply st|(apply zk;intro K U)|refine zY ?_|refine zs fun Z hs=>?_|refine aq fun v Z hs hsl=>?_|(refine zb (fun hc=>?_) (fun hc=>?_)<;>try exact⟨⟩)|refine zo fun nn hnn Z hs=>?_|fail)<;>conv=>whnf)
   exact⟨hlt,_,rfl,trivial,by rw[hst,<-hck];exact hs.less (HU _ _)⟩
  .rw[if_neg (by simpa using hg)]at hst
   conv=>whnf
   repeat'((first|clear U K|apply st|(apply zk;intro K U)|refine zY ?_|refine zs fun Z hs=>?_|(refine zb (fun hc=>?_) (fun hc=>?_)<;>try exact⟨⟩)|refine zo fun nn hnn Z hs=>?_|fail)<;>conv=>whnf)
   exact⟨hlt,_,rfl,trivial,by rw[hst];exact hs.less (HU _ _)⟩
 .rw[hke]at hs
  refine zz ?_;(repeat clear U K);repeat intro K U
  exact AY (hs.Ic 0 rfl)
def iW (p:Prog) (gen:Int):Pure zP 24 [.a (A3 p),eI gen] (eI (if B9 p gen then 0 else 2)):=by
 have c1:=rY p;have c2:=yi p gen;rw[B9];cases h1:(BQ p).isSome<;>rw[h1]at c1<;>cases h2:R2 p gen<;>rw[h2]at c2
 all_goals
  refine zq kZ ?_;have hs:=Sn;exact zW
def pU (p:Prog) (gen:Int) (h16:p.methods.length<=16):Pure zP 54 [.a (A3 p),eI gen] (eI (if(Bo p gen).length<=8 then 0 else 3)):=by
 have c1:=Wz p gen h16;have hl:=PL p gen p.methods.length;rw[<-Bo]at hl;generalize Bo p gen=ms at *;have e1:((iL ms).length:Int)=ms.length:=by simp
 refine zL kZ ?_;have hs:=Sn
 conv=>whnf
 repeat'((first|clear U K|apply st|(apply zk;intro K U)|refine zY ?_|refine zC ?_|(refine zd (fun hc=>?_) (fun hc=>?_)<;>try exact⟨⟩)|fail)<;>conv=>whnf)
 .exact AF (by rw[if_neg (by omega)])
 .exact AF (by rw[if_pos (by omega)])
end Go.Gl
namespace Go.Gl
open Go.Proofs
def Nf (p:Prog) (gen:Int):List Fact:=(Bo p gen).map fun m=>(BK p m).fact
def Dm (p:Prog) (gen:Int) (tog:List Fact->Bool):List (List Int×Int):=(E9 (Tn tog (Nf p gen)) (Bo p gen).length []).map fun bs=>(Cr (Bo p gen) bs,NG p (Cr (Bo p gen) bs))
end Go.Gl
namespace Go.Gl
open Go.Proofs
attribute [local irreducible] As Af AV AQ AI AU AP AR AJ AT AM AN Ag Ar Sat AS Ap AX W
def m9 (l:List Int) (f kd:Bool):Pure zP 170 [.pn,.l (iL l) f,.b kd] (.b false):=by
 have c1:=sc l f;refine YK kZ ?_;have hs:=Sn;exact zW
def jM {M:List Int} {x:Int} (h:M.contains x=false):Hw M x=M++[x]:=by
 rw[Hw,if_neg (by rw[h];decide)]
def sQ (p : Prog) (L:Nat) (l:List Int) (f kd:Bool) (hl:l.length<=1000):Pure zP 170 [Tb p L,.l (iL l) f,.b kd] (.b (GI p l kd)):=by
 refine Pure.fit (by kernel_rfl) fun hf=>?_
 have hM:=Mx;have c1:=yc p L l f;cases hm:l.all (BG p)<;>rw[hm]at c1
 .have hb:GI p l kd=false:=by
   rw[<-Bool.not_eq_true];intro h;rw[GI,A7,DT]at h;rw[<-Bool.not_eq_true,DT]at hm;refine hm fun x hx=>?_
   have:=h.1 x hx;simp only[lL,A7]at this;exact this.1
  refine YK kZ ?_;have hs:=Sn
  conv=>whnf
  repeat'((first|clear U K|apply st|(apply zk;intro K U)|refine zY ?_|refine zC ?_|fail)<;>conv=>whnf)
  all_goals exact AF (by rw[hb])
 rw[DT]at hm;refine YK kZ ?_;have hs:=Sn
 conv=>whnf
 repeat'((first|clear U K|apply st|(apply zk;intro K U)|refine zY ?_|refine zC ?_|refine zo fun nn hnn Z hs=>?_|fail)<;>conv=>whnf)
 clear c1;replace hs:Sat Z [.map nn (Te [])]:=hs;refine Ba l.length (fun i (_:Unit)=>[(17,eI (Au i))]) (fun i _=>[.map nn (Te (l.take i))]) (fun i _=>(∀k y,k<i->l[k]? =some y->lL p l kd y=true)/\(l.take i).Nodup) () rfl ⟨fun k y h=>by omega,by simp⟩ hs ?_;clear hs;rintro i - Z hi ⟨ho,hn⟩ hs;rcases Aw l hi with⟨x,hx,hlt⟩|hie
 .have hci : Au i=i:=AW (by omega)
  obtain⟨z,hz⟩: ∃z,l[0]? =some z:=⟨_,CQ (by omega)⟩
  have hz0:=B5 hz;have hmx:=hm x (BY hx);have hmz:=hm z (BY hz);have hbad:=fun h=>cf (p:=p) (kd:=kd) hx h
  rw[lL,hz0]at hbad;have hxP:=Br hmx;have hzP:=Br hmz;have c2:=om p L x z hmx hmz;have hxr:=hmx;have hzr:=hmz;simp only[BG,A7,CF]at hxr hzr;cases hcon:(l.take i).contains x
  .have hne : ∀k y,k<i->l[k]? =some y->y≠x:=fun k y h h2 e=>by
    rw[<-Bool.not_eq_true,List.contains_iff_mem]at hcon;exact hcon (BY (i:=k) (by rw[List.getElem?_take,if_pos h,h2,e]))
   have hnd:=Yl hx hn hne;have hput:=jM hcon;rw[<-AO hx]at hput;by_cases hg:(BK p x).gen=(BK p z).gen
   .have hoxF:(!kd||Dk p x z)=true->lL p l kd x=true:=fun h=>by rw[lL,hz0,hmx,hg,h];simp
    cases hal:Dk p x z<;>rw[hal]at c2 hoxF<;>cases kd
    all_goals
     conv=>whnf
     repeat'((first|clear U K|apply st|(apply zk;intro K U)|refine zY ?_|refine c2.use ?_|(refine HN hs 0 rfl rfl (IH _) ?_;rw[Mk,hcon])|(refine HM hs 0 rfl rfl (IH _) fun Z hs=>?_)|(refine zb (fun hc=>?_) (fun hc=>?_)<;>try exact⟨⟩)|fail)<;>conv=>whnf)
    all_goals first
     | exact AF (by rw[hbad (by simp[hal,hg])])
     | (exfalso;simp[hg]at hc;done)
     | (have hox:=hoxF rfl
        refine⟨hlt,(),rfl,⟨fun k' y' h h2=>?_,hnd⟩,?_⟩
        .rcases Nat.lt_or_ge k' i with h'|h'
         .exact ho k' y' h' h2
         .rw[show k'=i by omega,hx]at h2
          rw[<-Option.some.inj h2];exact hox
        .replace hs:Sat Z [.map nn (Dy (eI x) (.b true) (Te (l.take i)))]:=hs
         rw[aJ,hput]at hs
         exact hs)
   .conv=>whnf
    repeat'((first|clear U K|apply st|(apply zk;intro K U)|refine zY ?_|(refine HN hs 0 rfl rfl (IH _) ?_;rw[Mk,hcon])|(refine zb (fun hc=>?_) (fun hc=>?_)<;>try exact⟨⟩)|fail)<;>conv=>whnf)
    all_goals first
     | exact AF (by rw[hbad (by simp[hg])])
     | (exfalso;have q:(BK p x).gen=(BK p z).gen:=(by assumption);exact hg q)
     | (exfalso;simp[hg]at hc;done)
  .obtain⟨k,hk⟩:=List.getElem?_of_mem (List.contains_iff_mem.1 hcon)
   rw[List.getElem?_take]at hk;split at hk
   .conv=>whnf
    repeat'((first|clear U K|apply st|(apply zk;intro K U)|refine zY ?_|(refine HN hs 0 rfl rfl (IH _) ?_;rw[Mk,hcon])|fail)<;>conv=>whnf)
    all_goals exact AF (by rw[cd hx hk (by assumption)])
   .cases hk
 .refine zz ?_;(repeat clear U K);repeat intro K U
  have hall:GI p l kd=true:=by
   rw[GI,A7,DT];refine⟨fun y hy=>?_,decide_eq_true (by rw[hie,List.take_length]at hn;exact hn)⟩;obtain⟨k,hk⟩:=List.getElem?_of_mem hy;exact ho k y (by rw[hie];exact(JA.1 hk).1) hk
  exact AF (by rw[hall])
end Go.Gl
