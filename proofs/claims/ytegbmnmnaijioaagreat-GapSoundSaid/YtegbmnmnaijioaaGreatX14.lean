import Derived.Test.YtegbmnmnaijioaaGreatX6
import Derived.Test.YtegbmnmnaijioaaGreatX9
import Derived.Test.YtegbmnmnaijioaaGreatX10
import Derived.Test.YtegbmnmnaijioaaGreatX12
import Derived.Test.YtegbmnmnaijioaaGreatX13
set_option linter.all false
set_option linter.defProp false
set_option maxHeartbeats 8000000
noncomputable section
namespace Go.Gl
open Go.Proofs
attribute [local irreducible] Ar Aj AZ AQ AL AX AP AR AJ AW AM AN Am Av Sat AT As Aa W
def dQ (M:List (Int×Int)) (x:Int×Int):List (Int×Int):=if M.contains x then M else M++[x]
def dR (p:Prog) (M:List (Int×Int)) (m n:Int):List (Int×Int):=if Kk p m n then dQ (dQ M (m,n)) (n,m)else dQ M (m,n)
def Rm (p:Prog) (L:Nat) (m n:Int) (hk:E3 p) (hgw:B3 (AK p)) (hfm: ∀x∈p.methods,Ct (AK p) x.fact=true) (hm:Bb p m=true) (hn:Bb p n=true) (M:List (Int×Int)) :
    BS zP 310 [Ls p L,eI m,eI n] [.map L (K8 p M)] fun r post=>r= .ret (.b (Kk p m n))/\post= [.map L (K8 p (dQ M (m,n)))]:=by
 intro Z hs;have hxm:=CX hm;have hxn:=CX hn;have hmm:=CY hxm;have hmn:=CY hxn;have hip:=gA (AK p) hgw (BO p m).fact (BO p n).fact (hfm _ hmm) (hfm _ hmn) (hk.facts _ hmm).1 (hk.facts _ hmn).1 (by have:=(hk.facts _ hmm).2;have:=(hk.facts _ hmn).2;omega);simp only[Bb,A0,CC]at hm hn;have hfd:=XA p (m,n) M;refine wH kZ ?_;cases hc:M.contains (m,n)
 .rw[hc,if_neg (by decide)]at hfd
  conv=>whnf
  repeat'((first|clear U K|apply st|(apply zk;intro K U)|refine zY ?_|refine zs fun Z hs=>?_|refine Nk hs 1 rfl rfl (Qn _ _) hfd ?_|refine Io hs 1 rfl rfl (Qn _ _) fun Z hs=>?_|refine hip.use ?_|refine zo fun nn hnn Z hs=>?_|fail)<;>conv=>whnf)
  replace hs:Sat Z [.box nn [eI m,eI n],.map L (Da (kM (m,n)) (.b (Kk p m n)) (K8 p M))]:=hs;rw[bT p (m,n) M hc]at hs;exact AI ⟨_,⟨rfl,rfl⟩,by rw[dQ,hc];exact hs.less (K7 _ _)⟩
 .rw[hc,if_pos rfl]at hfd
  conv=>whnf
  repeat'((first|clear U K|apply st|(apply zk;intro K U)|refine zY ?_|refine zs fun Z hs=>?_|refine Nk hs 1 rfl rfl (Qn _ _) hfd ?_|refine zo fun nn hnn Z hs=>?_|fail)<;>conv=>whnf)
  exact AI ⟨_,⟨rfl,rfl⟩,by rw[dQ,hc];exact hs.less (K7 _ _)⟩
def Xg (p:Prog) (L:Nat) (m n:Int) (hk:E3 p) (hgw:B3 (AK p)) (hfm: ∀x∈p.methods,Ct (AK p) x.fact=true) (hm:Bb p m=true) (hn:Bb p n=true) (M:List (Int×Int)) :
    BS zP 258 [Ls p L,eI m,eI n] [.map L (K8 p M)] fun r post=>r= .ret (.b (Au p m n))/\post= [.map L (K8 p (dR p M m n))]:=by
 intro Z hs;have h1:=fun M=>Rm p L m n hk hgw hfm hm hn M
 have h2:=fun M=>Rm p L n m hk hgw hfm hn hm M
 unfold Au dR;cases hb1:Kk p m n<;>cases hb2:Kk p n m<;>rw[hb1]at h1<;>rw[hb2]at h2
 all_goals
  refine xC kZ ?_
  conv=>whnf
  repeat'((first|clear U K|apply st|(apply zk;intro K U)|fail)<;>conv=>whnf)
  refine(h1 M).use (rest:=[]) (by simpa using hs) ?_;clear hs;rintro r post Z ⟨rfl,rfl⟩ hs;refine zz ?_;(repeat clear U K);repeat intro K U
 .exact AI ⟨_,⟨rfl,rfl⟩,hs⟩
 .exact AI ⟨_,⟨rfl,rfl⟩,hs⟩
 all_goals
  refine(h2 _).use (rest:=[]) (by simpa using hs) ?_;clear hs;rintro r post Z ⟨rfl,rfl⟩ hs;refine zz ?_;(repeat clear U K);repeat intro K U
  exact AI ⟨_,⟨rfl,rfl⟩,hs⟩
def GN: ∀ {l:List Int} {i:Nat} {x:Int},l.Nodup->l[i]? =some x->l.filter (· != x)=l.eraseIdx i
 | y::r,0,x,hn,hx=>by
   obtain rfl:y=x:=by simpa using hx
   rw[List.nodup_cons]at hn;rw[List.filter_cons,if_neg (by simp),List.eraseIdx_cons_zero];exact List.filter_eq_self.2 fun z hz=>by rw[zrJ];rintro rfl;exact hn.1 hz
 | y::r,i+1,x,hn,hx=>by
   rw[List.nodup_cons]at hn;rw[zF]at hx;have hyx:y≠x:=fun e=>hn.1 (e ▸ CY hx)
   rw[List.filter_cons,if_pos (by simpa using hyx),List.eraseIdx_cons_succ,GN hn.2 hx]
def fI {A:Int->Int->Bool} {l:List Int} {i:Nat} (hi:i<l.length) (h:O8 A l i l.length=true) (hn: ∀j,j<i->O8 A l j l.length=false):LJ A l=some i:=by
 rw[LJ,List.find?_range_eq_some];exact⟨h,List.mem_range.2 hi,fun j hj=>by rw[hn j hj];rfl⟩
def fG {A:Int->Int->Bool} {l:List Int} (hn: ∀j,j<l.length->O8 A l j l.length=false):LJ A l=none:=by
 rw[LJ,List.find?_range_eq_none];exact fun j hj=>by rw[hn j hj];rfl
def oY {A:Int->Int->Bool} {l:List Int} {i k n:Nat} (hk:k<n) (h:(k==i||A (l.getD i 0) (l.getD k 0))=false):O8 A l i n=false:=by
 rw[O8,<-Bool.not_eq_true,DJ];intro h2;rw[h2 k (List.mem_range.2 hk)]at h;cases h
def l5 {l:List Int} (hn:l.Nodup) {i k:Nat} {x y:Int} (hx:l[i]? =some x) (hy:l[k]? =some y) (h:k≠i):x≠y:=by
 rintro rfl;have hi:=(JT.1 hx)
 have hj:=(JT.1 hy)
 have:=(List.nodup_iff_pairwise_ne.1 hn)
 rw[List.pairwise_iff_getElem]at this;rcases Nat.lt_or_gt_of_ne h with h'|h'
 .exact this k i hj.1 hi.1 h' (by rw[hj.2,hi.2])
 .exact this i k hi.1 hj.1 h' (by rw[hj.2,hi.2])
def cG (p : Prog) (L:Nat) (l:List Int) (f:Bool) (hok:E3 p) (hgw:B3 (AK p)) (hfm: ∀x∈p.methods,Ct (AK p) x.fact=true) (hl:US p l) (hnd:l.Nodup) (M:List (Int×Int)) :
    BS zP 183 [Ls p L,.l (iL l) f] [.map L (K8 p M)] fun r post=>r= .ret (.t [.l (iL (Cw (Au p) l.length l).1) true,.b (Cw (Au p) l.length l).2])/\ ∃M',post= [.map L (K8 p M')]:=by
 intro Z hs;have hM:=Mx;refine x7 kZ ?_;refine zz ?_;(repeat clear U K);repeat intro K U
 refine Gb (fun(x:List Int×Bool×V×List Int×List (Int×Int))=>x.1.length) (fun x=>[(1,.l (iL x.1) x.2.1),(6,x.2.2.1)]) (fun x=>[.own x.2.2.1 1 (iL x.2.2.2.1),.map L (K8 p x.2.2.2.2)])
  (fun x=>(∀y∈x.1,Bb p y=true)/\x.1.Nodup/\x.2.2.2.1.length+x.1.length<=16/\Cw (Au p) l.length l=(x.2.2.2.1++(Cw (Au p) x.1.length x.1).1,(Cw (Au p) x.1.length x.1).2)) (l,f,.l [] true,[],M) rfl ⟨hl.L3,hnd,by simpa using hl.many,by simp⟩ (Db hs 1) ?_
 clear hs;rintro⟨l',f',v,out,M⟩ Z ⟨hme,hn,hlen,hm⟩ hs;dsimp only at hme hn hlen hm hs;dsimp only;have hll:out.length<Ae/\(out.length+1)*8<=140737488355328:=by omega
 by_cases hz:l'.length=0
 .rw[hz]at hm
  simp only[Cw,FE]at hm
  conv=>whnf
  repeat'((first|clear U K|apply st|(apply zk;intro K U)|refine zY ?_|(refine zb (fun hc=>?_) (fun hc=>?_)<;>try exact⟨⟩)|fail)<;>conv=>whnf)
  refine(QX out v (by omega)).use (rest:=[_]) hs ?_;clear hs;rintro r post Z ⟨rfl,rfl⟩ hs;refine zz ?_;(repeat clear U K);repeat intro K U
  exact AI ⟨_,⟨by rw[hm],M,rfl⟩,hs⟩
 .obtain ⟨n,hnn⟩: ∃n,l'.length=n+1:=⟨l'.length - 1,by omega⟩
  have hne:l'.isEmpty=false:=by cases l' with
   | nil=>simp at hz
   | cons=>rfl
  rw[hnn,Cw]at hm
  conv=>whnf
  repeat'((first|clear U K|apply st|(apply zk;intro K U)|refine zY ?_|(refine zb (fun hc=>?_) (fun hc=>?_)<;>try exact⟨⟩)|fail)<;>conv=>whnf)
  refine CZ l'.length (fun i (_:List (Int×Int))=>[(16,eI (BL i))]) (fun _ M=>[.own v 1 (iL out),.map L (K8 p M)]) (fun i _=> ∀j,j<i->O8 (Au p) l' j l'.length=false) M rfl (fun j h=>by omega) hs ?_;clear hs;rintro i M Z hi hno hs;rcases BF l' hi with⟨x,hx,hlt⟩|hie
  .have hmx:=hme x (CY hx)
   refine zz ?_;(repeat clear U K);repeat intro K U
   refine CZ l'.length (fun k (_:List (Int×Int))=>[(22,eI (BL k))]) (fun _ M=>[.own v 1 (iL out),.map L (K8 p M)]) (fun k _=>O8 (Au p) l' i k=true) M rfl rfl hs ?_;clear hs;rintro k M Z hk htop hs;rcases BF l' hk with⟨y,hy,hklt⟩|hke
   .have hmy:=hme y (CY hy)
    have hsu:=dV (Au p) l' i k;rw[EZ hx,EZ hy,htop,Cm]at hsu;by_cases hki:k=i
    .obtain rfl:x=y:=by
      rw[hki,hx]at hy;exact Option.some.inj hy
     conv=>whnf
     repeat'((first|clear U K|apply st|(apply zk;intro K U)|refine zY ?_|(refine zb (fun hc=>?_) (fun hc=>?_)<;>try exact⟨⟩)|fail)<;>conv=>whnf)
     exact⟨hklt,M,rfl,by rw[hsu,hki];simp,hs⟩
    .have hxy:=l5 hn hx hy hki
     have c5:=Xg p L x y hok hgw hfm hmx hmy M;cases hah:Au p x y<;>rw[hah]at c5
     all_goals
      conv=>whnf
      repeat'((first|clear U K|apply st|(apply zk;intro K U)|refine zY ?_|(refine zb (fun hc=>?_) (fun hc=>?_)<;>try exact⟨⟩)|fail)<;>conv=>whnf)
      refine c5.use (rest:=[_]) (hs.perm (.swap _ _ _)) ?_;clear hs;rintro r post Z ⟨rfl,rfl⟩ hs;refine zz ?_;(repeat clear U K);repeat intro K U
     .refine⟨hlt,_,rfl,fun j hj=>?_,hs.perm (.swap _ _ _)⟩
      rcases Nat.lt_or_ge j i with h'|h'
      .exact hno j h'
      .rw[show j=i by omega]
       exact oY hklt (by rw[EZ hx,EZ hy,hah];simpa using hki)
     .exact⟨hklt,_,rfl,by rw[hsu,hah];simp,hs.perm (.swap _ _ _)⟩
   .have c1:=Nx l' f' x (by omega)
    rw[GN hn hx]at c1;have hel:=List.length_eraseIdx_of_lt hlt;rw[fI hlt (hke ▸ htop) hno]at hm;dsimp only at hm;rw[EZ hx]at hm
    conv=>whnf
    repeat'((first|clear U K|apply st|(apply zk;intro K U)|refine zY ?_|refine aq fun v Z hs hsl=>?_|refine zC ?_|fail)<;>conv=>whnf)
    refine⟨(l'.eraseIdx i,true,v,out++[x],M),by dsimp only;omega,rfl,⟨fun y hy=>hme y (List.mem_of_mem_eraseIdx hy),hn.sublist (List.eraseIdx_sublist _ _),by simp;omega,?_⟩,hs⟩;dsimp only;rw[hm,hel,show l'.length - 1=n by omega];simp
  .rw[fG fun j hj=>hno j (by omega)]at hm
   dsimp only at hm;rw[hne,FE]at hm;refine zz ?_;(repeat clear U K);repeat intro K U
   refine(QX out v (by omega)).use (rest:=[_]) hs ?_;clear hs;rintro r post Z ⟨rfl,rfl⟩ hs;refine zz ?_;(repeat clear U K);repeat intro K U
   exact AI ⟨_,⟨by rw[hm];rfl,M,rfl⟩,hs⟩
def od (p:Prog) (L:Nat) (m:Int) (hok:E3 p) (hgw:B3 (AK p)) (hfm: ∀x∈p.methods,Ct (AK p) x.fact=true) (hm:Bb p m=true) :
    DL zP (.f (.func 263) [] [.rp [Ls p L],.rp [eI m]]) eI (fun M=>[.map L (K8 p M)]) (fun y M=>(Au p y m,dR p M y m)) (fun y _=>Bb p y=true):=by
 intro y M hy Z hs;refine BA ?_;show Ar zP 263 ([]++[eI y]++[.rp [Ls p L],.rp [eI m]]) Z _;refine w7 kZ ?_;refine zz ?_;(repeat clear U K);repeat intro K U
 refine(Xg p L y m hok hgw hfm hy hm M).use (rest:=[]) (by simpa using hs) ?_;clear hs;rintro r post Z ⟨rfl,rfl⟩ hs;refine zz ?_;(repeat clear U K);repeat intro K U
 exact Aw hs (List.sublist_append_left _ _) (.refl _) fun Z' hs'=>⟨rfl,hs'⟩
def Te {S:Type} {stp:Int->S->Bool×S} {q:Int->Bool}: ∀(xs:List Int) (k:Nat) (s:S),(∀y∈xs,∀s,(stp y s).1=q y)->(Bj stp xs k s).1=match(List.range xs.length).find? fun i=>q (xs.getD i 0)with|some i=>((k+i:Nat):Int)|none=> -1
 | [],_,_,_=>rfl
 | y ::r,k,s,h=>by
   rw[Bj,h y (.head _)];have ih:=Te r (k+1) (stp y s).2 fun z hz=>h z (.tail _ hz)
   rw[Lr,List.range_succ_eq_map,List.find?_cons,List.getD_cons_zero];cases hq:q y
   .rw[if_neg (by decide),ih]
    simp only[List.find?_map,Function.comp_def,Nat.succ_eq_add_one,List.getD_cons_succ];cases(List.range r.length).find? fun i=>q (r.getD i 0)with
    | none=>rfl
    | some i=>simp only[gG];congr 1;omega
   .rw[if_pos rfl];simp
def zm (p:Prog) (l:List Int) (m:Int) (M:List (Int×Int)):List (Int×Int):=(Bj (fun y M=>(Au p y m,dR p M y m)) l 0 M).2
def ai (p:Prog) (L nb:Nat) (l:List Int) (f:Bool) (hok:E3 p) (hgw:B3 (AK p)) (hfm: ∀x∈p.methods,Ct (AK p) x.fact=true) (hl: ∀x∈l,Bb p x=true) :
    DL zP (.f (.func 262) [] [.p nb 0,.rp [Ls p L]]) eI (fun M=>[.box nb [.l (iL l) f],.map L (K8 p M)]) (fun m M=>(!(decide ((Bj (fun y M=>(Au p y m,dR p M y m)) l 0 M).1≥0)),zm p l m M)) (fun m _=>Bb p m=true):=by
 intro m M hm Z hs;refine BA ?_;show Ar zP 262 ([]++[eI m]++[.p nb 0,.rp [Ls p L]]) Z _;refine w8 kZ ?_;refine zz ?_;(repeat clear U K);repeat intro K U
 refine(Gr 263 [] [.rp [Ls p L],.rp [eI m]] (fun M=>[.map L (K8 p M)]) _ _ (od p L m hok hgw hfm hm) l f M (Ha fun y hy _=>hl y hy)).use (rest:=[_]) (hs.perm (.swap _ _ _)) ?_;clear hs;rintro r post Z ⟨rfl,rfl⟩ hs;refine zz ?_;(repeat clear U K);repeat intro K U
 exact Aw (hs.perm (.swap _ _ _)) (List.Sublist.refl _) (.refl _) fun Z' hs'=>⟨rfl,hs'⟩
def jS {p:Prog} (hok:E3 p): ∀(l:List Int),l≠[]->(∀x∈l,Bb p x=true)-> ∃x∈l,∀y∈l,Au p y x=false
 | [],h,_=>absurd rfl h
 | x ::r,_,h=>by
   by_cases hr:r= []
   .subst hr
    exact⟨x,.head _,fun y hy=>by rw[Lp.1 hy];exact R4 x⟩
   obtain⟨z,hz,hz2⟩:=jS hok r hr fun y hy=>h y (.tail _ hy)
   cases hxz:Au p x z
   .refine⟨z,.tail _ hz,fun y hy=>?_⟩
    rcases Fl.1 hy with rfl|hy
    .exact hxz
    .exact hz2 y hy
   .refine⟨x,.head _,fun y hy=>?_⟩
    rcases Fl.1 hy with rfl|hy
    .exact R4 y
    .rw[<-Bool.not_eq_true]
     intro e;have:=VT hok (h y (.tail _ hy)) (h x (.head _)) (h z (.tail _ hz)) e hxz;rw[hz2 y hy]at this;cases this
def TJ {p:Prog} (hok:E3 p) {l:List Int} (hl:l≠[]) (h: ∀x∈l,Bb p x=true): ∃i,YW (Au p) l=some i:=by
 obtain⟨x,hx,hx2⟩:=jS hok l hl h;obtain⟨i,hi⟩:=List.getElem?_of_mem hx;cases hm:YW (Au p) l with
 | some i=>exact⟨i,rfl⟩
 | none=>
   rw[YW,List.find?_range_eq_none]at hm;have h1:=hm i (JT.1 hi).1
   have h2:dF (Au p) l i l.length=true:=by
    rw[dF,DJ];intro k hk;rw[EZ hi,hx2 _ (TX (List.mem_range.1 hk))];rfl
   rw[h2]at h1;cases h1
end Go.Gl
namespace Go.Gl
variable {P:Program} {Z:AE}
def k8 {L:Nat} {args:List V} {Q:R->AE->Prop} (h:L2 P L args Z Q):Am P (.f (.yield L) [] []) args Z Q:=h
def Ol {L:Nat} {E:Env} {ps:List Nat} {a b:AV} {args:List V} {l:List At} (hl:args.length=ps.length) (hs:Sat Z (.obj L (.loop .ready E (Bk P ps a b))::l)) {Q:R->AE->Prop}
    (h: ∀Z,Sat Z l->W P a (CW (W P b fun ex env' Z'=>Z' L=none->QY L E (Bk P ps a b) Q ex env' Z')) (Eh ps args E) Z):L2 P L args Z Q:=
 Lh (hs.get (i:=0) rfl) hl (h _ hs.del)
end Go.Gl
namespace Go.Gl
open Go.Proofs
attribute [local irreducible] Ar Aj AZ AQ AL AX AP AR AJ AW AM AN Am Av Sat AT As Aa W
def Sy (xs:List Int) (f:Bool):Pure zP 261 [.l (iL xs) f] (.f (.func 312) [] [.rp [.l (iL xs) f]]):=by
 refine w9 kZ ?_;have hs:=Sn;exact zW
def oW (xs:List Int) (f:Bool) (hxl:xs.length<=1000) {S:Type} {fn:Fn} {fi ca:List V} {H:S->List At} (Inv:Nat->S->Prop) {s:S} (h0:Inv 0 s)
    (hT: ∀(k:Nat) s y,xs[k]? =some y->Inv k s-> ∀Z:AE,Sat Z (H s)->Am zP (.f fn fi ca) [eI y] Z fun r Z'=> ∃s',r= .ret (.b true)/\Inv (k+1) s'/\Sat Z' (H s')) (Z:AE) (hs:Sat Z (H s)) :
    Ar zP 312 [.f fn fi ca,.rp [.l (iL xs) f]] Z fun r Z'=> ∃s',r= .ret (.t [])/\Inv xs.length s'/\Sat Z' (H s'):=by
 have hM:=Mx;refine wF kZ ?_;refine zz ?_;(repeat clear U K);repeat intro K U
 refine CZ xs.length (fun k (_:S)=>[(7,eI (BL k))]) (fun _ s'=>H s') (fun k s'=>Inv k s') s rfl h0 hs ?_;clear hs;rintro k s' Z hk ho hs;rcases BF xs hk with⟨y,hy,hlt⟩|hke
 .have hT':=hT k s' y hy ho
  refine zz ?_;(repeat clear U K);repeat intro K U
  refine(hT' Z hs).mono ?_;rintro r Z ⟨s2,rfl,hi2,hs⟩;refine zz ?_;(repeat clear U K);repeat intro K U
  exact⟨hlt,_,rfl,hi2,hs⟩
 .rw[hke]at ho
  refine zz ?_;(repeat clear U K);repeat intro K U
  exact AI ⟨_,rfl,ho,hs⟩
def fu (xs:List Int) (f:Bool) (hxl:xs.length<=1000):BS zP 243 [.l [] true,.f (.func 312) [] [.rp [.l (iL xs) f]]] [] fun r post=> ∃v,r= .ret v/\post= [.own v 1 (iL xs)]/\((Ce v).isSome=true\/(v= .l [] true/\xs= [])):=by
 intro Z hs;have hM:=Mx;refine jv kZ ?_
 conv=>whnf
 repeat'((first|clear U K|apply st|(apply zk;intro K U)|refine zo fun nn hnn Z hs=>?_|fail)<;>conv=>whnf)
 rename_i nb _ _ _;clear hnn
 revert hs
 generalize hE:([(2,V.p nb 0)]:Env)=E;generalize hk:Bk _ _ _ _=ok;intro hs;refine Ar.mono (oW xs f hxl (fn:= .yield nn) (fi:=[]) (ca:=[]) (H:=fun s:V×List Int=> .obj nn (.loop .ready E ok):: [.box nb [s.1],.own s.1 1 (iL s.2)]) (fun k s=>s.2=xs.take k/\(1<=k->(Ce s.1).isSome=true)/\(k=0->s.1= .l [] true)) (s:=(.l [] true,[])) ⟨rfl,fun h=>by omega,fun _=>rfl⟩ ?_ Z ((Db hs 1).perm (I9 _ _ _ _))) ?_
 .clear hs
  subst hE hk;rintro k ⟨v,ys⟩ y hy ⟨h1,h2,h3⟩ Z hs;dsimp only at h1 h2 h3 hs;have hkl:k<xs.length:=(JT.1 hy).1;have hyl:ys.length=k:=by rw[h1,Lq];omega
  have hll:ys.length<Ae/\(ys.length+1)*8<=140737488355328:=by omega
  refine k8 (Ol (l:=[.box nb [v],.own v 1 (iL ys)]) rfl hs ?_);clear hs;intro Z hs
  conv=>whnf
  repeat'((first|clear U K|apply st|(apply zk;intro K U)|refine zY ?_|refine zs fun Z hs=>?_|refine aq fun v Z hs hsl=>?_|fail)<;>conv=>whnf)
  intro hn;exact⟨(v,ys++[y]),rfl,⟨by rw[AU hy,h1],fun _=>hsl,fun h=>by omega⟩,hs.iE hn⟩
 .clear hs
  rintro r Z ⟨⟨v,ys⟩,rfl,⟨h1,h2,h3⟩,hs⟩;dsimp only at h1 h2 h3 hs;refine Ju hs fun Z hs=>?_
  refine zz ?_;(repeat clear U K);repeat intro K U
  rw[List.take_length]at h1;subst h1;refine Aw hs (K7 _ _) (.refl _) fun Z' hs'=>⟨_,⟨v,rfl,rfl,?_⟩,hs'⟩
  rcases Nat.eq_zero_or_pos ys.length with h|h
  .exact .inr ⟨h3 h,YM.1 h⟩
  .exact .inl (h2 h)
def fe (xs:List Int) (f:Bool) (hxl:xs.length<=1000):BS zP 171 [.f (.func 312) [] [.rp [.l (iL xs) f]]] [] fun r post=> ∃v,r= .ret v/\post= [.own v 1 (iL xs)]/\((Ce v).isSome=true\/(v= .l [] true/\xs= [])):=by
 intro Z hs;refine kB kZ ?_
 conv=>whnf
 repeat'((first|clear U K|apply st|(apply zk;intro K U)|fail)<;>conv=>whnf)
 refine(fu xs f hxl).use (rest:=[]) (by simpa using hs) ?_;clear hs;rintro r post Z ⟨v,rfl,rfl,hv⟩ hs;refine zz ?_;(repeat clear U K);repeat intro K U
 exact Aw hs (List.sublist_append_left _ _) (.refl _) fun Z' hs'=>⟨_,⟨v,rfl,rfl,hv⟩,hs'⟩
def S4 (xs:List Int) (f:Bool) (hxl:xs.length<=1000):Pure zP 260 [.f (.func 312) [] [.rp [.l (iL xs) f]]] (.l (iL (xs.mergeSort Ho)) false):=by
 refine xA kZ ?_;have hs:=Sn
 conv=>whnf
 repeat'((first|clear U K|apply st|(apply zk;intro K U)|fail)<;>conv=>whnf)
 refine(fe xs f hxl).use (rest:=[]) (by simpa using hs) ?_;clear hs;rintro r post Z ⟨v,rfl,rfl,hv⟩ hs
 conv=>whnf
 repeat'((first|clear U K|apply st|(apply zk;intro K U)|fail)<;>conv=>whnf)
 refine(iH hv).use (rest:=[]) hs ?_;clear hs;rintro r post Z ⟨rfl,rfl⟩ hs;refine zz ?_;(repeat clear U K);repeat intro K U
 exact BZ (hs.HQ 0 rfl)
def Tf {S:Type} {stp:Int->S->Bool×S} {q:Int->Bool}: ∀(xs:List Int) (k:Nat) (s:S),(∀y∈xs,∀s,(stp y s).1=q y)->decide ((Bj stp xs k s).1≥0)=xs.any q
 | [],_,_,_=>rfl
 | y ::r,k,s,h=>by
   rw[Bj,h y (.head _),SA];cases hq:q y
   .rw[if_neg (by decide),Bool.false_or]
    exact Tf r (k+1) _ fun z hz=>h z (.tail _ hz)
   .rw[if_pos rfl,Bool.true_or]
    exact decide_eq_true (Int.natCast_nonneg k)
def dq (l:List Int) (q:Int->Bool):(List.range l.length).all (fun j=> !q (l.getD j 0))= !l.any q:=by
 rw[G3,DJ,Bool.not_eq_true',<-Bool.not_eq_true,Hn];constructor
 .rintro h ⟨x,hx,hq⟩
  obtain⟨i,hi⟩:=List.getElem?_of_mem hx;have:=h i (List.mem_range.2 (JT.1 hi).1);rw[EZ hi,hq]at this;cases this
 .intro h j hj
  cases hq:q (l.getD j 0)
  .rfl
  .exact absurd ⟨_,TX (List.mem_range.1 hj),hq⟩ h
def bu {p:Prog} {l:List Int} {M:List (Int×Int)}:(Bj (fun(m:Int) (M:List (Int×Int))=>(!(decide ((Bj (fun y M=>(Au p y m,dR p M y m)) l 0 M).1≥0)),zm p l m M)) l 0 M).1=match YW (Au p) l with|some i=>((i:Nat):Int)|none=> -1:=by
 rw[Te (q:=fun m=> !l.any fun y=>Au p y m) l 0 M fun m _ s=>by dsimp only;rw[Tf (q:=fun y=>Au p y m) l 0 s fun y _ s=>rfl]];rw[YW,find_congr (g:=fun i=>dF (Au p) l i l.length) fun i _=>by rw[dF,dq l fun y=>Au p y (l.getD i 0)]];cases(List.range l.length).find? fun i=>dF (Au p) l i l.length with
 | none=>rfl
 | some i=>simp
def fq (p:Prog) (L:Nat) (l:List Int) (f:Bool) (hok:E3 p) (hgw:B3 (AK p)) (hfm: ∀x∈p.methods,Ct (AK p) x.fact=true) (hl:US p l) (hnd:l.Nodup) (M:List (Int×Int)) :
    BS zP 184 [Ls p L,.l (iL l) f] [.map L (K8 p M)] fun r post=>r= .ret (.l (iL (HV (Au p) l.length (l.mergeSort Ho))) true)/\ ∃M',post= [.map L (K8 p M')]:=by
 intro Z hs;have hM:=Mx;have h16:=hl.many;have hml:(l.mergeSort Ho).length=l.length:=List.length_mergeSort _;have c1:=Sy l f;have c2:=S4 l f (by omega);refine jz kZ ?_
 conv=>whnf
 repeat'((first|clear U K|apply st|(apply zk;intro K U)|refine zY ?_|refine zs fun Z hs=>?_|refine zC ?_|refine zo fun nn hnn Z hs=>?_|fail)<;>conv=>whnf)
 clear c1 c2 hnn
 refine Gb (fun(x:List Int×Bool×V×List Int×List (Int×Int))=>x.1.length) (fun x=>[(5,x.2.2.1)]) (fun x=>[.box nn [.l (iL x.1) x.2.1],.own x.2.2.1 1 (iL x.2.2.2.1),.map L (K8 p x.2.2.2.2)])
  (fun x=>(∀y∈x.1,Bb p y=true)/\x.1.Nodup/\x.2.2.2.1.length+x.1.length<=16/\HV (Au p) l.length (l.mergeSort Ho)=x.2.2.2.1++HV (Au p) x.1.length x.1) (l.mergeSort Ho,false,.l [] true,[],M) rfl ⟨fun y hy=>hl.L3 y (List.mem_mergeSort.1 hy),(List.mergeSort_perm l Ho).symm.nodup hnd,by simpa[hml]using h16,by simp[hml]⟩ ((Db hs 1).perm (.swap _ _ _)) ?_
 clear hs;rintro⟨l',f',v,out,M⟩ Z ⟨hme,hn,hlen,hm⟩ hs;dsimp only at hme hn hlen hm hs;dsimp only;have hll:out.length<Ae/\(out.length+1)*8<=140737488355328:=by omega
 by_cases hz:l'.length=0
 .rw[hz]at hm
  simp only[HV,FE]at hm
  conv=>whnf
  repeat'((first|clear U K|apply st|(apply zk;intro K U)|refine zY ?_|(refine zb (fun hc=>?_) (fun hc=>?_)<;>try exact⟨⟩)|fail)<;>conv=>whnf)
  refine(QX out v (by omega)).use (rest:=[_,_]) (hs.perm (.swap _ _ _)) ?_;clear hs;rintro r post Z ⟨rfl,rfl⟩ hs;refine zz ?_;(repeat clear U K);repeat intro K U
  exact Aw hs (K7 _ _) (.refl _) fun Z' hs'=>⟨_,⟨by rw[hm],M,rfl⟩,hs'⟩
 .obtain⟨n,hnn⟩: ∃n,l'.length=n+1:=⟨l'.length - 1,by omega⟩
  have hne:l'≠[]:=fun e=>hz (by rw[e];rfl)
  obtain⟨i,hi⟩:=TJ hok hne hme;have hil:i<l'.length:=by simpa using List.mem_of_find?_eq_some hi
  obtain⟨x,hx⟩: ∃x,l'[i]? =some x:=⟨_,DC hil⟩
  rw[hnn,HV,hi,Option.getD_some,EZ hx]at hm;have c3:=Nx l' f' x (by omega);rw[GN hn hx]at c3;have hel:=List.length_eraseIdx_of_lt hil
  conv=>whnf
  repeat'((first|clear U K|apply st|(apply zk;intro K U)|refine zY ?_|(refine zb (fun hc=>?_) (fun hc=>?_)<;>try exact⟨⟩)|fail)<;>conv=>whnf)
  refine(I5 262 [] [.p nn 0,.rp [Ls p L]] (fun M=>[.box nn [.l (iL l') f'],.map L (K8 p M)]) _ _ (ai p L nn l' f' hok hgw hfm hme) l' f' M (Ha fun y hy _=>hme y hy)).use (rest:=[.own v 1 (iL out)]) (hs.perm (.cons _ (.swap _ _ _))) ?_;clear hs;rintro r post Z ⟨rfl,rfl⟩ hs;rw[bu,hi];generalize (Bj _ l' 0 M).2=M2 at hs;dsimp only
  conv=>whnf
  repeat'((first|clear U K|apply st|(apply zk;intro K U)|refine zY ?_|refine zs fun Z hs=>?_|refine aq fun v Z hs hsl=>?_|refine zC ?_|fail)<;>conv=>whnf)
  refine⟨(l'.eraseIdx i,true,v,out++[x],M2),by dsimp only;omega,rfl,⟨fun y hy=>hme y (List.mem_of_mem_eraseIdx hy),hn.sublist (List.eraseIdx_sublist _ _),by simp;omega,?_⟩,hs.perm (.cons _ (.swap _ _ _))⟩;dsimp only;rw[hm,hel,show l'.length - 1=n by omega];simp
def df: ∀ {l:List Int},l.Nodup->(l.mergeSort Ho).Pairwise (· < ·):=fun {l} h=>by
 have h1:=List.pairwise_mergeSort (le:=Ho) (fun a b c h1 h2=>by simp only[Ho,CC]at *;omega) (fun a b=>by simp only[Ho,Ea,CC];omega) l;have h2:=List.nodup_iff_pairwise_ne.1 ((List.mergeSort_perm l Ho).symm.nodup h);exact(h1.and h2).imp fun⟨a,b⟩=>by simp only[Ho,CC]at a;omega
def bY {x:Int}: ∀ {out:List Int},out.Pairwise (· < ·)->x∉out->(PC x out).Pairwise (· < ·)
 | [],_,_=>by simp[PC]
 | y ::r,h,hx=>by
   rw[List.pairwise_cons]at h;rw[Fl,not_or]at hx;by_cases hy:y<x
   .have e:PC x (y::r)=y::PC x r:=by simp[PC,List.takeWhile_cons,List.dropWhile_cons,hy]
    rw[e,List.pairwise_cons];refine⟨fun z hz=>?_,bY h.2 hx.2⟩;rcases Qq.1 hz with rfl|hz
    .exact hy
    .exact h.1 z hz
   .have e:PC x (y::r)=x::y::r:=by simp[PC,List.takeWhile_cons,List.dropWhile_cons,hy]
    rw[e,List.pairwise_cons,List.pairwise_cons];refine⟨fun z hz=>?_,h⟩;rcases Fl.1 hz with rfl|hz
    .have:=hx.1;omega
    .have:=h.1 z hz
     have:=hx.1;omega
def XN: ∀(l out:List Int),out.Pairwise (· < ·)->l.Nodup->(∀x∈l,x∉out)->(l.foldl (fun out x=>PC x out) out).Pairwise (· < ·)
 | [],_,h,_,_=>h
 | x::r,out,h,hn,hx=>by
   rw[List.nodup_cons]at hn;refine XN r _ (bY h (hx x (.head _))) hn.2 fun y hy hm=>?_
   rcases Qq.1 hm with rfl|hm
   .exact hn.1 hy
   .exact hx y (.tail _ hy) hm
def S5 {l:List Int} (h:l.Nodup):l.mergeSort Ho=Kp l:=
 LS (df h) (XN l [] .nil h fun x _ hm=>by cases hm) fun x=>by rw[List.mem_mergeSort,dg]
def Ch (p:Prog) (os:List Ob) (gen:Int) (args:List (Int×Int)):Bool:=
 (BQ p).isSome&&(Fp (AK p) os&&(Ja p gen&&(decide ((args.length:Int)=p.Cb.getD gen.toNat 0)&&args.all (Bi os.length))))
def rM (p:Prog) (os:List Ob) (f:Bool) (gen:Int) (args:List (Int×Int)) (g:Bool):Pure zP 47 [.a (BR p),.l (os.map Gt) f,eI gen,.l (pP args) g] (.b (Ch p os gen args)):=by
 refine Pure.fit (by kernel_rfl) fun hf=>?_
 have⟨p1,p2,p3,p4⟩:=G7 hf.1;have hP:=L6 hf.1;have hM:=Mx;have c1:=tu p;cases h1:(BQ p).isSome<;>rw[h1]at c1
 .refine WU kZ ?_
  have hs:=Sn
  conv=>whnf
  repeat'((first|clear U K|apply st|(apply zk;intro K U)|refine zY ?_|refine zC ?_|fail)<;>conv=>whnf)
  all_goals exact AG (by simp[Ch,h1])
 have hok:=look_ok h1;have c2:=Uk p hP hok.AAm hok.AH;have c3:=uD (AK p) os f hok.nY;cases h2:Fp (AK p) os<;>rw[h2]at c3
 .refine WU kZ ?_
  have hs:=Sn
  conv=>whnf
  repeat'((first|clear U K|apply st|(apply zk;intro K U)|refine zY ?_|refine zC ?_|fail)<;>conv=>whnf)
  all_goals exact AG (by simp[Ch,h1,h2])
 have c4:=AA3 p gen;cases h3:Ja p gen<;>rw[h3]at c4
 .refine WU kZ ?_
  have hs:=Sn
  conv=>whnf
  repeat'((first|clear U K|apply st|(apply zk;intro K U)|refine zY ?_|refine zC ?_|fail)<;>conv=>whnf)
  all_goals exact AG (by simp[Ch,h1,h2,h3])
 have hg:=h3;simp only[Ja,A0,CC]at hg;obtain⟨x,hx⟩: ∃x,p.Cb[gen.toNat]? =some x:=⟨_,DC (by omega)⟩
 have hxd:p.Cb.getD gen.toNat 0=x:=by rw[C6,hx];rfl
 have e3:((os.map Gt).length:Int)=os.length:=by simp
 have c5:Pure zP 113 [.l (pP args) g,eI ((os.map Gt).length:Int)] (.b (args.all (Bi os.length))):=by rw[e3];exact im args g os.length
 have e:Ch p os gen args=(decide ((args.length:Int)=x)&&args.all (Bi os.length)):=by simp only[Ch,h1,h2,h3,hxd,Cm]
 rw[e];by_cases he:(args.length:Int)=x
 .rw[decide_eq_true he,Cm]
  refine WU kZ ?_;have hs:=Sn
  conv=>whnf
  repeat'((first|clear U K|apply st|(apply zk;intro K U)|refine zY ?_|refine zC ?_|(refine zd (fun hc=>?_) (fun hc=>?_)<;>try exact⟨⟩)|fail)<;>conv=>whnf)
  all_goals first
   | exact AG rfl
   | (exfalso;simp[he]at hc;done)
 .rw[decide_eq_false he,Bool.false_and]
  refine WU kZ ?_;have hs:=Sn
  conv=>whnf
  repeat'((first|clear U K|apply st|(apply zk;intro K U)|refine zY ?_|refine zC ?_|(refine zd (fun hc=>?_) (fun hc=>?_)<;>try exact⟨⟩)|fail)<;>conv=>whnf)
  all_goals first
   | (exfalso;simp[he]at hc;done)
   | exact AG rfl
def Cs (os:List Ob) (v:Int×Int):Int:=if v.1=1 then 1 else if v.1=2 then 2 else(os.getD v.2.toNat (0,[])).1
def Z3 (os:List Ob) (f:Bool) (v:Int×Int) (hv:Bi os.length v=true):Pure zP 123 [.l (os.map Gt) f,.a (pI v)] (.i .i64 (Cs os v)):=by
 refine Pure.fit (by kernel_rfl) fun hf=>?_
 have hM:=Mx
 have hol:os.length<=Ae:=by
  have:=hf.1;simp only[E4,Ca]at this;exact this.1
 obtain⟨k,n⟩:=v;refine yo kZ ?_;have hs:=Sn;by_cases h1:k=1
 .conv=>whnf
  repeat'((first|clear U K|apply st|(apply zk;intro K U)|refine zY ?_|(refine zb (fun hc=>?_) (fun hc=>?_)<;>try exact⟨⟩)|fail)<;>conv=>whnf)
  all_goals exact AG (by simp[Cs,h1])
 by_cases h2:k=2
 .conv=>whnf
  repeat'((first|clear U K|apply st|(apply zk;intro K U)|refine zY ?_|(refine zb (fun hc=>?_) (fun hc=>?_)<;>try exact⟨⟩)|fail)<;>conv=>whnf)
  all_goals exact AG (by simp[Cs,h1,h2])
 .have hn:0<=n/\n<os.length:=by
   simp only[Bi,if_neg h1,if_neg h2]at hv;split at hv
   .simpa using hv
   .cases hv
  obtain⟨x,hx⟩: ∃x,os[n.toNat]? =some x:=⟨_,DC (by omega)⟩
  have hxd:os.getD n.toNat (0,[])=x:=by rw[C6,hx];rfl
  conv=>whnf
  repeat'((first|clear U K|apply st|(apply zk;intro K U)|refine zY ?_|(refine zb (fun hc=>?_) (fun hc=>?_)<;>try exact⟨⟩)|fail)<;>conv=>whnf)
  all_goals exact AG (by rw[Cs,if_neg h1,if_neg h2,hxd])
end Go.Gl
namespace Go.Gl
open Go.Proofs
def y2 {Z:AE} {l:List At} {i:Nat} {v:V} {sz:Nat} {es:List (List V)} (hs:Sat Z l) (hi:l[i]? =some (.own v sz es)) (he: ∀e∈es,e.length=sz) {K:V->AE->Prop} (hk: ∀v' Z',Sat Z' (l.set i (.own v' sz es))->((Ce v').isSome=true\/(v'= .l es true/\v= .l es true))->K v' Z'):AP Z sz v none (some (.i .i64 (es.length:Int))) (some (.i .i64 (es.length:Int))) K:=by
 rcases hs.get hi with⟨rfl,_⟩|⟨n,cap,rfl,hn⟩
 .refine⟨he,?_⟩
  simp only[O7];refine⟨Int.le_refl _,Int.natCast_nonneg _,Int.le_refl _,trivial,?_⟩
  have hset:l.set i (.own (.l es true) sz es)=l:=by
   refine List.ext_getElem? fun j=>?_
   by_cases hj:i=j
   .subst hj
    rw[List.getElem?_set_self (JT.1 hi).1,hi]
   .rw[List.getElem?_set_ne hj]
  have:=hk (.l es true) Z (by rw[hset];exact hs) (.inr ⟨rfl,rfl⟩);simpa using this
 .unfold AP
  simp only[O7];refine⟨Int.le_refl _,Int.natCast_nonneg _,Int.le_refl _,trivial,trivial,trivial,?_⟩;rw[hn];refine⟨rfl,rfl,rfl,.inr (hk _ _ ?_ (.inl rfl))⟩;refine hs.change hi (fun b hb ha=>FK hb fun m hm=>?_) (fun b hb ha m hm=>?_) (.inr ⟨n,es.length,rfl,DO _ _ _⟩)
  .rw[Cn]
   intro e;subst e;exact ha m rfl hm
  .cases hm
   exact ha _ rfl
attribute [local irreducible] Ar Aj AZ AQ AL AX AP AR AJ AW AM AN Am Av Sat AT As Aa W
def rC (xs:List Int) (v:V) (hl:xs.length<=Ae) (hv:(Ce v).isSome=true\/(v= .l [] true/\xs= [])):BS zP 242 [v] [.own v 1 (iL xs)] fun r post=> ∃v',r= .ret v'/\post= [.own v' 1 (iL xs)]/\((Ce v').isSome=true\/(v'= .l [] true/\xs= [])):=by
 intro Z hs;have hg:=EE C0 xs;refine jw kZ ?_;refine zz ?_;(repeat clear U K);repeat intro K U
 refine y2 (i:=0) hs rfl hg.1 fun v' Z hs hv'=>?_
 refine zz ?_;(repeat clear U K);repeat intro K U
 refine Aw hs (List.Sublist.refl _) (.refl _) fun Z' hs'=>⟨_,⟨v',rfl,rfl,?_⟩,hs'⟩
 rcases hv' with h|⟨h1,h2⟩
 .exact .inl h
 .rcases hv with h|⟨h3,h4⟩
  .rw[h2]at h;cases h
  .subst h4
   exact .inr ⟨h1,rfl⟩
def WC (xs ys:List Int) (k:Nat):Prop:=ys.length=xs.length/\ ∀t,t<xs.length->ys[t]? =if t<k\/xs.length - k<=t then xs[xs.length - 1 - t]? else xs[t]?
def uu (xs:List Int):WC xs xs 0:=⟨rfl,fun t ht=>by rw[if_neg (by omega)]⟩
def mQ {xs ys:List Int} {k:Nat} (h:WC xs ys k) (hk:xs.length<=2*k+1):ys=xs.reverse:=by
 refine List.ext_getElem? fun t=>?_
 rcases Nat.lt_or_ge t xs.length with ht|ht
 .rw[h.2 t ht,List.getElem?_reverse ht]
  split
  .rfl
  .congr 1;omega
 .rw[List.getElem?_eq_none (by rw[h.1];exact ht),List.getElem?_eq_none (by rw[List.length_reverse];exact ht)]
def ei {xs ys:List Int} {k:Nat} {a b:Int} (h:WC xs ys k) (hk:2*k+1<xs.length) (ha:ys[k]? =some a) (hb:ys[xs.length - 1 - k]? =some b):WC xs ((ys.set k b).set (xs.length - 1 - k) a) (k+1):=by
 have h1:=h.2 k (by omega);have h2:=h.2 (xs.length - 1 - k) (by omega);rw[if_neg (by omega),ha]at h1;rw[if_neg (by omega),hb]at h2;refine⟨by rw[List.length_set,List.length_set];exact h.1,fun t ht=>?_⟩;have hl:=h.1;by_cases e1:t=xs.length - 1 - k
 .subst e1
  rw[List.getElem?_set_self (by rw[List.length_set];omega),if_pos (by omega),show xs.length - 1 - (xs.length - 1 - k)=k by omega,h1]
 .rw[List.getElem?_set_ne (fun e=>e1 e.symm)]
  by_cases e2:t=k
  .subst e2
   rw[List.getElem?_set_self (by omega),if_pos (by omega),h2]
  .rw[List.getElem?_set_ne (fun e=>e2 e.symm),h.2 t ht]
   by_cases e3:t<k\/xs.length - k<=t
   .rw[if_pos e3,if_pos (by omega)]
   .rw[if_neg e3,if_neg (by omega)]
end Go.Gl
namespace Go.Gl
open Go.Proofs
attribute [local irreducible] Ar Aj AZ AQ AL AX AP AR AJ AW AM AN Am Av Sat AT As Aa W
def dj (xs:List Int) (v:V) (hl:xs.length<=1000) (hv:(Ce v).isSome=true\/(v= .l [] true/\xs= [])):BS zP 185 [v] [.own v 1 (iL xs)] fun r post=>r= .ret (.t [])/\post= [.own v 1 (iL xs.reverse)]:=by
 intro Z hs;have hM:=Mx;have e0:((iL xs).length:Int)=xs.length:=by simp
 have hw0:IntKind.i64.wrap (((iL xs).length:Int) - 1)=(xs.length:Int) - 1:=by rw[e0,wrap64 (by omega) (by omega)]
 refine x6 kZ ?_;refine zz ?_;(repeat clear U K);repeat intro K U
 refine Gb (fun(x:Int×Int×List Int)=>(x.2.1+1).toNat) (fun x=>[(2,eI x.1),(3,eI x.2.1)]) (fun x=>[.own v 1 (iL x.2.2)]) (fun x=> ∃k:Nat,x.1=k/\x.2.1=(xs.length:Int) - 1 - k/\2*k<=xs.length+1/\WC xs x.2.2 k) (0,IntKind.i64.wrap (((iL xs).length:Int) - 1),xs) rfl ⟨0,rfl,by rw[hw0];simp,by omega,uu xs⟩ hs ?_;clear hs;rintro⟨i,j,ys⟩ Z ⟨k,hi,hj,hk,hh⟩ hs;dsimp only at hi hj hh hs;dsimp only;have hyl:=hh.1;by_cases hij:i<j
 .have hsv:(Ce v).isSome=true:=by
   rcases hv with h|⟨h1,h2⟩
   .exact h
   .rw[h2]at hj;simp at hj;omega
  have hwi:IntKind.i64.wrap (i+1)=i+1:=wrap64 (by omega) (by omega);have hwj:IntKind.i64.wrap (j - 1)=j - 1:=wrap64 (by omega) (by omega);obtain⟨a,ha⟩: ∃a,ys[i.toNat]? =some a:=⟨_,DC (by omega)⟩
  obtain⟨b,hb⟩: ∃b,ys[j.toNat]? =some b:=⟨_,DC (by omega)⟩
  conv=>whnf
  repeat'((first|clear U K|apply st|(apply zk;intro K U)|refine zY ?_|refine zs fun Z hs=>?_|refine oset (fun Z hs=>?_) (h1:=by rw[List.length_set];omega)|(refine zb (fun hc=>?_) (fun hc=>?_)<;>try exact⟨⟩)|fail)<;>conv=>whnf)
  have hik:i.toNat=k:=by omega
  have hjk:j.toNat=xs.length - 1 - k:=by omega
  refine⟨(IntKind.i64.wrap (i+1),IntKind.i64.wrap (j - 1),(ys.set i.toNat b).set j.toNat a),by dsimp only;rw[hwj];omega,rfl,⟨k+1,by dsimp only;rw[hwi];omega,by dsimp only;rw[hwj];omega,by omega,?_⟩,hs⟩;dsimp only;rw[hik]at ha ⊢;rw[hjk]at hb ⊢;exact ei hh (by omega) ha hb
 .have he:=mQ hh (by omega)
  conv=>whnf
  repeat'((first|clear U K|apply st|(apply zk;intro K U)|refine zY ?_|(refine zb (fun hc=>?_) (fun hc=>?_)<;>try exact⟨⟩)|fail)<;>conv=>whnf)
  subst he;exact Aw hs (List.Sublist.refl _) (.refl _) fun Z' hs'=>⟨_,⟨rfl,rfl⟩,hs'⟩
def Z4 (p:Prog) (L:Nat) (l:List Int) (f:Bool) (hok:E3 p) (hgw:B3 (AK p)) (hfm: ∀x∈p.methods,Ct (AK p) x.fact=true) (hl:US p l) (hnd:l.Nodup) (M:List (Int×Int)) :
    BS zP 184 [Ls p L,.l (iL l) f] [.map L (K8 p M)] fun r post=> ∃v M',r= .ret v/\post= [.own v 1 (iL (HV (Au p) l.length (l.mergeSort Ho))),.map L (K8 p M')]/\((Ce v).isSome=true\/(v= .l [] true/\HV (Au p) l.length (l.mergeSort Ho)= [])):=by
 intro Z hs;have hM:=Mx;have h16:=hl.many;have hml:(l.mergeSort Ho).length=l.length:=List.length_mergeSort _;have c1:=Sy l f;have c2:=S4 l f (by omega);refine jz kZ ?_
 conv=>whnf
 repeat'((first|clear U K|apply st|(apply zk;intro K U)|refine zY ?_|refine zs fun Z hs=>?_|refine zC ?_|refine zo fun nn hnn Z hs=>?_|fail)<;>conv=>whnf)
 clear c1 c2 hnn
 refine Gb (fun(x:List Int×Bool×V×List Int×List (Int×Int))=>x.1.length) (fun x=>[(5,x.2.2.1)]) (fun x=>[.box nn [.l (iL x.1) x.2.1],.own x.2.2.1 1 (iL x.2.2.2.1),.map L (K8 p x.2.2.2.2)])
  (fun x=>(∀y∈x.1,Bb p y=true)/\x.1.Nodup/\x.2.2.2.1.length+x.1.length<=16/\HV (Au p) l.length (l.mergeSort Ho)=x.2.2.2.1++HV (Au p) x.1.length x.1/\((Ce x.2.2.1).isSome=true\/(x.2.2.1= .l [] true/\x.2.2.2.1= []))) (l.mergeSort Ho,false,.l [] true,[],M) rfl ⟨fun y hy=>hl.L3 y (List.mem_mergeSort.1 hy),(List.mergeSort_perm l Ho).symm.nodup hnd,by simpa[hml]using h16,by simp[hml],.inr ⟨rfl,rfl⟩⟩ ((Db hs 1).perm (.swap _ _ _)) ?_
 clear hs;rintro⟨l',f',v,out,M⟩ Z ⟨hme,hn,hlen,hm,hv⟩ hs;dsimp only at hme hn hlen hm hv hs;dsimp only;have hll:out.length<Ae/\(out.length+1)*8<=140737488355328:=by omega
 by_cases hz:l'.length=0
 .rw[hz]at hm
  simp only[HV,FE]at hm
  conv=>whnf
  repeat'((first|clear U K|apply st|(apply zk;intro K U)|refine zY ?_|(refine zb (fun hc=>?_) (fun hc=>?_)<;>try exact⟨⟩)|fail)<;>conv=>whnf)
  refine(rC out v (by omega) hv).use (rest:=[_,_]) (hs.perm (.swap _ _ _)) ?_;clear hs;rintro r post Z ⟨v',rfl,rfl,hv'⟩ hs;refine zz ?_;(repeat clear U K);repeat intro K U
  rw[hm];exact Aw hs (.cons₂ _ (K7 _ _)) (.refl _) fun Z' hs'=>⟨_,⟨v',M,rfl,rfl,hv'⟩,hs'⟩
 .obtain⟨n,hnn⟩: ∃n,l'.length=n+1:=⟨l'.length - 1,by omega⟩
  have hne:l'≠[]:=fun e=>hz (by rw[e];rfl)
  obtain⟨i,hi⟩:=TJ hok hne hme;have hil:i<l'.length:=by simpa using List.mem_of_find?_eq_some hi
  obtain⟨x,hx⟩: ∃x,l'[i]? =some x:=⟨_,DC hil⟩
  rw[hnn,HV,hi,Option.getD_some,EZ hx]at hm;have c3:=Nx l' f' x (by omega);rw[GN hn hx]at c3;have hel:=List.length_eraseIdx_of_lt hil
  conv=>whnf
  repeat'((first|clear U K|apply st|(apply zk;intro K U)|refine zY ?_|(refine zb (fun hc=>?_) (fun hc=>?_)<;>try exact⟨⟩)|fail)<;>conv=>whnf)
  refine(I5 262 [] [.p nn 0,.rp [Ls p L]] (fun M=>[.box nn [.l (iL l') f'],.map L (K8 p M)]) _ _ (ai p L nn l' f' hok hgw hfm hme) l' f' M (Ha fun y hy _=>hme y hy)).use (rest:=[.own v 1 (iL out)]) (hs.perm (.cons _ (.swap _ _ _))) ?_;clear hs;rintro r post Z ⟨rfl,rfl⟩ hs;rw[bu,hi];generalize (Bj _ l' 0 M).2=M2 at hs;dsimp only
  conv=>whnf
  repeat'((first|clear U K|apply st|(apply zk;intro K U)|refine zY ?_|refine zs fun Z hs=>?_|refine aq fun v Z hs hsl=>?_|refine zC ?_|fail)<;>conv=>whnf)
  refine⟨(l'.eraseIdx i,true,v,out++[x],M2),by dsimp only;omega,rfl,⟨fun y hy=>hme y (List.mem_of_mem_eraseIdx hy),hn.sublist (List.eraseIdx_sublist _ _),by simp;omega,?_,.inl hsl⟩,hs.perm (.cons _ (.swap _ _ _))⟩;dsimp only;rw[hm,hel,show l'.length - 1=n by omega];simp
def fg (os:List Ob) (f:Bool) (v:Int×Int):Pure zP 168 [.a (pI v),.rp [.l (os.map Gt) f]] (.b (Bi os.length v)):=by
 have e3:((os.map Gt).length:Int)=os.length:=by simp
 have c1:Pure zP 169 [.a (pI v),eI ((os.map Gt).length:Int)] (.b (Bi os.length v)):=by rw[e3];exact oV v os.length
 refine yK kZ ?_;have hs:=Sn;exact zW
def rE (xs:List (Int×Int)) (v:V) (hl:xs.length<=Ae):BS zP 241 [v] [.own v 2 (pP xs)] fun r post=>r= .ret (.l (pP xs) true)/\post= []:=by
 intro Z hs;have hg:=EE jg xs;refine xP kZ ?_;refine zz ?_;(repeat clear U K);repeat intro K U
 refine ia (i:=0) hs rfl hg.1 (by simpa using hl) fun Z hs=>?_
 refine zz ?_;(repeat clear U K);repeat intro K U
 exact Aw hs (List.Sublist.refl _) (.refl _) fun Z' hs'=>⟨_,⟨rfl,rfl⟩,hs'⟩
def mY (os:List Ob) (f:Bool) (xs:List (Int×Int)) (g:Bool) (hxl:xs.length<=1000):Pure zP 167 [.l (pP xs) g,.f (.func 168) [] [.rp [.l (os.map Gt) f]]] (.l (pP (xs.filter (Bi os.length))) true):=by
 refine Pure.of ?_;have hM:=Mx;refine yL kZ ?_;have hs:=Sn;refine zz ?_;(repeat clear U K);repeat intro K U
 refine CZ xs.length (fun k v=>[(5,v),(10,eI (BL k))]) (fun k v=>[.own v 2 (pP ((xs.take k).filter (Bi os.length)))]) (fun _ _=>True) (.l [] true) rfl trivial (Gy hs 2) ?_;clear hs;rintro k v Z hk - hs;have hfl:=Pr (Bi os.length) (xs.take k);rw[Lq]at hfl;rcases BF xs hk with⟨y,hy,hlt⟩|hke
 .have hst:(xs.take (k+1)).filter (Bi os.length)=if Bi os.length y then(xs.take k).filter (Bi os.length)++[y]else(xs.take k).filter (Bi os.length):=by
   rw[AU hy,List.filter_append];cases hp:Bi os.length y<;>simp[hp]
  generalize (xs.take k).filter (Bi os.length)=zl at *;have hll:zl.length<Ae/\(zl.length+1)*16<=140737488355328:=by omega
  have c1:=fg os f y;cases hvy:Bi os.length y<;>rw[hvy]at c1 hst
  .conv=>whnf
   repeat'((first|clear U K|apply st|(apply zk;intro K U)|refine zY ?_|refine zs fun Z hs=>?_|refine BA (c1.use ?_)|refine zo fun nn hnn Z hs=>?_|fail)<;>conv=>whnf)
   exact⟨hlt,_,rfl,trivial,by rw[hst];exact hs.less (K7 _ _)⟩
  .conv=>whnf
   repeat'((first|clear U K|apply st|(apply zk;intro K U)|refine zY ?_|refine zs fun Z hs=>?_|refine BA (c1.use ?_)|refine aq (enc:=pI) (x:=((_:Int),(_:Int))) (fun v Z hs hsl=>?_) (hg:=jg)|refine zo fun nn hnn Z hs=>?_|fail)<;>conv=>whnf)
   exact⟨hlt,_,rfl,trivial,by rw[hst];exact hs.less (K7 _ _)⟩
 .rw[BC hke]at hs
  refine zz ?_;(repeat clear U K);repeat intro K U
  refine(rE (xs.filter (Bi os.length)) v (by have:=Pr (Bi os.length) xs;omega)).use (rest:=[]) (by simpa using hs) ?_;clear hs;rintro r post Z ⟨rfl,rfl⟩ hs;refine zz ?_;(repeat clear U K);repeat intro K U
  exact AI (by rfl)
def de (f : Fact):QI f=true->Pure zP 120 [.a (xF f)] (eI (DE f)):=by
 induction f using Fact.ind with
 | h f ih=>
   intro ha;refine Pure.fit (by kernel_rfl) fun hf=>?_
   have⟨h2,h3,h4⟩:=Oc hf.1;have hM:=Mx;rw[My]at ha;simp only[A0,CC,List.all_map,DJ]at ha;have c1:=Pa f;refine yq kZ ?_;have hs:=Sn;by_cases hlf:Bl f=true
   .rw [hlf]at c1
    have hw:IntKind.i64.wrap (f.arg+1)=f.arg+1:=wrap64 (by omega) (by omega)
    conv=>whnf
    repeat'((first|clear U K|apply st|(apply zk;intro K U)|refine zY ?_|refine zC ?_|fail)<;>conv=>whnf)
    all_goals
     refine CZ f.kids.length (fun k (_:Unit)=>[(3,eI (((f.kids.take k).map DE).foldl Ht (if Bl f then f.arg+1 else 0))),(14,eI (BL k))]) (fun _ _=>[]) (fun _ _=>True) () (by rw[hw,if_pos hlf];rfl) trivial hs ?_;clear hs;rintro k - Z hk - hs;rcases BF f.kids hk with⟨x,hx,hlt⟩|hke
     .have hxs:=ih x (CY hx) (ha.2 x (CY hx))
      conv=>whnf
      repeat'((first|clear U K|apply st|(apply zk;intro K U)|refine zY ?_|refine zs fun Z hs=>?_|refine zC ?_|refine zo fun nn hnn Z hs=>?_|fail)<;>conv=>whnf)
      exact⟨hlt,(),by rw[Ei _ _ _ hx];rfl,trivial,hs.take 0⟩
     .refine zz ?_;(repeat clear U K);repeat intro K U
      exact AG (by rw[BC hke,<-ED])
   .rw [Bool.not_eq_true]at hlf
    rw[hlf]at c1;have hlf2: ¬Bl f=true:=by rw[hlf];decide
    conv=>whnf
    repeat'((first|clear U K|apply st|(apply zk;intro K U)|refine zY ?_|refine zC ?_|fail)<;>conv=>whnf)
    all_goals
     refine CZ f.kids.length (fun k (_:Unit)=>[(3,eI (((f.kids.take k).map DE).foldl Ht (if Bl f then f.arg+1 else 0))),(14,eI (BL k))]) (fun _ _=>[]) (fun _ _=>True) () (by rw[if_neg hlf2];rfl) trivial hs ?_;clear hs;rintro k - Z hk - hs;rcases BF f.kids hk with⟨x,hx,hlt⟩|hke
     .have hxs:=ih x (CY hx) (ha.2 x (CY hx))
      conv=>whnf
      repeat'((first|clear U K|apply st|(apply zk;intro K U)|refine zY ?_|refine zs fun Z hs=>?_|refine zC ?_|refine zo fun nn hnn Z hs=>?_|fail)<;>conv=>whnf)
      exact⟨hlt,(),by rw[Ei _ _ _ hx];rfl,trivial,hs.take 0⟩
     .refine zz ?_;(repeat clear U K);repeat intro K U
      exact AG (by rw[BC hke,<-ED])
def Wd (v:Int×Int) (n:Int):Pure zP 179 [.a (pI v),eI n] (.b (Bi n v)):=by
 obtain⟨k,x⟩:=v;refine yB kZ ?_;have hs:=Sn
 conv=>whnf
 repeat'((first|clear U K|apply st|(apply zk;intro K U)|refine zY ?_|(refine zd (fun hc=>?_) (fun hc=>?_)<;>try exact⟨⟩)|fail)<;>conv=>whnf)
 all_goals exact AG (by simp[Bi, *]<;>omega)
def Zz (os:List Ob) (f:Bool) (v:Int×Int):Pure zP 178 [.a (pI v),.rp [.l (os.map Gt) f]] (.b (Bi os.length v)):=by
 have e3:((os.map Gt).length:Int)=os.length:=by simp
 have c1:Pure zP 179 [.a (pI v),eI ((os.map Gt).length:Int)] (.b (Bi os.length v)):=by rw[e3];exact Wd v os.length
 refine yC kZ ?_;have hs:=Sn;exact zW
def QJ (g:FuncId) (fi ca:List V) (q:Int×Int->Bool):Prop:= ∀v,Pure zP g (fi++[.a (pI v)]++ca) (.b (q v))
def QJ.use {g:FuncId} {fi ca:List V} {q:Int×Int->Bool} (h:QJ g fi ca q) {v:Int×Int} {Z:AE} {k kp:V->AE->Prop} (hk:k (.b (q v)) Z):Am zP (.f (.func g) fi ca) [.a (pI v)] Z (qk k kp):=BA ((h v).use hk)
def Zw {g:FuncId} {fi ca:List V} {q:Int×Int->Bool} (hpf:QJ g fi ca q) (v:Int×Int):Pure zP 256 [.a (pI v),.rp [.f (.func g) fi ca]] (.b (!q v)):=by
 refine xE kZ ?_;have hs:=Sn
 conv=>whnf
 repeat'((first|clear U K|apply st|(apply zk;intro K U)|refine zY ?_|refine QJ.use hpf ?_|fail)<;>conv=>whnf)
 all_goals exact AG rfl
def P4 {α:Type} (q:α->Bool):List α->Nat->Int
 | [],_=> -1
 | v::r,k=>if q v then P4 q r (k+1)else k
def Q3 {α:Type} (q:α->Bool): ∀(l:List α) (k:Nat),decide (P4 q l k≥0)= !l.all q
 | [],_=>rfl
 | v ::r,k=>by
   rw[P4,R8];cases q v
   .rw[if_neg (by decide),Bool.false_and]
    exact decide_eq_true (Int.natCast_nonneg k)
   .rw[if_pos rfl,Cm]
    exact Q3 q r (k+1)
def mO {g:FuncId} {fi ca:List V} {q:Int×Int->Bool} (hpf:QJ g fi ca q) (l:List (Int×Int)) (b:Bool):Pure zP 309 [.l (pP l) b,.f (.func 256) [] [.rp [.f (.func g) fi ca]]] (eI (P4 q l 0)):=by
 refine Pure.fit (by kernel_rfl) fun hf=>?_
 have hl:l.length<=Ae:=by
  have:=hf.1;simp only[E4,Ca]at this;exact this.1
 have hM:=Mx;refine wI kZ ?_;have hs:=Sn;refine zz ?_;(repeat clear U K);repeat intro K U
 refine CZ l.length (fun k (_:Unit)=>[(8,eI (BL k))]) (fun _ _=>[]) (fun k _=>P4 q l 0=P4 q (l.drop k) k) () rfl rfl hs ?_;clear hs;rintro k - Z hk hn hs;have hck:BL k=k:=Ag (by omega);rcases BF l hk with⟨x,hx,hlt⟩|hke
 .have c1:=Zw hpf x
  rw[drop_cons hx,P4]at hn;cases hv:q x<;>rw[hv]at c1 hn
  .conv=>whnf
   repeat'((first|clear U K|apply st|(apply zk;intro K U)|refine zY ?_|refine BA (c1.use ?_)|fail)<;>conv=>whnf)
   exact AG (by rw[hn,if_neg (by decide),hck])
  .conv=>whnf
   repeat'((first|clear U K|apply st|(apply zk;intro K U)|refine zY ?_|refine BA (c1.use ?_)|fail)<;>conv=>whnf)
   exact⟨hlt,(),rfl,by rw[hn,if_pos rfl],hs⟩
 .refine zz ?_;(repeat clear U K);repeat intro K U
  exact AG (by rw[hn,Ao hke];rfl)
def YH {g:FuncId} {fi ca:List V} {q:Int×Int->Bool} (hpf:QJ g fi ca q) (l:List (Int×Int)) (b:Bool):Pure zP 255 [.l (pP l) b,.f (.func 256) [] [.rp [.f (.func g) fi ca]]] (.b (!l.all q)):=by
 have c1:=mO hpf l b;refine xG kZ ?_;have hs:=Sn
 conv=>whnf
 repeat'((first|clear U K|apply st|(apply zk;intro K U)|refine zY ?_|refine zC ?_|fail)<;>conv=>whnf)
 all_goals exact AG (by rw[<-Q3 q l 0])
def kR {g:FuncId} {fi ca:List V} {q:Int×Int->Bool} (hpf:QJ g fi ca q) (l:List (Int×Int)) (b:Bool):Pure zP 177 [.l (pP l) b,.f (.func g) fi ca] (.b (l.all q)):=by
 have c1:=YH hpf l b;refine yD kZ ?_;have hs:=Sn
 conv=>whnf
 repeat'((first|clear U K|apply st|(apply zk;intro K U)|refine zC ?_|fail)<;>conv=>whnf)
 all_goals exact AG (by rw[Bool.not_not])
def jb (w:AF) (hw:B3 w) (c s:Int) (hc0:3<=c) (hc1:c<3+w.parents.length) (hs0:0<=s) (hs1:s<w.owner.length):Pure zP 257 [.rp (wC w (A5 w.parents)),eI c,eI s] (.b (((A5 w.parents).getD c.toNat 0).testBit (Bc w s).toNat)):=by
 have hM:=Mx;have hwp:=hw.1.1;have hol:=hw.2.1;have hu:ra (A5 w.parents):=E9 _ _ (by have:=hw.1.1;omega);have hul:(A5 w.parents).length=3+w.parents.length:=C5 _ _;obtain⟨o,ho⟩: ∃o,w.owner[s.toNat]? =some o:=⟨_,DC (by omega)⟩
 have hoi:Bc w s=o:=by rw[Bc,C6,ho];rfl
 have hor:=hw.2.2 o (CY ho);generalize A5 w.parents=us at *
 have hup:(List.drop (c.toNat*1) (List.drop 2 (wC w us)))[0]? =some (eU (us.getD c.toNat 0)):=by
  rw[nU,nU,<-aB w us (i:=c.toNat) (by omega)];congr 1;omega
 rw[hoi]
 have c1:Pure zP 182 [eU (us.getD c.toNat 0),eI o] (.b ((us.getD c.toNat 0).testBit o.toNat)):=by
  have:=QO (us.getD c.toNat 0) o.toNat (Nh hu _) (by omega)
  rwa [Int.toNat_of_nonneg (by omega)]at this
 refine xD kZ ?_;have hs:=Sn;refine zz ?_;(repeat clear U K);repeat intro K U
 rw[hup];exact zW
def bZ {w:AF} (hw:B3 w) (hw2:GP w) {c s:Int} (hc0:3<=c) (hc1:c<3+w.parents.length) (hs0:0<=s) (hs1:s<w.owner.length):hasB w c s=((A5 w.parents).getD c.toNat 0).testBit (Bc w s).toNat:=by
 have ho:=Ih hw2 ⟨hs0,hs1⟩;rw[MY hw2.ord (by omega),hasB,decide_eq_true hc0,Cm,G0,decide_eq_true hc0,Cm];have e0:(Bc w s==0)=false:=by rw[beq_eq_false_iff_ne];omega
 have e1:((Bc w s).toNat==0)=false:=by rw[beq_eq_false_iff_ne];omega
 rw[e0,e1,Bool.false_or];by_cases h:c=Bc w s
 .rw[<-h,C9 hw2.ord];simp
 .rw[beq_eq_false_iff_ne.2 h,Bool.false_or]
def Wo (w:AF) (c:Int) (hw:B3 w) (hw2:GP w) (hc0:3<=c) (hc1:c<3+w.parents.length):Pure zP 253 [.rp (wC w (A5 w.parents)),eI c] (.l (iL (C3 w c)) false):=by
 have hM:=Mx;have hol:=hw2.tE;refine xI kZ ?_;have hs:=Sn;refine zz ?_;(repeat clear U K);repeat intro K U
 refine CZ w.owner.length (fun k v=>[(5,v),(13,eI (BL k))]) (fun k v=>[.own v 1 (iL ((BD k).filter (hasB w c)))]) (fun _ _=>True) (.l [] true) rfl trivial (Gy Sat.nil 1) ?_;clear hs;rintro k v Z hk - hs;have hfl:=Pr (hasB w c) (BD k);rw[FX]at hfl;rcases BF w.owner hk with⟨s,hso,hlt⟩|hke
 .have hck:BL k=k:=Ag (by omega)
  have c1:Pure zP 257 [.rp (wC w (A5 w.parents)),eI c,eI (BL k)] (.b (hasB w c k)):=by rw[hck,bZ hw hw2 hc0 hc1 (by omega) (by omega)];exact jb w hw c k hc0 hc1 (by omega) (by omega)
  have hst:(BD (k+1)).filter (hasB w c)=if hasB w c k then(BD k).filter (hasB w c)++[(k:Int)]else(BD k).filter (hasB w c):=by
   rw[HM,List.filter_append];cases hp:hasB w c k<;>simp[hp]
  generalize (BD k).filter (hasB w c)=zl at *;have hll:zl.length<Ae/\(zl.length+1)*8<=140737488355328:=by omega
  cases hh:hasB w c k<;>rw[hh]at c1 hst
  .conv=>whnf
   repeat'((first|clear U K|apply st|(apply zk;intro K U)|refine zY ?_|refine zC ?_|fail)<;>conv=>whnf)
   exact⟨hlt,_,rfl,trivial,by rw[hst];exact hs⟩
  .conv=>whnf
   repeat'((first|clear U K|apply st|(apply zk;intro K U)|refine zY ?_|refine aq fun v Z hs hsl=>?_|refine zC ?_|fail)<;>conv=>whnf)
   exact⟨hlt,_,rfl,trivial,by rw[hst,<-hck];exact hs⟩
 .rw[hke]at hs
  refine zz ?_;(repeat clear U K);repeat intro K U
  exact BZ (hs.HQ 0 rfl)
end Go.Gl
namespace Go.Gl
variable {P:Program} {Z:AE}
def Ar.P8 {f:FuncId} {args args':List V} {Z Z2:AE} {Q:R->AE->Prop} (h:Ar P f args' Z2 Q) (hsub:Sub Z2 Z) (hf:DQ Z Z2 args args'):Ar P f args Z Q:=by
 refine⟨h.1,fun F w cs hR hv=>?_⟩;exact Calls.mono (h.2 F w cs (hR.drop hsub) ⟨by rw[hf.length];exact hv.1,hf.rel hR hsub (fun _ _ e=>e) hv.2⟩) fun e w' ⟨r,Z',hr,h1,h2,h3⟩=>⟨r,Z',hr,h1,h2,(B9.drop w hsub).trans h3⟩
def Pure.arg {f:FuncId} {args args':List V} {v:V} (h:Pure P f args' v) (hf:DQ emp emp args args'):Pure P f args v:=Ar.P8 h (Sub.refl _) hf
def Own.tQ {v:V} {sz:Nat} {es es':List (List V)} (h:Own Z v sz es) (hR:Fm Z emp es es'):GD Z emp v (.l es' false):=by
 rcases h with⟨rfl,_⟩|⟨n,cap,rfl,hn⟩
 .exact .l (fun h=>(by cases h)) hR
 .exact .arr hn rfl rfl hR
end Go.Gl
namespace Go.Gl
open Go.Proofs
structure K9 (w:AF) (os:List Ob):Prop where
 len:os.length<=40
 own: ∀o∈os,(3:Int)<=o.1/\o.1<3+(w.parents.length:Int)
 num: ∀o∈os,o.2.length=(C3 w o.1).length
 val: ∀o∈os,∀v∈o.2,Bi os.length v=true
def bJ {w:AF} {os:List Ob} (h:Fp w os=true):K9 w os:=by
 simp only[Fp,A0,CC,DJ,NT,T9,Cd]at h;exact⟨h.1,fun o ho=>(h.2 o ho).1,fun o ho=>(h.2 o ho).2.1,fun o ho=>(h.2 o ho).2.2⟩
def ZE {w:AF} {c s:Int}:s∈C3 w c↔(0<=s/\s<(w.owner.length:Int))/\hasB w c s=true:=by
 rw[C3,JU,CK]
abbrev Ve (os:List Ob) (v:Int×Int):Ob:=os.getD v.2.toNat (0,[])
def OS (w:AF) (os:List Ob) (s:Int) (v:Int×Int):Int×Int:=(Ve os v).2.getD ((C3 w (Ve os v).1).idxOf s) (0,0)
def cz (w:AF) (os:List Ob):List Int->Int×Int->Option (Int×Int)
 | [],v=>some v
 | s::r,v=>if v.1==3&&hasB w (Ve os v).1 s then cz w os r (OS w os s v)else none
def Qc {n:Int} {v:Int×Int} (h:Bi n v=true) (h3:v.1=3):0<=v.2/\v.2<n:=by
 rw[Bi,if_neg (by omega),if_neg (by omega),if_pos h3]at h;simpa using h
def GI {os:List Ob} {v:Int×Int} (hv:Bi os.length v=true) (h3:v.1=3): ∃o,os[v.2.toNat]? =some o/\Ve os v=o/\o∈os:=by
 have:=Qc hv h3;have hl:v.2.toNat<os.length:=by omega
 exact⟨os[v.2.toNat],DC hl,by rw[Ve,C6,DC hl];rfl,List.getElem_mem hl⟩
def Qf {w:AF} {os:List Ob} {s:Int} {v:Int×Int} {o:Ob} (hos:K9 w os) (ho:Ve os v=o) (hm:o∈os) (hs:0<=s/\s<(w.owner.length:Int)) (hh:hasB w o.1 s=true) :
    ∃i,i<(C3 w o.1).length/\(C3 w o.1).idxOf s=i/\(C3 w o.1)[i]? =some s/\(∀j x,j<i->(C3 w o.1)[j]? =some x->x≠s)/\o.2[i]? =some (OS w os s v)/\Bi os.length (OS w os s v)=true:=by
 have hmem:s∈C3 w o.1:=ZE.2 ⟨hs,hh⟩;have hlt:=List.idxOf_lt_length_of_mem hmem;have hn:=hos.num o hm
 have hx:o.2[(C3 w o.1).idxOf s]? =some (OS w os s v):=by
  rw[OS,ho,C6];rw[DC (by omega)];rfl
 refine⟨_,hlt,rfl,?_,fun j x hj hjx e=>?_,hx,hos.val o hm _ (CY hx)⟩
 .rw[DC hlt,List.getElem_idxOf hlt]
 .have hjl:=(JT.1 hjx).1
  have:=List.not_of_lt_findIdx (p:=(· ==s)) (xs:=C3 w o.1) (by simpa[List.idxOf]using hj);rw[DC hjl]at hjx;have h2:=Option.some.inj hjx;rw[h2,e]at this;simp at this
def Y5 {w:AF} {os:List Ob} (hos:K9 w os): ∀ {l:List Int} {v u:Int×Int},(∀s∈l,0<=s/\s<(w.owner.length:Int))->Bi os.length v=true->cz w os l v=some u->Bi os.length u=true
 | [],v,u,_,hv,h=>by cases h;exact hv
 | s ::r,v,u,hl,hv,h=>by
   rw[cz]at h;split at h
   .rename_i hc
    simp only[A0,Cd]at hc;obtain⟨o,h1,h2,h3⟩:=GI hv hc.1;obtain⟨i,q1,q2,q3,q4,q5,q6⟩:=Qf hos h2 h3 (hl s (.head _)) (h2 ▸ hc.2);exact Y5 hos (fun s hs=>hl s (.tail _ hs)) q6 h
   .cases h
def aI (w:AF) (os:List Ob) (args:List (Int×Int)) (f:Fact):Bool:=match cz w os f.path (args.getD f.arg.toNat (0,0))with
 | none=>false
 | some v=>if f.op=2 then G0 w.parents (Cs os v) f.cls else v.1==1&&(if f.op=3 then decide (v.2<f.n)else v.2==f.n)
def H5 (w:AF) (os:List Ob) (args:List (Int×Int)) (f:Fact) (l:List Bool):Bool:=
 if f.op=1 then true else if f.op=5 then !l.getD 0 false else if f.op=6 then l.getD 0 false&&l.getD 1 false else if f.op=7 then l.getD 0 false||l.getD 1 false else aI w os args f
def Dr (w:AF) (os:List Ob) (args:List (Int×Int)) (f:Fact):Bool:=f.HU (H5 w os args)
def XD (w:AF) (os:List Ob) (args:List (Int×Int)) (f:Fact):Dr w os args f=H5 w os args f (f.kids.map (Dr w os args)):=Fact.DT (H5 w os args) f
end Go.Gl
namespace Go.Gl
open Go.Proofs
attribute [local irreducible] Ar Aj AZ AQ AL AX AP AR AJ AW AM AN Am Av Sat AT As Aa W
abbrev atE (o:Option (Int×Int)):V:= .t [.a (pI (o.getD (0,0))),.b o.isSome]
def z8 {α:Type} {l:List α} (h:l.length=2): ∃a b,l= [a,b]:=by
 match l,h with
 | [a,b],_=>exact⟨a,b,rfl⟩
def RY {w:AF} {f:Fact} (h:BN w f=true) :
    f.op=1\/(f.op=5/\ ∃a,f.kids= [a]/\BN w a=true)\/(f.op=6/\ ∃a b,f.kids= [a,b]/\BN w a=true/\BN w b=true)\/(f.op=7/\ ∃a b,f.kids= [a,b]/\BN w a=true/\BN w b=true)\/
     ((f.op=2\/f.op=3\/f.op=4)/\Bl f=true/\(∀s∈f.path,0<=s/\s<(w.owner.length:Int))/\(f.op=2->0<=f.cls/\f.cls<3+(w.parents.length:Int))/\0<=f.arg):=by
 rw[By]at h;simp only[C8,A0,DJ,Cd,CC]at h;obtain⟨⟨ho,hk,ha0,ha3,hp,-⟩,hks⟩:=h;simp only[Eo,A0,DJ,Hy,CC]at hp;by_cases h2:f.op=2
 .rw[VY,if_pos h2]at ho
  simp only[P3,A0,CC]at ho;exact .inr (.inr (.inr (.inr ⟨.inl h2,by simp[Bl,h2],hp.1,fun _=>ho.2,ha0⟩)))
 by_cases h34:f.op=3\/f.op=4
 .exact .inr (.inr (.inr (.inr ⟨.inr h34,by rcases h34 with h|h<;>simp[Bl,h],hp.1,fun h=>absurd h h2,ha0⟩)))
 rw[VY,if_neg h2,if_neg h34]at ho;simp only[Ea,Cd]at ho;rcases ho with((h1|h5)|h6)|h7
 .exact .inl h1
 .rw[CE,if_pos h5]at hk
  obtain⟨a,ha⟩:=List.length_eq_one_iff.1 hk;exact .inr (.inl ⟨h5,a,ha,hks a (by rw[ha];exact .head _)⟩)
 .rw[CE,if_neg (by omega),if_pos (.inl h6)]at hk
  obtain⟨a,b,ha⟩:=z8 hk;exact .inr (.inr (.inl ⟨h6,a,b,ha,hks a (by rw[ha];exact .head _),hks b (by rw[ha];exact .tail _ (.head _))⟩))
 .rw[CE,if_neg (by omega),if_pos (.inr h7)]at hk
  obtain⟨a,b,ha⟩:=z8 hk;exact .inr (.inr (.inr (.inl ⟨h7,a,b,ha,hks a (by rw[ha];exact .head _),hks b (by rw[ha];exact .tail _ (.head _))⟩)))
def J6: ∀(l:List Int) (a:Int) {x:Int},x∈l->x<=l.foldl Ht a
 | y ::r,a,x,h=>by
   rcases Fl.1 h with rfl|h
   .refine Int.le_trans ?_ (Fk r _)
    unfold Ht;split<;>omega
   .exact J6 r _ h
def GR {f a:Fact} (h:a∈f.kids):DE a<=DE f:=by
 rw[ED f];exact J6 _ _ (List.mem_map_of_mem h)
def RH {f:Fact} (h:Bl f=true):f.arg+1<=DE f:=by
 rw[ED f,if_pos h];exact Fk _ _
structure Ask (p:Prog) (os:List Ob) (gen:Int) (args:List (Int×Int)):Prop where
 look:(BQ p).isSome=true
 gp:K9 (AK p) os
 sG:Ja p gen=true
 len:(args.length:Int)=p.Cb.getD gen.toNat 0
 nz: ∀v∈args,Bi os.length v=true
def Y6 {p:Prog} {os:List Ob} {gen:Int} {args:List (Int×Int)} (h:Ch p os gen args=true):Ask p os gen args:=by
 simp only[Ch,A0,CC,DJ]at h;exact⟨h.1,bJ h.2.1,h.2.2.1,h.2.2.2.1,h.2.2.2.2⟩
def Ux {p:Prog} (h:(BQ p).isSome=true) {x:Na} (hx:x∈p.methods):(1<=x.kind/\x.kind<=4)/\Ct (AK p) x.fact=true/\BN (AK p) x.fact=true/\DE x.fact<=p.Cb.getD x.gen.toNat 0:=by
 have:=(EF h).2 x hx;simp only[Pt,A0,CC]at this;have hf:=this.2.2.2.2.1;simp only[Ct,A0,CC]at hf;exact⟨⟨this.1,this.2.1⟩,this.2.2.2.2.1,hf.2.2,this.2.2.2.2.2⟩
def oO (p:Prog) (os:List Ob) (gen:Int) (args:List (Int×Int)) (k:Nat):List Int:=(BD k).filter fun m=>(BO p m).gen==gen&&Dr (AK p) os args (BO p m).fact
def nH (p:Prog) (os:List Ob) (gen:Int) (args:List (Int×Int)) (k:Nat):(oO p os gen args k).length<=k:=by
 have:=Pr (fun m=>(BO p m).gen==gen&&Dr (AK p) os args (BO p m).fact) (BD k)
 rwa [FX]at this
def G1 (p:Prog) (os:List Ob) (gen:Int) (args:List (Int×Int)):List Int:=oO p os gen args p.methods.length
def Mz (p:Prog) (os:List Ob) (gen:Int) (args:List (Int×Int)):List Int×Int:=if Ch p os gen args then(G1 p os gen args,0)else([],2)
structure Pl where
 ar:List Int
 NP:Bool
 be:List Int
 pr:List Int
 prt:Bool
 af:List Int
abbrev plV (x:Pl) (g h:Bool):List V:=[.l (iL x.ar) g,.b x.NP,.l (iL x.be) g,.l (iL x.pr) g,.b x.prt,.l (iL x.af) h]
def Du (p:Prog) (l:List Int) (k:Int):List Int:=l.filter fun m=>(BO p m).kind==k
def sh:Pl:=⟨[],false,[],[],false,[]⟩
def AAZ (A:Int->Int->Bool) (p:Prog) (l:List Int):Pl:=
 ⟨(Cw A (Du p l 4).length (Du p l 4)).1,(Cw A (Du p l 4).length (Du p l 4)).2,HV A (Du p l 2).length (Kp (Du p l 2)),(Cw A (Du p l 1).length (Du p l 1)).1,(Cw A (Du p l 1).length (Du p l 1)).2,(HV A (Du p l 3).length (Kp (Du p l 3))).reverse⟩
def EH (A:Int->Int->Bool) (p:Prog) (l:List Int):Pl×Bool:=if(Du p l 1).isEmpty then(sh,false)else(AAZ A p l,true)
end Go.Gl
namespace Go.Gl
open Go.Proofs
structure WA (p:Prog) (l:List Int):Prop where
 L3: ∀x∈l,Bb p x=true
 gen: ∀x∈l,∀y∈l,(BO p x).gen=(BO p y).gen
 nodup:l.Nodup
 many:l.length<=16
def MF {p:Prog} {l:List Int} {k x:Int} (h:x∈Du p l k):x∈l/\(BO p x).kind=k:=by
 have:=JU.1 h;exact⟨this.1,by simpa using this.2⟩
def pR {p:Prog} {l:List Int} {k:Int}:(Du p l k).length<=l.length:=Pr _ _
def WA.of {p:Prog} {l:List Int} (h:WA p l) (k:Int):US p (Du p l k)/\(Du p l k).Nodup:=by
 refine⟨⟨fun x hx=>h.L3 x (MF hx).1,fun x hx y hy=>?_,Nat.le_trans pR h.many⟩,h.nodup.sublist (List.filter_sublist ..)⟩;rw[LO,h.gen x (MF hx).1 y (MF hy).1,(MF hx).2,(MF hy).2];simp
def dB.sub {T:List (List Bool)} {l l':List Int} (h:dB T l) (hs: ∀x∈l',x∈l) (hl:l'.length<=l.length):dB T l':=⟨h.len,h.sq,fun x hx=>h.ins x (hs x hx),Nat.le_trans hl h.many⟩
attribute [local irreducible] Ar Aj AZ AQ AL AX AP AR AJ AW AM AN Am Av Sat AT As Aa W
end Go.Gl
namespace Go.Gl
open Go.Proofs
attribute [local irreducible] Ar Aj AZ AQ AL AX AP AR AJ AW AM AN Am Av Sat AT As Aa W
def lu {p:Prog} {l:List Int} {k:Nat} {x:Int} (hx:l[k]? =some x) (kd:Int):Du p (l.take (k+1)) kd=if(BO p x).kind==kd then Du p (l.take k) kd++[x]else Du p (l.take k) kd:=by
 rw[AU hx,Du,List.filter_append];cases hp:(BO p x).kind==kd<;>simp[Du,hp]
def Mj {p:Prog} {l:List Int} {k:Nat} {kd:Int} (h:l.length<=16):(Du p (l.take k) kd).length<=16:=by
 have:=Pr (fun m=>(BO p m).kind==kd) (l.take k);rw[Lq]at this;simp only[Du];omega
def jG (p:Prog) (L:Nat) (l:List Int) (f:Bool) (h:(BQ p).isSome=true) (hG:WA p l) (M:List (Int×Int)) :
    BS zP 124 [Ls p L,.l (iL l) f] [.map L (K8 p M)] fun r post=>r= .ret (.t [.a (plV (EH (Au p) p l).1 true (!(EH (Au p) p l).2)),.b (EH (Au p) p l).2])/\ ∃M',post= [.map L (K8 p M')]:=by
 intro Z hs;have hM:=Mx;have hok:=look_ok h;have hgw:=QB h;have hfm:=qc h;have h16:=hG.many;have hm16:=hok.many;generalize hX:EH (Au p) p l=X;refine yn kZ ?_
 conv=>whnf
 repeat'((first|clear U K|apply st|(apply zk;intro K U)|refine zo fun nn hnn Z hs=>?_|fail)<;>conv=>whnf)
 rename_i n4 _ _ _;clear hnn;refine CZ l.length (fun k (_:V×V×V×V)=>[(13,eI (BL k))]) (fun k x=>[.own x.1 1 (iL (Du p (l.take k) 1)),.own x.2.1 1 (iL (Du p (l.take k) 2)),.own x.2.2.1 1 (iL (Du p (l.take k) 3)),.own x.2.2.2 1 (iL (Du p (l.take k) 4)),.box nn [.l [] true,x.1,x.2.1,x.2.2.1,x.2.2.2],.box n4 [.l [] true,.b false,.l [] true,.l [] true,.b false,.l [] true],.map L (K8 p M)]) (fun _ _=>True) (.l [] true,.l [] true,.l [] true,.l [] true) rfl trivial (Db (Db (Db (Db hs 1) 1) 1) 1) ?_;clear hs;rintro k ⟨v1,v2,v3,v4⟩ Z hk - hs;dsimp only at hs;dsimp only;rcases BF l hk with⟨x,hx,hlt⟩|hke
 .have hmx:=hG.L3 x (CY hx)
  have hxm:=CX hmx;obtain⟨hkr,-⟩:=Ux h (CY hxm);have hst:=lu (p:=p) hx;simp only[Bb,A0,CC]at hmx;have l1:(Du p (l.take k) 1).length<=16:=Mj h16;have l2:(Du p (l.take k) 2).length<=16:=Mj h16;have l3:(Du p (l.take k) 3).length<=16:=Mj h16;have l4:(Du p (l.take k) 4).length<=16:=Mj h16;have s1:=hst 1;have s2:=hst 2;have s3:=hst 3;have s4:=hst 4;clear hst;generalize BO p x=y at *;generalize Du p (l.take k) 1=z1 at *;generalize Du p (l.take k) 2=z2 at *;generalize Du p (l.take k) 3=z3 at *;generalize Du p (l.take k) 4=z4 at *;obtain⟨kd,gn,fc,nd⟩:=y;dsimp only at hkr s1 s2 s3 s4;rcases(show kd=1\/kd=2\/kd=3\/kd=4 by omega)with rfl|rfl|rfl|rfl
  .rw[if_pos (beq_self_eq_true _)]at s1
   rw[if_neg (by decide)]at s2 s3 s4;have hll:z1.length<Ae/\(z1.length+1)*8<=140737488355328:=by omega
   clear l1 l2 l3 l4
   conv=>whnf
   repeat'((first|clear U K|apply st|(apply zk;intro K U)|refine zY ?_|refine zs fun Z hs=>?_|refine aq fun v Z hs hsl=>?_|refine zZ (j:=1) ?_ (by decide) (by decide)|fail)<;>conv=>whnf)
   exact⟨hlt,(v,v2,v3,v4),rfl,trivial,by rw[s1,s2,s3,s4];exact hs⟩
  .rw[if_pos (beq_self_eq_true _)]at s2
   rw[if_neg (by decide)]at s1 s3 s4;have hll:z2.length<Ae/\(z2.length+1)*8<=140737488355328:=by omega
   clear l1 l2 l3 l4
   conv=>whnf
   repeat'((first|clear U K|apply st|(apply zk;intro K U)|refine zY ?_|refine zs fun Z hs=>?_|refine aq fun v Z hs hsl=>?_|refine zZ (j:=2) ?_ (by decide) (by decide)|fail)<;>conv=>whnf)
   exact⟨hlt,(v1,v,v3,v4),rfl,trivial,by rw[s1,s2,s3,s4];exact hs⟩
  .rw[if_pos (beq_self_eq_true _)]at s3
   rw[if_neg (by decide)]at s1 s2 s4;have hll:z3.length<Ae/\(z3.length+1)*8<=140737488355328:=by omega
   clear l1 l2 l3 l4
   conv=>whnf
   repeat'((first|clear U K|apply st|(apply zk;intro K U)|refine zY ?_|refine zs fun Z hs=>?_|refine aq fun v Z hs hsl=>?_|refine zZ (j:=3) ?_ (by decide) (by decide)|fail)<;>conv=>whnf)
   exact⟨hlt,(v1,v2,v,v4),rfl,trivial,by rw[s1,s2,s3,s4];exact hs⟩
  .rw[if_pos (beq_self_eq_true _)]at s4
   rw[if_neg (by decide)]at s1 s2 s3;have hll:z4.length<Ae/\(z4.length+1)*8<=140737488355328:=by omega
   clear l1 l2 l3 l4
   conv=>whnf
   repeat'((first|clear U K|apply st|(apply zk;intro K U)|refine zY ?_|refine zs fun Z hs=>?_|refine aq fun v Z hs hsl=>?_|refine zZ (j:=4) ?_ (by decide) (by decide)|fail)<;>conv=>whnf)
   exact⟨hlt,(v1,v2,v3,v),rfl,trivial,by rw[s1,s2,s3,s4];exact hs⟩
 .rw [BC hke]at hs
  obtain⟨o1,d1⟩:=hG.of 1;obtain⟨o2,d2⟩:=hG.of 2;obtain⟨o3,d3⟩:=hG.of 3;obtain⟨o4,d4⟩:=hG.of 4;have hpl:EH (Au p) p l=if(Du p l 1).isEmpty then(sh,false)else(⟨(Cw (Au p) (Du p l 4).length (Du p l 4)).1,(Cw (Au p) (Du p l 4).length (Du p l 4)).2,HV (Au p) (Du p l 2).length (Kp (Du p l 2)),(Cw (Au p) (Du p l 1).length (Du p l 1)).1,(Cw (Au p) (Du p l 1).length (Du p l 1)).2,(HV (Au p) (Du p l 3).length (Kp (Du p l 3))).reverse⟩,true):=rfl
  rw[hpl]at hX;clear hpl;have e4:=fun M=>cG p L (Du p l 4) false hok hgw hfm o4 d4 M
  have e2:=fun M=>fq p L (Du p l 2) false hok hgw hfm o2 d2 M
  have e1:=fun M=>cG p L (Du p l 1) false hok hgw hfm o1 d1 M
  have e3:=fun M=>Z4 p L (Du p l 3) false hok hgw hfm o3 d3 M
  rw[S5 d2]at e2;rw[S5 d3]at e3;have hl1:=o1.many
  have hbl:(HV (Au p) (Du p l 3).length (Kp (Du p l 3))).length<=16:=by
   have: ∀k l,(HV (Au p) k l).length=k:=fun k=>by
    induction k with
    | zero=>intro l;rfl
    | succ k ih=>intro l;simp only[HV,Lr,ih]
   rw[this];exact o3.many
  clear o1 o2 o3 o4 d1 d2 d3 d4 hG;generalize HV (Au p) (Du p l 3).length (Kp (Du p l 3))=xs at *;generalize HV (Au p) (Du p l 2).length (Kp (Du p l 2))=bs at *;generalize Cw (Au p) (Du p l 4).length (Du p l 4)=q4 at *;generalize Cw (Au p) (Du p l 1).length (Du p l 1)=q1 at *;generalize Du p l 1=l1 at *;generalize Du p l 2=l2 at *;generalize Du p l 3=l3 at *;generalize Du p l 4=l4 at *;obtain⟨r4,t4⟩:=q4;obtain⟨r1,t1⟩:=q1;dsimp only at e1 e4;by_cases hz:l1.length=0
  .have he:l1.isEmpty=true:=by simpa using hz
   rw[he,if_pos rfl]at hX;subst hX
   conv=>whnf
   repeat'((first|clear U K|apply st|(apply zk;intro K U)|refine zY ?_|(refine zb (fun hc=>?_) (fun hc=>?_)<;>try exact⟨⟩)|refine zo fun nn hnn Z hs=>?_|fail)<;>conv=>whnf)
   refine Jo hs 6 rfl rfl rfl (by simp) (by decide) fun Z hs=>?_
   refine zz ?_;(repeat clear U K);repeat intro K U
   refine WE hs 6 rfl ?_;refine zz ?_;(repeat clear U K);repeat intro K U
   exact Aw (hs.front (j:=7) rfl) (.cons₂ _ (O4 _)) (.refl _) fun Z' hs'=>⟨_,⟨rfl,M,rfl⟩,hs'⟩
  .have he:l1.isEmpty=false:=by cases l1 with
    | nil=>simp at hz
    | cons=>rfl
   rw[he,if_neg (by decide)]at hX;subst hX
   conv=>whnf
   repeat'((first|clear U K|apply st|(apply zk;intro K U)|refine zY ?_|(refine zb (fun hc=>?_) (fun hc=>?_)<;>try exact⟨⟩)|refine zo fun nn hnn Z hs=>?_|fail)<;>conv=>whnf)
   obtain⟨Z2,g1,g2,g3⟩:=JC hs 4 rfl;refine Ar.P8 ((e4 M).use (rest:=_) (g3.front (j:=6) rfl) ?_) g1 (.cons (.refl _) (.cons g2 .nil));clear hs g1 g2 g3;rintro r post Z ⟨rfl,M,rfl⟩ hs
   conv=>whnf
   repeat'((first|clear U K|apply st|(apply zk;intro K U)|refine zY ?_|refine zs fun Z hs=>?_|fail)<;>conv=>whnf)
   obtain⟨Z2,g1,g2,g3⟩:=JC hs 3 rfl;refine Ar.P8 ((e2 M).use (rest:=_) g3 ?_) g1 (.cons (.refl _) (.cons g2 .nil));clear hs g1 g2 g3;rintro r post Z ⟨rfl,M,rfl⟩ hs
   conv=>whnf
   repeat'((first|clear U K|apply st|(apply zk;intro K U)|refine zY ?_|refine zs fun Z hs=>?_|fail)<;>conv=>whnf)
   obtain⟨Z2,g1,g2,g3⟩:=JC hs 2 rfl;refine Ar.P8 ((e1 M).use (rest:=_) g3 ?_) g1 (.cons (.refl _) (.cons g2 .nil));clear hs g1 g2 g3;rintro r post Z ⟨rfl,M,rfl⟩ hs
   conv=>whnf
   repeat'((first|clear U K|apply st|(apply zk;intro K U)|refine zY ?_|refine zs fun Z hs=>?_|fail)<;>conv=>whnf)
   obtain⟨Z2,g1,g2,g3⟩:=JC hs 2 rfl;refine Ar.P8 ((e3 M).use (rest:=_) g3 ?_) g1 (.cons (.refl _) (.cons g2 .nil));clear hs g1 g2 g3;rintro r post Z ⟨v,M,rfl,rfl,hv⟩ hs
   conv=>whnf
   repeat'((first|clear U K|apply st|(apply zk;intro K U)|refine zY ?_|refine zs fun Z hs=>?_|fail)<;>conv=>whnf)
   refine(dj xs v (by omega) hv).use (rest:=_) hs ?_;clear hs;rintro r post Z ⟨rfl,rfl⟩ hs;refine zz ?_;(repeat clear U K);repeat intro K U
   have o1:=Ic hs 0 rfl;refine Jo hs 4 rfl rfl rfl (by simp[o1]) (by decide) fun Z hs=>?_
   clear o1;refine zz ?_;(repeat clear U K);repeat intro K U
   obtain⟨Z2,g1,g2,g3⟩:=JC hs 0 rfl;exact Is g1 (.t (.cons (.a (.cons (.refl _) (.cons (.refl _) (.cons (.refl _) (.cons (.refl _) (.cons (.refl _) (.cons g2 .nil))))))) (.cons (.refl _) .nil))) ⟨_,⟨rfl,M,rfl⟩,g3.less (.cons₂ _ (O4 _))⟩
def QK (g:FuncId) (fi ca:List V) (q:Ob->Bool):Prop:= ∀v,Pure zP g (fi++[.a (Gt v)]++ca) (.b (q v))
def QK.use {g:FuncId} {fi ca:List V} {q:Ob->Bool} (h:QK g fi ca q) {v:Ob} {Z:AE} {k kp:V->AE->Prop} (hk:k (.b (q v)) Z):Am zP (.f (.func g) fi ca) [.a (Gt v)] Z (qk k kp):=BA ((h v).use hk)
def Zv {g:FuncId} {fi ca:List V} {q:Ob->Bool} (hpf:QK g fi ca q) (v:Ob):Pure zP 308 [.a (Gt v),.rp [.f (.func g) fi ca]] (.b (!q v)):=by
 refine wJ kZ ?_;have hs:=Sn
 conv=>whnf
 repeat'((first|clear U K|apply st|(apply zk;intro K U)|refine zY ?_|refine QK.use hpf ?_|fail)<;>conv=>whnf)
 all_goals exact AG rfl
def mN {g:FuncId} {fi ca:List V} {q:Ob->Bool} (hpf:QK g fi ca q) (l:List Ob) (b:Bool):Pure zP 337 [.l (l.map Gt) b,.f (.func 308) [] [.rp [.f (.func g) fi ca]]] (eI (P4 q l 0)):=by
 refine Pure.fit (by kernel_rfl) fun hf=>?_
 have hl:l.length<=Ae:=by
  have:=hf.1;simp only[E4,Ca]at this;exact this.1
 have hM:=Mx;refine vY kZ ?_;have hs:=Sn;refine zz ?_;(repeat clear U K);repeat intro K U
 refine CZ l.length (fun k (_:Unit)=>[(8,eI (BL k))]) (fun _ _=>[]) (fun k _=>P4 q l 0=P4 q (l.drop k) k) () rfl rfl hs ?_;clear hs;rintro k - Z hk hn hs;have hck:BL k=k:=Ag (by omega);rcases BF l hk with⟨x,hx,hlt⟩|hke
 .have c1:=Zv hpf x
  rw[drop_cons hx,P4]at hn;cases hv:q x<;>rw[hv]at c1 hn
  .conv=>whnf
   repeat'((first|clear U K|apply st|(apply zk;intro K U)|refine zY ?_|refine BA (c1.use ?_)|fail)<;>conv=>whnf)
   exact AG (by rw[hn,if_neg (by decide),hck])
  .conv=>whnf
   repeat'((first|clear U K|apply st|(apply zk;intro K U)|refine zY ?_|refine BA (c1.use ?_)|fail)<;>conv=>whnf)
   exact⟨hlt,(),rfl,by rw[hn,if_pos rfl],hs⟩
 .refine zz ?_;(repeat clear U K);repeat intro K U
  exact AG (by rw[hn,Ao hke];rfl)
def YG {g:FuncId} {fi ca:List V} {q:Ob->Bool} (hpf:QK g fi ca q) (l:List Ob) (b:Bool):Pure zP 307 [.l (l.map Gt) b,.f (.func 308) [] [.rp [.f (.func g) fi ca]]] (.b (!l.all q)):=by
 have c1:=mN hpf l b;refine wK kZ ?_;have hs:=Sn
 conv=>whnf
 repeat'((first|clear U K|apply st|(apply zk;intro K U)|refine zY ?_|refine zC ?_|fail)<;>conv=>whnf)
 all_goals exact AG (by rw[<-Q3 q l 0])
def y7 {g:FuncId} {fi ca:List V} {q:Ob->Bool} (hpf:QK g fi ca q) (l:List Ob) (b:Bool):Pure zP 251 [.l (l.map Gt) b,.f (.func g) fi ca] (.b (l.all q)):=by
 have c1:=YG hpf l b;refine xJ kZ ?_;have hs:=Sn
 conv=>whnf
 repeat'((first|clear U K|apply st|(apply zk;intro K U)|refine zC ?_|fail)<;>conv=>whnf)
 all_goals exact AG (by rw[Bool.not_not])
def Zx (os:List Ob) (f:Bool) (v:Int×Int):Pure zP 254 [.a (pI v),.rp [.l (os.map Gt) f]] (.b (Bi os.length v)):=by
 have e3:((os.map Gt).length:Int)=os.length:=by simp
 have c1:Pure zP 179 [.a (pI v),eI ((os.map Gt).length:Int)] (.b (Bi os.length v)):=by rw[e3];exact Wd v os.length
 refine xH kZ ?_;have hs:=Sn;exact zW
def Zy (w:AF) (hw:B3 w) (hw2:GP w) (os:List Ob) (f:Bool) (o:Ob):Pure zP 252 [.a (Gt o),.rp [.rp (wC w (A5 w.parents))],.rp [.l (os.map Gt) f]] (.b (NT w os.length o)):=by
 refine Pure.fit (by kernel_rfl) fun hf=>?_
 have hM:=Mx;have c1:Pure zP 247 [.rp (wC w (A5 w.parents)),eI o.1] (.b (T9 w o.1)):=pG w (A5 w.parents) o.1 hw2.len;have c3:=kR (g:=254) (fi:=[]) (ca:=[.rp [.l (os.map Gt) f]]) (Zx os f) o.2 false;cases ho:T9 w o.1<;>rw[ho]at c1
 .refine Yw kZ ?_
  have hs:=Sn
  conv=>whnf
  repeat'((first|clear U K|apply st|(apply zk;intro K U)|refine rk ?_ ?_|exact fun s e=>by cases e;rfl|refine zC ?_|fail)<;>conv=>whnf)
  all_goals exact AG (by rw[NT,ho];rfl)
 .have hor:=ho
  simp only[T9,A0,CC]at hor;have c2:=Wo w o.1 hw hw2 hor.1 hor.2;have hob:NT w os.length o=(o.2.length==(C3 w o.1).length&&o.2.all (Bi os.length)):=by rw[NT,ho,Cm]
  rw[hob];clear hob;generalize C3 w o.1=ss at *;by_cases he:o.2.length=ss.length
  .rw[Cd.2 he,Cm]
   refine Yw kZ ?_;have hs:=Sn
   conv=>whnf
   repeat'((first|clear U K|apply st|(apply zk;intro K U)|refine zY ?_|refine rk ?_ ?_|exact fun s e=>by cases e;rfl|refine zC ?_|(refine zb (fun hc=>?_) (fun hc=>?_)<;>try exact⟨⟩)|fail)<;>conv=>whnf)
   all_goals first
    | exact AG rfl
    | (exfalso;simp[he]at hc;done)
    | (exfalso;simp at hc;omega)
  .rw[beq_eq_false_iff_ne.2 he,Bool.false_and]
   refine Yw kZ ?_;have hs:=Sn
   conv=>whnf
   repeat'((first|clear U K|apply st|(apply zk;intro K U)|refine zY ?_|refine rk ?_ ?_|exact fun s e=>by cases e;rfl|refine zC ?_|(refine zb (fun hc=>?_) (fun hc=>?_)<;>try exact⟨⟩)|fail)<;>conv=>whnf)
   all_goals first
    | exact AG rfl
    | (exfalso;simp at hc;omega)
def dW (w:AF) (hw:B3 w) (hw2:GP w) (os:List Ob) (f:Bool):Pure zP 176 [.rp (wC w (A5 w.parents)),.l (os.map Gt) f] (.b (Fp w os)):=by
 refine Pure.fit (by kernel_rfl) fun hf=>?_
 have hM:=Mx;have c1:=y7 (g:=252) (fi:=[]) (ca:=[.rp [.rp (wC w (A5 w.parents))],.rp [.l (os.map Gt) f]]) (Zy w hw hw2 os f) os f;by_cases h40:os.length<=40
 .have e0:Fp w os=os.all (NT w os.length):=by rw[Fp,decide_eq_true h40,Cm]
  rw[e0];refine kA kZ ?_;have hs:=Sn;exact zW
 .refine kA kZ ?_
  have hs:=Sn
  conv=>whnf
  repeat'((first|clear U K|apply st|(apply zk;intro K U)|refine zY ?_|(refine zb (fun hc=>?_) (fun hc=>?_)<;>try exact⟨⟩)|fail)<;>conv=>whnf)
  all_goals exact AG (by rw[Fp,decide_eq_false h40];rfl)
def Kw (w:AF) (os:List Ob) (args:List (Int×Int)):Bool:=Fp w os&&(decide (1<=args.length)&&(decide (args.length<=3)&&args.all (Bi os.length)))
def TU (w:AF) (hw:B3 w) (hw2:GP w) (os:List Ob) (f:Bool) (args:List (Int×Int)) (g:Bool):Pure zP 119 [.rp (wC w (A5 w.parents)),.l (os.map Gt) f,.l (pP args) g] (.b (Kw w os args)):=by
 refine Pure.fit (by kernel_rfl) fun hf=>?_
 have hM:=Mx;have c1:=dW w hw hw2 os f;have c2:=kR (g:=178) (fi:=[]) (ca:=[.rp [.l (os.map Gt) f]]) (Zz os f) args g;rw[Kw];cases ho:Fp w os<;>rw[ho]at c1
 .refine Uf kZ ?_
  have hs:=Sn;exact zW
 .by_cases h1:1<=args.length
  .by_cases h3:args.length<=3
   .rw[decide_eq_true h1,decide_eq_true h3,Cm,Cm,Cm]
    refine Uf kZ ?_;have hs:=Sn;exact zW
   .rw[decide_eq_true h1,decide_eq_false h3,Cm,Bool.false_and,Bool.and_false]
    refine Uf kZ ?_;have hs:=Sn;exact zW
  .rw[decide_eq_false h1,Bool.false_and,Bool.and_false]
   refine Uf kZ ?_;have hs:=Sn;exact zW
def bt {x:Int}: ∀(xs:List Int) (k i:Nat),xs[i]? =some x->(∀j y,j<i->xs[j]? =some y->y≠x)->(Bj (fun y (_:Unit)=>(x==y,())) xs k ()).1=((k+i:Nat):Int)
 | [],_,_,h,_=>by simp at h
 | y::r,k,0,h,_=>by
   obtain rfl:y=x:=by simpa using h
   simp[Bj]
 | y::r,k,i+1,h,hn=>by
   have hy:=hn 0 y (Nat.succ_pos i) rfl;rw[Bj,if_neg (by simpa using fun e:x=y=>hy e.symm)];rw[bt r (k+1) i (by simpa using h) fun j z hj hz=>hn (j+1) z (by omega) (by simpa using hz)];omega
def ABd (w:AF) (os:List Ob) (f:Bool) (v:Int×Int) (l:List Int) (g:Bool) (hg:B3 w) (hw:GP w) (hos:K9 w os) (hv:Bi os.length v=true) (hl: ∀s∈l,0<=s/\s<(w.owner.length:Int)) :
    Pure zP 181 [.rp (wC w (A5 w.parents)),.l (os.map Gt) f,.a (pI v),.l (iL l) g] (atE (cz w os l v)):=by
 refine Pure.fit (by kernel_rfl) fun hf=>?_
 have hll:=Sl hf.2.2.2.1;have hM:=Mx;have ho4:=hos.len;have hol:=hw.tE;refine x9 kZ ?_;have hs:=Sn
 conv=>whnf
 repeat'((first|clear U K|apply st|(apply zk;intro K U)|refine zo fun nn hnn Z hs=>?_|fail)<;>conv=>whnf)
 rename_i nV _ _ _;refine CZ l.length (fun k (_:Int×Int)=>[(14,eI (BL k))]) (fun _ v=>[.box nn [eI 0,eI 0],.box nV (pI v)]) (fun k u=>Bi os.length u=true/\cz w os l v=cz w os (l.drop k) u) v rfl ⟨hv,rfl⟩ hs ?_;clear hs;rintro k ⟨vk,vn⟩ Z hk ⟨hu,hn⟩ hs;rcases BF l hk with⟨s,hsl,hlt⟩|hke
 .have hsr:=hl s (CY hsl)
  rw[drop_cons hsl,cz]at hn;by_cases h3:vk=3
  .obtain⟨o,ho1,ho2,ho3⟩:=GI hu h3
   have hoo:=hos.own o ho3;have hnr:=Qc hu h3;dsimp only at ho1 ho2 hnr;have c1:=jb w hg o.1 s hoo.1 hoo.2 hsr.1 hsr.2;rw[<-bZ hg hw hoo.1 hoo.2 hsr.1 hsr.2]at c1;rw[ho2,show((vk,vn).1==3)=true by simp[h3],Cm]at hn;cases hh:hasB w o.1 s<;>rw[hh]at c1 hn
   .rw[if_neg (by decide)]at hn
    conv=>whnf
    repeat'((first|clear U K|apply st|(apply zk;intro K U)|refine zY ?_|refine zs fun Z hs=>?_|refine zC ?_|(refine zb (fun hc=>?_) (fun hc=>?_)<;>try exact⟨⟩)|fail)<;>conv=>whnf)
    all_goals exact AG (by rw[hn];rfl)
   .rw[if_pos rfl]at hn
    obtain⟨i,q1,q2,q3,q4,q5,q6⟩:=Qf hos ho2 ho3 hsr hh;have c2:=Wo w o.1 hg hw hoo.1 hoo.2;have c3:=XC (C3 w o.1) false s;rw[show gw (C3 w o.1) s=(i:Int) by rw[gw,bt _ 0 i q3 q4,Gu]]at c3;have q5':o.2[((i:Nat):Int).toNat]? =some (OS w os s (vk,vn)):=q5;generalize OS w os s (vk,vn)=u2 at *;generalize C3 w o.1=ss at *;clear q2 q3 q4 q5
    conv=>whnf
    repeat'((first|clear U K|apply st|(apply zk;intro K U)|refine zY ?_|refine rk ?_ ?_|exact fun s e=>by cases e;rfl|refine zs fun Z hs=>?_|refine zC ?_|(refine zb (fun hc=>?_) (fun hc=>?_)<;>try exact⟨⟩)|fail)<;>conv=>whnf)
    exact⟨hlt,u2,rfl,⟨q6,hn⟩,hs⟩
  .rw[show((vk,vn).1==3)=false by simp[h3],Bool.false_and,if_neg (by decide)]at hn
   conv=>whnf
   repeat'((first|clear U K|apply st|(apply zk;intro K U)|refine zY ?_|refine zs fun Z hs=>?_|(refine zb (fun hc=>?_) (fun hc=>?_)<;>try exact⟨⟩)|fail)<;>conv=>whnf)
   all_goals exact AG (by rw[hn];rfl)
 .rw[Ao hke,cz]at hn
  conv=>whnf
  repeat'((first|clear U K|apply st|(apply zk;intro K U)|refine zY ?_|refine zs fun Z hs=>?_|fail)<;>conv=>whnf)
  all_goals exact AG (by rw[hn];rfl)
end Go.Gl
