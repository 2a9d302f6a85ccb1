import Derived.Test.YtnidfcmdimehdaaGreatV14
import Derived.Test.YtnidfcmdimehdaaGreatV20
import Derived.Test.YtnidfcmdimehdaaGreatV24
import Derived.Test.YtnidfcmdimehdaaGreatV25
import Derived.Test.YtnidfcmdimehdaaGreatV28
import Derived.Test.YtnidfcmdimehdaaGreatV29
set_option linter.all false
set_option linter.defProp false
set_option maxHeartbeats 8000000
noncomputable section
namespace Go.Gl
open Go.Proofs
attribute [local irreducible] Av An Af AQ AL Ac AP AS AK Ab AN AO As A3 Sat AV A0 Ag W
def SU (xs:List Int) (f:Bool):Pure zP 264 [.l (iL xs) f] (.f (.func 303) [] [.rp [.l (iL xs) f]]):=by
 refine uh kZ ?_;have hs:=Sn;exact zW
def mq (xs:List Int) (f:Bool) (hxl:xs.length<=1000) {S:Type} {fn:Fn} {fi ca:List V} {H:S->List At} (Inv:Nat->S->Prop) {s:S} (h0:Inv 0 s)
    (hT: ∀(k:Nat) s y,xs[k]? =some y->Inv k s-> ∀Z:AE,Sat Z (H s)->As zP (.f fn fi ca) [eI y] Z fun r Z'=> ∃s',r= .ret (.b true)/\Inv (k+1) s'/\Sat Z' (H s')) (Z:AE) (hs:Sat Z (H s)) :
    Av zP 303 [.f fn fi ca,.rp [.l (iL xs) f]] Z fun r Z'=> ∃s',r= .ret (.t [])/\Inv xs.length s'/\Sat Z' (H s'):=by
 have hM:=Mx;refine uM kZ ?_;refine zz ?_;(repeat clear U K);repeat intro K U
 refine Cn xs.length (fun k (_:S)=>[(7,eI (BR k))]) (fun _ s'=>H s') (fun k s'=>Inv k s') s rfl h0 hs ?_;clear hs;rintro k s' Z hk ho hs;rcases BK xs hk with⟨y,hy,hlt⟩|hke
 .have hT':=hT k s' y hy ho
  refine zz ?_;(repeat clear U K);repeat intro K U
  refine(hT' Z hs).mono ?_;rintro r Z ⟨s2,rfl,hi2,hs⟩;refine zz ?_;(repeat clear U K);repeat intro K U
  exact⟨hlt,_,rfl,hi2,hs⟩
 .rw[hke]at ho
  refine zz ?_;(repeat clear U K);repeat intro K U
  exact AH ⟨_,rfl,ho,hs⟩
def eP (xs:List Int) (f:Bool) (hxl:xs.length<=1000):BO zP 316 [.l [] true,.f (.func 303) [] [.rp [.l (iL xs) f]]] [] fun r post=> ∃v,r= .ret v/\post= [.own v 1 (iL xs)]/\((CR v).isSome=true\/(v= .l [] true/\xs= [])):=by
 intro Z hs;have hM:=Mx;refine uH kZ ?_
 conv=>whnf
 repeat'((first|clear U K|apply st|(apply zk;intro K U)|refine zo fun nn hnn Z hs=>?_|fail)<;>conv=>whnf)
 rename_i nb _ _ _;clear hnn
 revert hs
 generalize hE:([(2,V.p nb 0)]:Env)=E;generalize hk:Bg _ _ _ _=ok;intro hs;refine Av.mono (mq xs f hxl (fn:= .yield nn) (fi:=[]) (ca:=[]) (H:=fun s:V×List Int=> .obj nn (.loop .ready E ok):: [.box nb [s.1],.own s.1 1 (iL s.2)]) (fun k s=>s.2=xs.take k/\(1<=k->(CR s.1).isSome=true)/\(k=0->s.1= .l [] true)) (s:=(.l [] true,[])) ⟨rfl,fun h=>by omega,fun _=>rfl⟩ ?_ Z ((DF hs 1).perm (JX _ _ _ _))) ?_
 .clear hs
  subst hE hk;rintro k ⟨v,ys⟩ y hy ⟨h1,h2,h3⟩ Z hs;dsimp only at h1 h2 h3 hs;have hkl:k<xs.length:=(JM.1 hy).1;have hyl:ys.length=k:=by rw[h1,Lv];omega
  have hll:ys.length<Ad/\(ys.length+1)*8<=140737488355328:=by omega
  refine xV (XO (l:=[.box nb [v],.own v 1 (iL ys)]) rfl hs ?_);clear hs;intro Z hs
  conv=>whnf
  repeat'((first|clear U K|apply st|(apply zk;intro K U)|refine zY ?_|refine zs fun Z hs=>?_|refine aq fun v Z hs hsl=>?_|fail)<;>conv=>whnf)
  intro hn;exact⟨(v,ys++[y]),rfl,⟨by rw[AU hy,h1],fun _=>hsl,fun h=>by omega⟩,hs.mf hn⟩
 .clear hs
  rintro r Z ⟨⟨v,ys⟩,rfl,⟨h1,h2,h3⟩,hs⟩;dsimp only at h1 h2 h3 hs;refine Mf hs fun Z hs=>?_
  refine zz ?_;(repeat clear U K);repeat intro K U
  rw[List.take_length]at h1;subst h1;refine Ay hs (OS _ _) (.refl _) fun Z' hs'=>⟨_,⟨v,rfl,rfl,?_⟩,hs'⟩
  rcases Nat.eq_zero_or_pos ys.length with h|h
  .exact .inr ⟨h3 h,Xy.1 h⟩
  .exact .inl (h2 h)
def eE (xs:List Int) (f:Bool) (hxl:xs.length<=1000):BO zP 302 [.f (.func 303) [] [.rp [.l (iL xs) f]]] [] fun r post=> ∃v,r= .ret v/\post= [.own v 1 (iL xs)]/\((CR v).isSome=true\/(v= .l [] true/\xs= [])):=by
 intro Z hs;refine uN kZ ?_
 conv=>whnf
 repeat'((first|clear U K|apply st|(apply zk;intro K U)|fail)<;>conv=>whnf)
 refine(eP xs f hxl).use (rest:=[]) (by simpa using hs) ?_;clear hs;rintro r post Z ⟨v,rfl,rfl,hv⟩ hs;refine zz ?_;(repeat clear U K);repeat intro K U
 exact Ay hs (List.sublist_append_left _ _) (.refl _) fun Z' hs'=>⟨_,⟨v,rfl,rfl,hv⟩,hs'⟩
def SX (xs:List Int) (f:Bool) (hxl:xs.length<=1000):Pure zP 263 [.f (.func 303) [] [.rp [.l (iL xs) f]]] (.l (iL (xs.mergeSort HZ)) false):=by
 refine ui kZ ?_;have hs:=Sn
 conv=>whnf
 repeat'((first|clear U K|apply st|(apply zk;intro K U)|fail)<;>conv=>whnf)
 refine(eE xs f hxl).use (rest:=[]) (by simpa using hs) ?_;clear hs;rintro r post Z ⟨v,rfl,rfl,hv⟩ hs
 conv=>whnf
 repeat'((first|clear U K|apply st|(apply zk;intro K U)|fail)<;>conv=>whnf)
 refine(ft hv).use (rest:=[]) hs ?_;clear hs;rintro r post Z ⟨rfl,rfl⟩ hs;refine zz ?_;(repeat clear U K);repeat intro K U
 exact Be (hs.Ha 0 rfl)
def S8 {S:Type} {stp:Int->S->Bool×S} {q:Int->Bool}: ∀(xs:List Int) (k:Nat) (s:S),(∀y∈xs,∀s,(stp y s).1=q y)->decide ((Bp stp xs k s).1≥0)=xs.any q
 | [],_,_,_=>rfl
 | y ::r,k,s,h=>by
   rw[Bp,h y (.head _),Rj];cases hq:q y
   .rw[if_neg (by decide),Bool.false_or]
    exact S8 r (k+1) _ fun z hz=>h z (.tail _ hz)
   .rw[if_pos rfl,Bool.true_or]
    exact decide_eq_true (Int.natCast_nonneg k)
def cd (l:List Int) (q:Int->Bool):(List.range l.length).all (fun j=> !q (l.getD j 0))= !l.any q:=by
 rw[Hb,Dj,Bool.not_eq_true',<-Bool.not_eq_true,Gx];constructor
 .rintro h ⟨x,hx,hq⟩
  obtain⟨i,hi⟩:=List.getElem?_of_mem hx;have:=h i (List.mem_range.2 (JM.1 hi).1);rw[Fa hi,hq]at this;cases this
 .intro h j hj
  cases hq:q (l.getD j 0)
  .rfl
  .exact absurd ⟨_,GM (List.mem_range.1 hj),hq⟩ h
def az {p:Prog} {l:List Int} {M:List (Int×Int)}:(Bp (fun(m:Int) (M:List (Int×Int))=>(!(decide ((Bp (fun y M=>(Ap p y m,cF p M y m)) l 0 M).1≥0)),x3 p l m M)) l 0 M).1=match Te (Ap p) l with|some i=>((i:Nat):Int)|none=> -1:=by
 rw[S7 (q:=fun m=> !l.any fun y=>Ap p y m) l 0 M fun m _ s=>by dsimp only;rw[S8 (q:=fun y=>Ap p y m) l 0 s fun y _ s=>rfl]];rw[Te,find_congr (g:=fun i=>VL (Ap p) l i l.length) fun i _=>by rw[VL,cd l fun y=>Ap p y (l.getD i 0)]];cases(List.range l.length).find? fun i=>VL (Ap p) l i l.length with
 | none=>rfl
 | some i=>simp
def eN (p:Prog) (L:Nat) (l:List Int) (f:Bool) (hok:Cg p) (hgw:Cq (AI p)) (hfm: ∀x∈p.methods,DL (AI p) x.fact=true) (hl:T2 p l) (hnd:l.Nodup) (M:List (Int×Int)) :
    BO zP 219 [TU p L,.l (iL l) f] [.map L (LB p M)] fun r post=>r= .ret (.l (iL (FL (Ap p) l.length (l.mergeSort HZ))) true)/\ ∃M',post= [.map L (LB p M')]:=by
 intro Z hs;have hM:=Mx;have h16:=hl.many;have hml:(l.mergeSort HZ).length=l.length:=List.length_mergeSort _;have c1:=SU l f;have c2:=SX l f (by omega);refine iW kZ ?_
 conv=>whnf
 repeat'((first|clear U K|apply st|(apply zk;intro K U)|refine zY ?_|refine zs fun Z hs=>?_|refine zC ?_|refine zo fun nn hnn Z hs=>?_|fail)<;>conv=>whnf)
 clear c1 c2 hnn
 refine GU (fun(x:List Int×Bool×V×List Int×List (Int×Int))=>x.1.length) (fun x=>[(5,x.2.2.1)]) (fun x=>[.box nn [.l (iL x.1) x.2.1],.own x.2.2.1 1 (iL x.2.2.2.1),.map L (LB p x.2.2.2.2)])
  (fun x=>(∀y∈x.1,Ba p y=true)/\x.1.Nodup/\x.2.2.2.1.length+x.1.length<=16/\FL (Ap p) l.length (l.mergeSort HZ)=x.2.2.2.1++FL (Ap p) x.1.length x.1) (l.mergeSort HZ,false,.l [] true,[],M) rfl ⟨fun y hy=>hl.I4 y (List.mem_mergeSort.1 hy),(List.mergeSort_perm l HZ).symm.nodup hnd,by simpa[hml]using h16,by simp[hml]⟩ ((DF hs 1).perm (.swap _ _ _)) ?_
 clear hs;rintro⟨l',f',v,out,M⟩ Z ⟨hme,hn,hlen,hm⟩ hs;dsimp only at hme hn hlen hm hs;dsimp only;have hll:out.length<Ad/\(out.length+1)*8<=140737488355328:=by omega
 by_cases hz:l'.length=0
 .rw[hz]at hm
  simp only[FL,FE]at hm
  conv=>whnf
  repeat'((first|clear U K|apply st|(apply zk;intro K U)|refine zY ?_|(refine zb (fun hc=>?_) (fun hc=>?_)<;>try exact⟨⟩)|fail)<;>conv=>whnf)
  refine(QF out v (by omega)).use (rest:=[_,_]) (hs.perm (.swap _ _ _)) ?_;clear hs;rintro r post Z ⟨rfl,rfl⟩ hs;refine zz ?_;(repeat clear U K);repeat intro K U
  exact Ay hs (OS _ _) (.refl _) fun Z' hs'=>⟨_,⟨by rw[hm],M,rfl⟩,hs'⟩
 .obtain⟨n,hnn⟩: ∃n,l'.length=n+1:=⟨l'.length - 1,by omega⟩
  have hne:l'≠[]:=fun e=>hz (by rw[e];rfl)
  obtain⟨i,hi⟩:=Sm hok hne hme;have hil:i<l'.length:=by simpa using List.mem_of_find?_eq_some hi
  obtain⟨x,hx⟩: ∃x,l'[i]? =some x:=⟨_,Dp hil⟩
  rw[hnn,FL,hi,Option.getD_some,Fa hx]at hm;have c3:=Nx l' f' x (by omega);rw[GI hn hx]at c3;have hel:=List.length_eraseIdx_of_lt hil
  conv=>whnf
  repeat'((first|clear U K|apply st|(apply zk;intro K U)|refine zY ?_|(refine zb (fun hc=>?_) (fun hc=>?_)<;>try exact⟨⟩)|fail)<;>conv=>whnf)
  refine(Ix 265 [] [.p nn 0,.rp [TU p L]] (fun M=>[.box nn [.l (iL l') f'],.map L (LB p M)]) _ _ (Zw p L nn l' f' hok hgw hfm hme) l' f' M (HN fun y hy _=>hme y hy)).use (rest:=[.own v 1 (iL out)]) (hs.perm (.cons _ (.swap _ _ _))) ?_;clear hs;rintro r post Z ⟨rfl,rfl⟩ hs;rw[az,hi];generalize (Bp _ l' 0 M).2=M2 at hs;dsimp only
  conv=>whnf
  repeat'((first|clear U K|apply st|(apply zk;intro K U)|refine zY ?_|refine zs fun Z hs=>?_|refine aq fun v Z hs hsl=>?_|refine zC ?_|fail)<;>conv=>whnf)
  refine⟨(l'.eraseIdx i,true,v,out++[x],M2),by dsimp only;omega,rfl,⟨fun y hy=>hme y (List.mem_of_mem_eraseIdx hy),hn.sublist (List.eraseIdx_sublist _ _),by simp;omega,?_⟩,hs.perm (.cons _ (.swap _ _ _))⟩;dsimp only;rw[hm,hel,show l'.length - 1=n by omega];simp
def cS: ∀ {l:List Int},l.Nodup->(l.mergeSort HZ).Pairwise (· < ·):=fun {l} h=>by
 have h1:=List.pairwise_mergeSort (le:=HZ) (fun a b c h1 h2=>by simp only[HZ,Cp]at *;omega) (fun a b=>by simp only[HZ,EP,Cp];omega) l;have h2:=List.nodup_iff_pairwise_ne.1 ((List.mergeSort_perm l HZ).symm.nodup h);exact(h1.and h2).imp fun⟨a,b⟩=>by simp only[HZ,Cp]at a;omega
def aU {x:Int}: ∀ {out:List Int},out.Pairwise (· < ·)->x∉out->(O6 x out).Pairwise (· < ·)
 | [],_,_=>by simp[O6]
 | y ::r,h,hx=>by
   rw[List.pairwise_cons]at h;rw[Fg,not_or]at hx;by_cases hy:y<x
   .have e:O6 x (y::r)=y::O6 x r:=by simp[O6,List.takeWhile_cons,List.dropWhile_cons,hy]
    rw[e,List.pairwise_cons];refine⟨fun z hz=>?_,aU h.2 hx.2⟩;rcases QV.1 hz with rfl|hz
    .exact hy
    .exact h.1 z hz
   .have e:O6 x (y::r)=x::y::r:=by simp[O6,List.takeWhile_cons,List.dropWhile_cons,hy]
    rw[e,List.pairwise_cons,List.pairwise_cons];refine⟨fun z hz=>?_,h⟩;rcases Fg.1 hz with rfl|hz
    .have:=hx.1;omega
    .have:=h.1 z hz
     have:=hx.1;omega
def Wt: ∀(l out:List Int),out.Pairwise (· < ·)->l.Nodup->(∀x∈l,x∉out)->(l.foldl (fun out x=>O6 x out) out).Pairwise (· < ·)
 | [],_,h,_,_=>h
 | x::r,out,h,hn,hx=>by
   rw[List.nodup_cons]at hn;refine Wt r _ (aU h (hx x (.head _))) hn.2 fun y hy hm=>?_
   rcases QV.1 hm with rfl|hm
   .exact hn.1 hy
   .exact hx y (.tail _ hy) hm
def SY {l:List Int} (h:l.Nodup):l.mergeSort HZ=I0 l:=
 LY (cS h) (Wt l [] .nil h fun x _ hm=>by cases hm) fun x=>by rw[List.mem_mergeSort,N2]
end Go.Gl
namespace Go.Gl
open Go.Proofs
end Go.Gl
namespace Go.Gl
variable {P:Program} {Z:AE}
def Av.SE {f:FuncId} {args args':List V} {Z Z2:AE} {Q:R->AE->Prop} (h:Av P f args' Z2 Q) (hsub:Sub Z2 Z) (hf:DD Z Z2 args args'):Av P f args Z Q:=by
 refine⟨h.1,fun F w cs hR hv=>?_⟩;exact Calls.mono (h.2 F w cs (hR.drop hsub) ⟨by rw[hf.length];exact hv.1,hf.rel hR hsub (fun _ _ e=>e) hv.2⟩) fun e w' ⟨r,Z',hr,h1,h2,h3⟩=>⟨r,Z',hr,h1,h2,(B7.drop w hsub).trans h3⟩
def Pure.arg {f:FuncId} {args args':List V} {v:V} (h:Pure P f args' v) (hf:DD emp emp args args'):Pure P f args v:=Av.SE h (Sub.refl _) hf
def Own.sB {v:V} {sz:Nat} {es es':List (List V)} (h:Own Z v sz es) (hR:Ea Z emp es es'):FH Z emp v (.l es' false):=by
 rcases h with⟨rfl,_⟩|⟨n,cap,rfl,hn⟩
 .exact .l (fun h=>(by cases h)) hR
 .exact .arr hn rfl rfl hR
inductive YG (Z Z':AE):Env->Env->Prop
 | nil:YG Z Z' [] []
 | cons {k:Nat} {v v':V} {e e':Env}:FH Z Z' v v'->YG Z Z' e e'->YG Z Z' ((k,v)::e) ((k,v')::e')
def YG.efz {Z Z':AE} {e e':Env} (h:YG Z Z' e e'):EFz Z Z' e e':=by
 induction h with
 | nil=>intro j v2 hv;cases hv
 | cons h1 h2 ih=>
   rename_i k v v' e e';intro j v2 hv;simp only[get]at hv ⊢;cases hb:Nat.beq k j with
   | true=>
     rw[hb]at hv;simp only[cond_true,Iy]at hv ⊢;subst hv;exact⟨v,rfl,h1⟩
   | false=>
     rw[hb]at hv;simp only[cond_false]at hv ⊢;exact ih j v2 hv
def bc {env:Env} {K:Env->AE->Prop} (h:K env Z):Fz env Z K:= .inl h
def y1 {env env2:Env} {K:Env->AE->Prop} {l:List At} (hs:Sat Z l) (i:Nat) {v:V} {sz:Nat} {es:List (List V)} (hi:l[i]? =some (.own v sz es))
    (he: ∀Z2,FH Z Z2 v (.l es false)->YG Z Z2 env env2) (hk: ∀Z2,Sat Z2 (l.eraseIdx i)->K env2 Z2):Fz env Z K:=by
 obtain⟨Z2,h1,h2,h3⟩:=I6 hs i hi;exact .inr ⟨env2,Z2,⟨fun n o2 ho=> .inl (h1 n o2 ho)⟩,(he Z2 h2).efz,hk Z2 h3⟩
def ei {l:List Nat} {a b:AT} {Q:Aa->Env->AE->Prop} {env:Env} (h: ∀K:Env->AE->Prop,(∀env Z,(pk l env fun E=>Fz E Z (W P b Q))->K env Z)->W P a (Aa.andThen K Q) env Z):W P (.seq l a b) Q env Z:=xS h
end Go.Gl
namespace Go.Gl
open Go.Proofs
attribute [local irreducible] Av An Af AQ AL Ac AP AS AK Ab AN AO As A3 Sat AV A0 Ag W
def rH (g:FuncId) (fi ca:List V) (q:Int×Int->Bool):Prop:= ∀v,Pure zP g (fi++[.a (pI v)]++ca) (.b (q v))
def rH.use {g:FuncId} {fi ca:List V} {q:Int×Int->Bool} (h:rH g fi ca q) {v:Int×Int} {Z:AE} {k kp:V->AE->Prop} (hk:k (.b (q v)) Z):As zP (.f (.func g) fi ca) [.a (pI v)] Z (qk k kp):=BH ((h v).use hk)
def yB {α:Type} {l:List α} (h:l.length=2): ∃a b,l= [a,b]:=by
 match l,h with
 | [a,b],_=>exact⟨a,b,rfl⟩
def Yz {w:AG} {f:Fact} (h:A6 w f=true) :
    f.op=1\/(f.op=5/\ ∃a,f.kids= [a]/\A6 w a=true)\/(f.op=6/\ ∃a b,f.kids= [a,b]/\A6 w a=true/\A6 w b=true)\/(f.op=7/\ ∃a b,f.kids= [a,b]/\A6 w a=true/\A6 w b=true)\/
     ((f.op=2\/f.op=3\/f.op=4)/\B4 f=true/\(∀s∈f.path,0<=s/\s<(w.owner.length:Int))/\(f.op=2->0<=f.cls/\f.cls<3+(w.parents.length:Int))/\0<=f.arg):=by
 rw[CA]at h;simp only[DB,A4,Dj,C1,Cp]at h;obtain⟨⟨ho,hk,ha0,ha3,hp,-⟩,hks⟩:=h;simp only[Ez,A4,Dj,Ho,Cp]at hp;by_cases h2:f.op=2
 .rw[U9,if_pos h2]at ho
  simp only[Pw,A4,Cp]at ho;exact .inr (.inr (.inr (.inr ⟨.inl h2,by simp[B4,h2],hp.1,fun _=>ho.2,ha0⟩)))
 by_cases h34:f.op=3\/f.op=4
 .exact .inr (.inr (.inr (.inr ⟨.inr h34,by rcases h34 with h|h<;>simp[B4,h],hp.1,fun h=>absurd h h2,ha0⟩)))
 rw[U9,if_neg h2,if_neg h34]at ho;simp only[EP,C1]at ho;rcases ho with((h1|h5)|h6)|h7
 .exact .inl h1
 .rw[CD,if_pos h5]at hk
  obtain⟨a,ha⟩:=List.length_eq_one_iff.1 hk;exact .inr (.inl ⟨h5,a,ha,hks a (by rw[ha];exact .head _)⟩)
 .rw[CD,if_neg (by omega),if_pos (.inl h6)]at hk
  obtain⟨a,b,ha⟩:=yB hk;exact .inr (.inr (.inl ⟨h6,a,b,ha,hks a (by rw[ha];exact .head _),hks b (by rw[ha];exact .tail _ (.head _))⟩))
 .rw[CD,if_neg (by omega),if_pos (.inr h7)]at hk
  obtain⟨a,b,ha⟩:=yB hk;exact .inr (.inr (.inr (.inl ⟨h7,a,b,ha,hks a (by rw[ha];exact .head _),hks b (by rw[ha];exact .tail _ (.head _))⟩)))
end Go.Gl
namespace Go.Gl
open Go.Proofs
structure xl (w w':AG) (ps:List Int):Prop where
 par:w'.parents=w.parents++[ps]
 own:w'.owner=w.owner++[3+(w.parents.length:Int)]
variable {w w':AG} {ps:List Int}
def xl.pl (h:xl w w' ps):w'.parents.length=w.parents.length+1:=by rw[h.par];simp
def xl.ol (h:xl w w' ps):w'.owner.length=w.owner.length+1:=by rw[h.own];simp
def xl.Tw (h:xl w w' ps) {c:Nat} (hc:c<3+w.parents.length):Gl.par w'.parents c=Gl.par w.parents c:=by
 unfold Gl.par;split
 .rfl
 .rw[h.par,DK,DK,ec (by omega)]
def su {c:Nat} (hc:3+w.parents.length<=c):Gl.par w.parents c= []:=by
 unfold Gl.par;split
 .rfl
 .rw[DK,List.getElem?_eq_none (by omega)];rfl
def qs {w:AG} {M:Int->F3} {f:Fact} {l:List Bool} (h:f.op=5):VE w M f l= !l.getD 0 false:=by rw[VE,if_neg (by omega),if_pos h]
def qp {w:AG} {M:Int->F3} {f:Fact} {l:List Bool} (h:f.op=6):VE w M f l=(l.getD 0 false&&l.getD 1 false):=by rw[VE,if_neg (by omega),if_neg (by omega),if_pos h]
def qo {w:AG} {M:Int->F3} {f:Fact} {l:List Bool} (h:f.op=7):VE w M f l=(l.getD 0 false||l.getD 1 false):=by rw[VE,if_neg (by omega),if_neg (by omega),if_neg (by omega),if_pos h]
def qn {w:AG} {M:Int->F3} {f:Fact} {l:List Bool} (h:f.op=2\/f.op=3\/f.op=4):VE w M f l=JN w (M f.arg) f.path f:=by rw[VE,if_neg (by omega),if_neg (by omega),if_neg (by omega),if_neg (by omega)]
def Tl (n:Nat):F3->F3
 | .int m=> .int m
 | .HY=> .HY
 | .obj C kid=> .obj (fun c=>C c&&decide (c<n)) fun s=>Tl n (kid s)
def kU {n:Nat} (t:F3) {f:Fact} (hc:f.op=2->f.cls<n):Dk (Tl n t) f=Dk t f:=by
 cases t with
 | int m=>rfl
 | HY=>rfl
 | obj C kid=>
   simp only[Tl,Dk];by_cases h2:f.op=2
   .by_cases h3:3<=f.cls
    .rw[decide_eq_true (show f.cls.toNat<n by have:=hc h2;omega),Bool.and_true]
    .rw[decide_eq_false h3];simp
   .rw[beq_eq_false_iff_ne.2 h2];simp
def aM (hw:He w) {f:Fact} (hc:f.op=2->f.cls<(3+w.parents.length:Nat)): ∀(l:List Int) (t:F3),(∀s∈l,0<=s/\s<(w.owner.length:Int))->JN w (Tl (3+w.parents.length) t) l f=JN w t l f
 | [],t,_=>by
   have:=kU t hc;cases t<;>exact this
 | s ::r,t,hl=>by
   have hs:=hl s (.head _);cases t with
   | int n=>rfl
   | HY=>rfl
   | obj C kid=>
     have ho:=Jf hw hs;simp only[Tl,JN];rw[aM hw hc r (kid s) fun x hx=>hl x (.tail _ hx),decide_eq_true (show(Bh w s).toNat<3+w.parents.length by omega),Bool.and_true]
def Ul (hw:He w) (M:Int->F3) (f:Fact):A6 w f=true->O1 w (fun a=>Tl (3+w.parents.length) (M a)) f=O1 w M f:=by
 induction f using Fact.ind with
 | h f ih=>
   intro hn;rw[LM,LM w M];rcases Yz hn with h1|⟨h5,x,hk,hx⟩|⟨h6,x,y,hk,hx,hy⟩|⟨h7,x,y,hk,hx,hy⟩|⟨hop,hlf,hp,hcl,ha0⟩
   .simp only[VE,if_pos h1]
   .rw[qs h5,qs h5,hk];simp only[EZ,List.map_nil];rw[ih x (by rw[hk];exact .head _) hx]
   .rw[qp h6,qp h6,hk];simp only[EZ,List.map_nil];rw[ih x (by rw[hk];exact .head _) hx,ih y (by rw[hk];exact .tail _ (.head _)) hy]
   .rw[qo h7,qo h7,hk];simp only[EZ,List.map_nil];rw[ih x (by rw[hk];exact .head _) hx,ih y (by rw[hk];exact .tail _ (.head _)) hy]
   .rw[qn hop,qn hop]
    exact aM hw (fun h2=>by have:=hcl h2;omega) _ _ hp
def Tq (l:List Int) (s:Int):List Int:=if l.contains s then l else l++[s]
def mA (k:Kn) (s:Int):Kn:={k with AF:=Tq k.AF s}
def Hu (a:Int) (p:List Int) (k:Kn) (l:Fact):Kn:=
 if(Ah l).1.arg=a/\Bj (Ah l).1.path p=true then
  (if(Ah l).1.path=p then By (Bz k (Ah l).2) (Ah l).1 (Ah l).2 else mA (Bz k (Ah l).2) ((Ah l).1.path.getD p.length 0))
 else k
def kg (ls:List Fact) (a:Int) (p:List Int):Kn:=ls.foldl (Hu a p) k0
structure fR (k k':Kn):Prop where
 core:DV k=DV k'
 fb:k.AZ=k'.AZ
 AF: ∀s,s∈k.AF↔s∈k'.AF
def ly (l:List Int) (s x:Int):x∈Tq l s↔x∈l\/x=s:=by
 unfold Tq;split
 .rename_i h
  rw[List.contains_iff_mem]at h;exact⟨.inl,fun h'=>h'.elim id fun e=>by rw[e];exact h⟩
 .simp
def jo {k k':Kn} (h:fR k k') (a:Int) (p:List Int) (l:Fact):fR (Hu a p k l) (C2 a p k' l):=by
 unfold Hu C2;split
 .split
  .refine⟨Qe (k:=Bz k (Ah l).2) (k':=Bz k' (Ah l).2) h.core _ _,?_,fun s=>?_⟩
   .rw[Lo,Lo];simp[Bz,h.fb]
   .rw[IP,IP];exact h.AF s
  .refine⟨h.core,by simp[mA,fG,Bz,h.fb],fun s=>?_⟩
   show s∈Tq k.AF _↔s∈JE k'.AF _;rw[TO,ly,h.AF]
 .exact h
def WN (a:Int) (p:List Int): ∀(ls:List Fact) (k k':Kn),fR k k'->fR (ls.foldl (Hu a p) k) (ls.foldl (C2 a p) k')
 | [],_,_,h=>h
 | l::r,_,_,h=>WN a p r _ _ (jo h a p l)
def GX (ls:List Fact) (a:Int) (p:List Int):fR (kg ls a p) (kn ls a p):=WN a p ls k0 k0 ⟨rfl,rfl,fun _=>Iff.rfl⟩
def Ue (ls:List Fact) (a:Int) (p:List Int):DV (kg ls a p)=DV (ES (ls.filter (Kp a p)) k0):=(GX ls a p).core.trans (MI ls a p)
def KX (ls:List Fact) (a:Int) (p:List Int):(kg ls a p).AZ= !E2 ls a p:=by rw[(GX ls a p).fb,KW]
def N7 {w:AG} {ls:List Fact} (hl: ∀l∈ls,Df w l):HK w.owner.length ls:=fun l h=>(hl l h).path
def Jp {w:AG} {ls:List Fact} (hl: ∀l∈ls,Df w l) {a:Int} {p:List Int} {s:Int}:s∈(kg ls a p).AF↔ ∃l∈ls,(Ah l).1.arg=a/\ ∃q,(Ah l).1.path=p++s::q:=by
 rw[(GX ls a p).AF,Jo (N7 hl),KO hl]
def gG {w:AG} {ls:List Fact} (hl: ∀l∈ls,Df w l) {a:Int} {p:List Int} {s:Int} (h:s∈(kg ls a p).AF):0<=s/\s<(w.owner.length:Int):=by
 obtain⟨l,h1,h2,q,hq⟩:=(Jp hl).1 h;exact(hl l h1).path s (by rw[hq];simp)
def iO (ls:List Fact) (a:Int) (p:List Int):Hv (kg ls) a p=Hv (kn ls) a p:=by
 rw[Hv,Hv,Hb,Dj,Dj];constructor
 .intro h s hs
  have:=h s (((GX ls a p).AF s).2 hs)
  rwa [(GX ls a (p++[s])).fb]at this
 .intro h s hs
  have:=h s (((GX ls a p).AF s).1 hs)
  rwa [(GX ls a (p++[s])).fb]
def KC {k k':Kn} (h:DV k=DV k'):k.low=k'.low/\k.high=k'.high/\k.no=k'.no/\k.BS=k'.BS/\k.Dt=k'.Dt/\k.whole=k'.whole:=by
 simpa only[DV,Prod.mk.injEq]using h
def yq (ls:List Fact) (a:Int) (p:List Int):Fw (kg ls) a p=Fw (kn ls) a p:=by
 obtain⟨c1,c2,c3,c4,c5,-⟩:=KC (GX ls a p).core;rw[Fw,Fw,Eb,Eb,iO,Ef,Ef,c1,c2,c3,c4,c5]
def s8 (ls:List Fact) (a:Int) (p:List Int):DT (kg ls) a p=DT (kn ls) a p:=by
 obtain⟨-,-,-,c4,c5,c6⟩:=KC (GX ls a p).core;rw[DT,DT,Eb,Eb,iO,c4,c5,c6]
def Qf {w:AG} {ls:List Fact} (hl: ∀l∈ls,Df w l):Gv (3+w.parents.length) ls:=fun l h ho=>by
 have:=(hl l h).cls ho;omega
def aT {w:AG} (hw:He w) {ls:List Fact} (hl: ∀l∈ls,Df w l) (a:Int) (p:List Int):Fw (kg ls) a p=true↔ ∃m,Ex w (.int m)/\TT w ls a p (.int m):=by
 rw[yq,YQ (n:=3+w.parents.length) (by have:=hw.len;omega) (Qf hl) (N7 hl),Mp hl]
def Wc {w:AG} (hw:He w) {ls:List Fact} (hl: ∀l∈ls,Df w l) (a:Int) (p:List Int):DT (kg ls) a p=true↔TT w ls a p .HY:=by
 rw[s8,UW (n:=3+w.parents.length) (by have:=hw.len;omega) (Qf hl) (N7 hl),KT hl]
def Ru (w:AG) (kf:Int->List Int->Kn) (a:Int) (p:List Int) (up:Nat) (can:Int->Bool):Bool:=
 !(kf a p).whole&&(Hg (kf a p).BS up&&((kf a p).Dt&&&up==0&&(kf a p).AF.all fun s=>if up.testBit (Bh w s).toNat then can s else !(kf a (p++[s])).AZ))
def QO {w : AG} (hw:He w) {ls:List Fact} (hl: ∀l∈ls,Df w l) {a:Int} {p:List Int} {up:Nat} {can:Int->Bool} {OK:F3->Prop} (hnon:OK .HY) (u0:up.testBit 0=true) (u1:up.testBit 1=false) (u2:up.testBit 2=false)
    (hcan: ∀s∈(kg ls a p).AF,(can s=true↔ ∃t,OK t/\TT w ls a (p++[s]) t)) :
    Ru w (kg ls) a p up can=true↔ ∃kid,(∀s,OK (kid s))/\TT w ls a p (.obj (fun b=>up.testBit b) kid):=by
 obtain⟨-,-,-,c4,c5,c6⟩:=KC (Ue ls a p);have hc2:Gv (3+w.parents.length) (ls.filter (Kp a p)):=fun l h=>Qf hl l (Kj.1 h).1
 have hlt:(ES (ls.filter (Kp a p)) k0).BS<2 ^ 64:=Nat.lt_of_lt_of_le (MH hc2) (Nat.pow_le_pow_right (by decide) (by have:=hw.len;omega));have hon: ∀l,l∈ls.filter (Kp a p)↔l∈ls/\(Ah l).1.arg=a/\(Ah l).1.path=p:=fun l=>by rw[Kj,EW]
 rw[Ru,A4,A4,A4,c4,c5,c6,SP,Ma hlt,Mv,Dj];simp only[H2,UU,hon];constructor
 .rintro ⟨h1,h2,h3,h4⟩
  have hk: ∀s,∃t,OK t/\(s∈(kg ls a p).AF->up.testBit (Bh w s).toNat=true->TT w ls a (p++[s]) t):=fun s=>by
   rcases Classical.em (s∈(kg ls a p).AF/\up.testBit (Bh w s).toNat=true)with⟨e1,e2⟩|e
   .have:=h4 s e1
    rw[if_pos e2]at this;obtain⟨t,q1,q2⟩:=(hcan s e1).1 this;exact⟨t,q1,fun _ _=>q2⟩
   .exact⟨.HY,hnon,fun e1 e2=>absurd ⟨e1,e2⟩ e⟩
  refine⟨fun s=>Classical.choose (hk s),fun s=>(Classical.choose_spec (hk s)).1,fun l k1 k2 q hq=>?_⟩;cases q with
  | nil =>
    rw[FE]at hq;have hcl:=(hl l k1).cls;show Dk _ _=_;simp only[Dk];cases hb:(Ah l).2
    .have ho:=h1 l ⟨k1,k2,hq⟩ hb
     have hu:=h2 _ ⟨l,⟨k1,k2,hq⟩,ho,hb,rfl⟩;have:=hcl ho;rw[C1.2 ho,Du];by_cases e0:(Ah l).1.cls=0
     .rw[e0];rfl
     .have e3:3<=(Ah l).1.cls:=by
       rcases Int.lt_or_le (Ah l).1.cls 3 with hlt|hge
       .exfalso
        have:(Ah l).1.cls.toNat=1\/(Ah l).1.cls.toNat=2:=by omega
        rcases this with e|e<;>rw[e]at hu
        .rw[u1]at hu;cases hu
        .rw[u2]at hu;cases hu
       .exact hge
      rw[decide_eq_true e3,hu];simp
    .by_cases ho:(Ah l).1.op=2
     .have hn:=h3 _ ⟨l,⟨k1,k2,hq⟩,ho,hb,rfl⟩
      have:=hcl ho;rw[C1.2 ho,Du];have e0:(Ah l).1.cls≠0:=fun e=>hn (by rw[e];exact u0)
      rw[beq_eq_false_iff_ne.2 e0,Bool.false_or];cases hu:up.testBit (Ah l).1.cls.toNat
      .simp
      .exact(hn hu).elim
     .rw[beq_eq_false_iff_ne.2 ho];rfl
  | cons s r=>
    have hs:s∈(kg ls a p).AF:=(Jp hl).2 ⟨l,k1,k2,r,hq⟩;rw[JN];have hsp:=(Classical.choose_spec (hk s)).2;generalize Classical.choose (hk s)=t at hsp ⊢;cases hu:up.testBit (Bh w s).toNat
    .have:=h4 s hs
     rw[hu,if_neg (by decide),KX,Bool.not_not]at this;have:=EV.1 this l k1 k2 r (by rw[hq];simp);rw[this];rfl
    .rw[Du]
     exact hsp hs hu l k1 k2 r (by rw[hq];simp)
 .rintro ⟨kid,hkid,hT⟩
  have hleaf: ∀l∈ls,(Ah l).1.arg=a->(Ah l).1.path=p->((Ah l).1.op==2&&((Ah l).1.cls==0||(decide (3<=(Ah l).1.cls)&&up.testBit (Ah l).1.cls.toNat)))= !(Ah l).2:=fun l k1 k2 k3=>hT l k1 k2 [] (by rw[k3];simp)
  refine⟨?_,?_,?_,?_⟩
  .rintro l ⟨k1,k2,k3⟩ hb
   have:=hleaf l k1 k2 k3;rw[hb,Bool.not_false,A4,C1]at this;exact this.1
  .rintro b ⟨l,⟨k1,k2,k3⟩,ho,hb,rfl⟩
   have:=hleaf l k1 k2 k3;rw[hb,Bool.not_false,A4,EP,A4,C1,C1]at this;rcases this.2 with e|e
   .rw[e];exact u0
   .exact e.2
  .rintro b ⟨l,⟨k1,k2,k3⟩,ho,hb,rfl⟩ hu
   have:=hleaf l k1 k2 k3;have hc:=(hl l k1).cls ho;rw[hb,C1.2 ho,hu,Du,Bool.and_true]at this;by_cases e0:(Ah l).1.cls=0
   .rw[e0]at this;cases this
   .have e3:3<=(Ah l).1.cls:=by
     rcases Int.lt_or_le (Ah l).1.cls 3 with hlt|hge
     .exfalso
      have:(Ah l).1.cls.toNat=1\/(Ah l).1.cls.toNat=2:=by omega
      rcases this with e|e<;>rw[e]at hu
      .rw[u1]at hu;cases hu
      .rw[u2]at hu;cases hu
     .exact hge
    rw[decide_eq_true e3]at this;simp at this
  .intro s hs
   cases hu:up.testBit (Bh w s).toNat
   .rw[if_neg (by decide),KX,Bool.not_not]
    refine EV.2 fun l k1 k2 q hq=>?_
    have:=hT l k1 k2 (s::q) (by rw[hq];simp);rw[JN,hu,Bool.false_and]at this;simpa using this.symm
   .rw[if_pos rfl]
    refine(hcan s hs).2 ⟨kid s,hkid s,fun l k1 k2 q hq=>?_⟩;have:=hT l k1 k2 (s::q) (by rw[hq];simp)
    rwa [JN,hu,Du]at this
def Dw (w:AG) (kf:Int->List Int->Kn) (a:Int) (p:List Int):Nat:=(kf a p).AF.foldl (fun m s=>if(kf a (p++[s])).AZ then m|||2 ^ (Bh w s).toNat else m) ((kf a p).BS|||2 ^ 0)
def VH (w:AG) (kf:Int->List Int->Kn) (a:Int) (p:List Int) (can:Int->Bool):Bool:=
 !(Dw w kf a p).testBit 1&&(!(Dw w kf a p).testBit 2&&Ru w kf a p (Bl (BX w.parents) w.parents.length (Dw w kf a p)) can)
def Rx (w:AG) (kf:Int->List Int->Kn) (a:Int):Nat->List Int->Bool
 | 0,p=>Fw kf a p||(DT kf a p||VH w kf a p fun _=>false)
 | d+1,p=>Fw kf a p||(DT kf a p||VH w kf a p fun s=>Rx w kf a d (p++[s]))
def Ws {w:AG} {kf:Int->List Int->Kn} {a:Int} {p:List Int} {b:Nat}: ∀(l:List Int) (m:Nat),(l.foldl (fun m s=>if(kf a (p++[s])).AZ then m|||2 ^ (Bh w s).toNat else m) m).testBit b=true↔m.testBit b=true\/ ∃s∈l,(kf a (p++[s])).AZ=true/\b=(Bh w s).toNat
 | [],m=>by simp
 | x ::r,m=>by
   rw[List.foldl_cons,Ws r];simp only[Fg,exists_eq_or_imp];cases hn:(kf a (p++[x])).AZ
   .simp
   .rw[if_pos rfl,D6,EP,C1]
    simp only[true_and,or_assoc]
def dD {w:AG} {kf:Int->List Int->Kn} {a:Int} {p:List Int} {b:Nat}:(Dw w kf a p).testBit b=true↔(kf a p).BS.testBit b=true\/b=0\/ ∃s∈(kf a p).AF,(kf a (p++[s])).AZ=true/\b=(Bh w s).toNat:=by
 rw[Dw,Ws,D6,EP,C1,or_assoc]
def Pf {w:AG} (hw:He w) {ls:List Fact} (hl: ∀l∈ls,Df w l) {a:Int} {p:List Int} {C C':Nat->Bool} {kid:Int->F3} (h: ∀b,3<=b->C b=C' b) (hT:TT w ls a p (.obj C kid)):TT w ls a p (.obj C' kid):=fun l k1 k2 q hq=>by
 rw[<-hT l k1 k2 q hq];cases q with
 | nil=>
   show Dk _ _=Dk _ _;simp only[Dk];by_cases h3:3<=(Ah l).1.cls
   .rw[h _ (by omega)]
   .rw[decide_eq_false h3,Bool.false_and,Bool.false_and]
 | cons s r=>
   have:=Jf hw ((hl l k1).path s (by rw[hq];simp));rw[JN,JN,h _ (by omega)]
def kD {w : AG} (hw:He w) {ls:List Fact} (hl: ∀l∈ls,Df w l) {a:Int} {p:List Int} {can:Int->Bool} (hcan: ∀s∈(kg ls a p).AF,(can s=true↔ ∃t,Ex w t/\TT w ls a (p++[s]) t)) :
    VH w (kg ls) a p can=true↔ ∃C kid,Ex w (.obj C kid)/\TT w ls a p (.obj C kid):=by
 have hmb:=fun b=>dD (w:=w) (kf:=kg ls) (a:=a) (p:=p) (b:=b)
 have hcb:=fun b=>Lm hw.ord (Dw w (kg ls) a p) w.parents.length b (IS _)
 obtain⟨-,-,-,c4,-,-⟩:=KC (Ue ls a p)
 have hmi: ∀b,(kg ls a p).BS.testBit b=true↔ ∃l∈ls,((Ah l).1.arg=a/\(Ah l).1.path=p)/\(Ah l).1.op=2/\(Ah l).2=false/\(Ah l).1.cls.toNat=b:=fun b=>by
  rw[c4,H2];constructor
  .rintro⟨l,h1,h2⟩
   exact⟨l,(Kj.1 h1).1,EW.1 (Kj.1 h1).2,h2⟩
  .rintro⟨l,h1,h2,h3⟩
   exact⟨l,Kj.2 ⟨h1,EW.2 h2⟩,h3⟩
 have hge: ∀b,b=1\/b=2->(Bl (BX w.parents) w.parents.length (Dw w (kg ls) a p)).testBit b=true->(Dw w (kg ls) a p).testBit b=true:=fun b hb h=>by
  rcases(hcb b).1 h with h|⟨d,h1,_,_,h2⟩
  .exact h
  .rcases h2 with h2|h2
   .omega
   .have:=LH hw.ord d b h1 h2
    omega
 rw[VH,A4,A4,Bool.not_eq_true',Bool.not_eq_true'];constructor
 .rintro⟨m1,m2,ho⟩
  have u0:(Bl (BX w.parents) w.parents.length (Dw w (kg ls) a p)).testBit 0=true:=(hcb 0).2 (.inl ((hmb 0).2 (.inr (.inl rfl))))
  have u1:(Bl (BX w.parents) w.parents.length (Dw w (kg ls) a p)).testBit 1=false:=by
   rw[<-Bool.not_eq_true];intro h;rw[hge 1 (.inl rfl) h]at m1;cases m1
  have u2:(Bl (BX w.parents) w.parents.length (Dw w (kg ls) a p)).testBit 2=false:=by
   rw[<-Bool.not_eq_true];intro h;rw[hge 2 (.inr rfl) h]at m2;cases m2
  obtain⟨kid,h1,h2⟩:=(QO hw hl (OK:=Ex w) trivial u0 u1 u2 hcan).1 ho;refine⟨_,kid,⟨fun c h3 hc q hq=>?_,h1⟩,h2⟩;have hqc:=hw.ord c q hq
  have hcl:c<3+w.parents.length:=by
   rcases Nat.lt_or_ge c (3+w.parents.length)with h'|h'
   .exact h'
   .rw[par,if_neg (by omega),DK,List.getElem?_eq_none (by omega)]at hq;cases hq
  have hup:GA w.parents c q.toNat=true:=by
   rw[D0 hw.ord,EP,Gx];exact .inr ⟨q,hq,ET hw.ord _⟩
  rcases(hcb c).1 hc with h|⟨d,k1,k2,k3,k4⟩
  .exact(hcb _).2 (.inr ⟨c,h3,hcl,h,.inr hup⟩)
  .refine(hcb _).2 (.inr ⟨d,k1,k2,k3,.inr ?_⟩)
   rcases k4 with k4|k4
   .omega
   .exact IB hw.ord _ _ _ k4 hup
 .rintro ⟨C,kid,⟨hC,hkid⟩,hT⟩
  have hleaf: ∀l∈ls,(Ah l).1.arg=a->(Ah l).1.path=p->((Ah l).1.op==2&&((Ah l).1.cls==0||(decide (3<=(Ah l).1.cls)&&C (Ah l).1.cls.toNat)))= !(Ah l).2:=fun l k1 k2 k3=>hT l k1 k2 [] (by rw[k3];simp)
  have hM: ∀b,(Dw w (kg ls) a p).testBit b=true->b=0\/3<=b/\C b=true:=fun b hb=>by
   rcases(hmb b).1 hb with h|h|⟨s,h1,h2,h3⟩
   .obtain⟨l,k1,⟨k2,k3⟩,ho,hb2,rfl⟩:=(hmi b).1 h
    have:=hleaf l k1 k2 k3;rw[hb2,Bool.not_false,A4,EP,A4,C1,C1,Cp]at this;rcases this.2 with e|⟨e1,e2⟩
    .left;omega
    .exact .inr ⟨by omega,e2⟩
   .exact .inl h
   .have hin:=Jf hw (gG hl h1)
    refine .inr ⟨by omega,?_⟩;rw[KX,Bool.not_eq_true',<-Bool.not_eq_true]at h2;rcases Classical.em (C (Bh w s).toNat=true)with e|e
    .rw[h3];exact e
    .refine absurd (EV.2 fun l k1 k2 q hq=>?_) h2
     have:=hT l k1 k2 (s::q) (by rw[hq];simp);rw[Bool.not_eq_true]at e;rw[JN,e,Bool.false_and]at this;simpa using this.symm
  have hU: ∀b,(Bl (BX w.parents) w.parents.length (Dw w (kg ls) a p)).testBit b=true->b=0\/3<=b/\C b=true:=fun b hb=>by
   rcases(hcb b).1 hb with h|⟨d,k1,k2,k3,k4⟩
   .exact hM b h
   .rcases k4 with k4|k4
    .exact .inl k4
    .rcases hM d k3 with e|⟨_,e⟩
     .omega
     .exact .inr ⟨LH hw.ord d b k1 k4,TG hw.ord hC d b k1 e k4⟩
  have u0:(Bl (BX w.parents) w.parents.length (Dw w (kg ls) a p)).testBit 0=true:=(hcb 0).2 (.inl ((hmb 0).2 (.inr (.inl rfl))))
  have u1:(Bl (BX w.parents) w.parents.length (Dw w (kg ls) a p)).testBit 1=false:=by
   rw[<-Bool.not_eq_true];intro h;rcases hU 1 h with e|⟨e,_⟩<;>omega
  have u2:(Bl (BX w.parents) w.parents.length (Dw w (kg ls) a p)).testBit 2=false:=by
   rw[<-Bool.not_eq_true];intro h;rcases hU 2 h with e|⟨e,_⟩<;>omega
  refine⟨?_,?_,(QO hw hl (OK:=Ex w) trivial u0 u1 u2 hcan).2 ⟨kid,hkid,fun l k1 k2 q hq=>?_⟩⟩
  .rw[<-Bool.not_eq_true];intro h;rcases hM 1 h with e|⟨e,_⟩<;>omega
  .rw[<-Bool.not_eq_true];intro h;rcases hM 2 h with e|⟨e,_⟩<;>omega
  have hTl:=hT l k1 k2 q hq;cases q with
  | nil =>
    rw[FE]at hq;have hcl:=(hl l k1).cls;have hlf:=hleaf l k1 k2 hq;show Dk _ _=_;simp only[Dk];cases hb:(Ah l).2
    .rw[hb,Bool.not_false,A4,C1]at hlf
     have hm:=(hcb _).2 (.inl ((hmb _).2 (.inl ((hmi _).2 ⟨l,k1,⟨k2,hq⟩,hlf.1,hb,rfl⟩))));rw[C1.2 hlf.1,hm,Du,Bool.and_true];have:=hlf.2;rw[EP,A4]at this;rcases this with e|e
     .rw[e];rfl
     .rw[e.1];simp
    .rw [hb,Bool.not_true]at hlf
     rw[Bool.not_true];by_cases ho:(Ah l).1.op=2
     .rw [C1.2 ho,Du,Bool.or_eq_false_iff]at hlf
      rw[C1.2 ho,Du,hlf.1,Bool.false_or];cases hu:(Bl (BX w.parents) w.parents.length (Dw w (kg ls) a p)).testBit (Ah l).1.cls.toNat
      .simp
      .rcases hU _ hu with e|⟨e1,e2⟩
       .have hne:=beq_eq_false_iff_ne.1 hlf.1
        have:=hcl ho;omega
       .rw[e2,Bool.and_true]at hlf
        rw[hlf.2,Bool.false_and]
     .rw[beq_eq_false_iff_ne.2 ho];rfl
  | cons s r=>
    have hs:s∈(kg ls a p).AF:=(Jp hl).2 ⟨l,k1,k2,r,hq⟩;have hin:=Jf hw (gG hl hs);rw[JN]at hTl ⊢;cases hu:(Bl (BX w.parents) w.parents.length (Dw w (kg ls) a p)).testBit (Bh w s).toNat
    .have hnn:(kg ls a (p++[s])).AZ=false:=by
      rw[<-Bool.not_eq_true];intro hne;rw[(hcb _).2 (.inl ((hmb _).2 (.inr (.inr ⟨s,hs,hne,rfl⟩))))]at hu;cases hu
     rw[KX,Bool.not_eq_false']at hnn;rw[EV.1 hnn l k1 k2 r (by rw[hq];simp)];rfl
    .rcases hU _ hu with e|⟨_,e2⟩
     .omega
     .rw[e2,Du]at hTl
      rw[Du];exact hTl
def W6 {w:AG} (hw:He w) {ls:List Fact} (hl: ∀l∈ls,Df w l) (a:Int): ∀(d:Nat) (p:List Int),p.length+d=2->(Rx w (kg ls) a d p=true↔ ∃t,Ex w t/\TT w ls a p t):=by
 have key: ∀(p:List Int) (can:Int->Bool),(∀s∈(kg ls a p).AF,(can s=true↔ ∃t,Ex w t/\TT w ls a (p++[s]) t))->((Fw (kg ls) a p||(DT (kg ls) a p||VH w (kg ls) a p can))=true↔ ∃t,Ex w t/\TT w ls a p t):=fun p can hcan=>by
  rw[EP,EP,aT hw hl,Wc hw hl,kD hw hl hcan];constructor
  .rintro(⟨m,h1,h2⟩|h|⟨C,kid,h1,h2⟩)
   .exact⟨_,h1,h2⟩
   .exact⟨.HY,trivial,h⟩
   .exact⟨_,h1,h2⟩
  .rintro⟨t,h1,h2⟩
   cases t with
   | int m=>exact .inl ⟨m,h1,h2⟩
   | HY=>exact .inr (.inl h2)
   | obj C kid=>exact .inr (.inr ⟨C,kid,h1,h2⟩)
 intro d
 induction d with
 | zero=>
   intro p hp;rw[Rx];refine key p _ fun s hs=>?_
   obtain⟨l,h1,h2,q,hq⟩:=(Jp hl).1 hs;have:=(hl l h1).short;rw[hq]at this;simp at this;omega
 | succ d ih=>
   intro p hp;rw[Rx];exact key p _ fun s _=>ih (p++[s]) (by simp;omega)
end Go.Gl
