import Derived.Test.YtijbpgdmpejgoaaGreatZ11
import Derived.Test.YtijbpgdmpejgoaaGreatZ12
import Derived.Test.YtijbpgdmpejgoaaGreatZ15
set_option linter.all false
set_option linter.defProp false
noncomputable section
namespace Go.Gl
open Go.Proofs
attribute [local irreducible] BC Ax Ai AU AO Ag AV AW AM Af AR AT A0 A9 Sat Ab A6 Ak W
def O0 (xs:List Int) (f:Bool):Pure Tryz.prog 102 [.l (iL xs) f] (.f (.func 136) [] [.rp [.l (iL xs) f]]):=by
 refine k9 kZ ?_;have hs:=Sn
 conv=>whnf
 repeat'((first|apply st|(apply sq;intro K U)|(apply si;intro A B Y Z)|(apply Y;clear Z B Y A)|(apply U;clear U K)|fail)<;>conv=>whnf)
 all_goals exact AI rfl
def bX (xs:List Int) (f:Bool) (hxl:xs.length≤1000) {S:Type} {fn:Fn} {fi ca:List V} {H:S→List At} (Inv:Nat→S→Prop) {s:S} (h0:Inv 0 s)
    (hT: ∀(k:Nat) s y,xs[k]? =some y→Inv k s→ ∀σ:AH,Sat σ (H s)→A0 Tryz.prog (.f fn fi ca) [eI y] σ fun r σ'=> ∃s',r= .ret (.b true)∧Inv (k+1) s'∧Sat σ' (H s')) (σ:AH) (hs:Sat σ (H s)) :
    BC Tryz.prog 136 [.f fn fi ca,.rp [.l (iL xs) f]] σ fun r σ'=> ∃s',r= .ret (.t [])∧Inv xs.length s'∧Sat σ' (H s'):=by
 have hM:=Mx;refine kN kZ ?_
 conv=>whnf
 repeat'((first|apply st|(apply sq;intro K U)|(apply si;intro A B Y Z)|(apply Y;clear Z B Y A)|(apply U;clear U K)|fail)<;>conv=>whnf)
 refine CZ xs.length (fun k (_:S)=>[(7,eI (BL k))]) (fun _ s'=>H s') (fun k s'=>Inv k s') s rfl h0 hs ?_;clear hs;rintro k s' σ hk ho hs;rcases BS xs hk with⟨y,hy,hlt⟩|hke
 ·have hT':=hT k s' y hy ho
  conv=>whnf
  repeat'((first|apply st|(apply sq;intro K U)|(apply si;intro A B Y Z)|(apply Y;clear Z B Y A)|(apply U;clear U K)|refine⟨rfl,?_⟩|refine ix ?_|(refine Cs (fun hc=>?_)<;>(try rw[hc])<;>clear hc)|fail)<;>conv=>whnf)
  refine(hT' σ hs).mono ?_;rintro r σ ⟨s2,rfl,hi2,hs⟩
  conv=>whnf
  repeat'((first|apply st|(apply si;intro A B Y Z)|(apply Y;clear Z B Y A)|(apply U;clear U K)|refine⟨rfl,?_⟩|refine EA ?_|fail)<;>conv=>whnf)
  exact⟨hlt,_,rfl,hi2,hs⟩
 ·rw[hke]at ho
  conv=>whnf
  repeat'((first|apply st|(apply sq;intro K U)|(apply si;intro A B Y Z)|(apply Y;clear Z B Y A)|(apply U;clear U K)|refine⟨rfl,?_⟩|(refine EV (fun hc=>?_)<;>(try rw[hc])<;>clear hc)|clear U K)<;>conv=>whnf)
  exact AP ⟨_,rfl,ho,hs⟩
def Xn (xs:List Int) (f:Bool) (hxl:xs.length≤1000):Bd Tryz.prog 118 [.l [] true,.f (.func 136) [] [.rp [.l (iL xs) f]]] [] fun r post=> ∃v,r= .ret v∧post= [.own v 1 (iL xs)]∧((Cc v).isSome=true∨(v= .l [] true∧xs= [])):=by
 intro σ hs;have hM:=Mx;refine Y2 kZ ?_
 conv=>whnf
 repeat'((first|apply st|(apply sq;intro K U)|(apply si;intro A B Y Z)|(apply Y;clear Z B Y A)|(apply U;clear U K)|(intro nn hnn;generalize hg:A8 _ nn _=σ;refine CW hg fun hs=>?_;clear hg)|fail)<;>conv=>whnf)
 rename_i nb _ _ _;clear hnn
 revert hs
 generalize hE:([(2,V.p nb 0)]:Env)=E;generalize hk:Bw _ _ _ _=ok;intro hs;refine BC.mono (bX xs f hxl (fn:= .yield nn) (fi:=[]) (ca:=[]) (H:=fun s:V×List Int=> .obj nn (.loop .ready E ok):: [.box nb [s.1],.own s.1 1 (iL s.2)]) (fun k s=>s.2=xs.take k∧(1≤k→(Cc s.1).isSome=true)∧(k=0→s.1= .l [] true)) (s:=(.l [] true,[])) ⟨rfl,fun h=>by omega,fun _=>rfl⟩ ?_ σ ((DK hs 1).perm (HZ _ _ _ _))) ?_
 ·clear hs
  subst hE hk;rintro k ⟨v,ys⟩ y hy ⟨h1,h2,h3⟩ σ hs;dsimp only at h1 h2 h3 hs;have hkl:k<xs.length:=(Hr.1 hy).1;have hyl:ys.length=k:=by rw[h1,MS];omega
  have hll:ys.length<Ae∧(ys.length+1)*8≤140737488355328:=by omega
  refine ZO (ER (l:=[.box nb [v],.own v 1 (iL ys)]) rfl hs ?_);clear hs;intro σ hs
  conv=>whnf
  repeat'((first|apply st|(apply si;intro A B Y Z)|(apply Y;clear Z B Y A)|refine ld ?_|refine El fun σ hs=>?_|refine aq fun v σ hs hsl=>?_|clear U K)<;>conv=>whnf)
  intro hn;exact⟨(v,ys++[y]),rfl,⟨by rw[AX hy,h1],fun _=>hsl,fun h=>by omega⟩,hs.JA hn⟩
 ·clear hs
  rintro r σ ⟨⟨v,ys⟩,rfl,⟨h1,h2,h3⟩,hs⟩;dsimp only at h1 h2 h3 hs;refine FJ hs fun σ hs=>?_
  conv=>whnf
  repeat'((first|apply st|(apply sq;intro K U)|(apply si;intro A B Y Z)|(apply Y;clear Z B Y A)|(apply U;clear U K)|refine ld ?_|fail)<;>conv=>whnf)
  rw[List.take_length]at h1;subst h1;refine Ar hs (Kh _ _) (.refl _) fun σ' hs'=>⟨_,⟨v,rfl,rfl,?_⟩,hs'⟩
  rcases Nat.eq_zero_or_pos ys.length with h|h
  ·exact .inr ⟨h3 h,bB.1 h⟩
  ·exact .inl (h2 h)
def Xd (xs:List Int) (f:Bool) (hxl:xs.length≤1000):Bd Tryz.prog 84 [.f (.func 136) [] [.rp [.l (iL xs) f]]] [] fun r post=> ∃v,r= .ret v∧post= [.own v 1 (iL xs)]∧((Cc v).isSome=true∨(v= .l [] true∧xs= [])):=by
 intro σ hs;refine eK kZ ?_
 conv=>whnf
 repeat'((first|(apply sq;intro K U)|(apply si;intro A B Y Z)|(apply Y;clear Z B Y A)|(apply U;clear U K)|fail)<;>conv=>whnf)
 refine(Xn xs f hxl).use (rest:=[]) (by simpa using hs) ?_;clear hs;rintro r post σ ⟨v,rfl,rfl,hv⟩ hs
 conv=>whnf
 repeat'((first|apply st|(apply Y;clear Z B Y A)|(apply U;clear U K)|fail)<;>conv=>whnf)
 exact Ar hs (List.sublist_append_left _ _) (.refl _) fun σ' hs'=>⟨_,⟨v,rfl,rfl,hv⟩,hs'⟩
def O3 (xs:List Int) (f:Bool) (hxl:xs.length≤1000):Pure Tryz.prog 101 [.f (.func 136) [] [.rp [.l (iL xs) f]]] (.l (iL (xs.mergeSort Ga)) false):=by
 refine lA kZ ?_;have hs:=Sn
 conv=>whnf
 repeat'((first|(apply sq;intro K U)|(apply si;intro A B Y Z)|(apply Y;clear Z B Y A)|(apply U;clear U K)|fail)<;>conv=>whnf)
 refine(Xd xs f hxl).use (rest:=[]) (by simpa using hs) ?_;clear hs;rintro r post σ ⟨v,rfl,rfl,hv⟩ hs
 conv=>whnf
 repeat'((first|(apply sq;intro K U)|(apply si;intro A B Y Z)|(apply Y;clear Z B Y A)|(apply U;clear U K)|fail)<;>conv=>whnf)
 refine(YJ hv).use (rest:=[]) hs ?_;clear hs;rintro r post σ ⟨rfl,rfl⟩ hs
 conv=>whnf
 repeat'((first|apply st|(apply sq;intro K U)|(apply si;intro A B Y Z)|(apply Y;clear Z B Y A)|(apply U;clear U K)|fail)<;>conv=>whnf)
 exact Bu (hs.RL 0 rfl)
def Pc {S:Type} {stp:Int→S→Bool×S} {q:Int→Bool}: ∀(xs:List Int) (k:Nat) (s:S),(∀y∈xs,∀s,(stp y s).1=q y)→decide ((Bj stp xs k s).1≥0)=xs.any q
 | [],_,_,_=>rfl
 | y ::r,k,s,h=>by
   rw[Bj,h y (.head _),Q7];cases hq:q y
   ·rw[if_neg (by decide),Bool.false_or]
    exact Pc r (k+1) _ fun z hz=>h z (.tail _ hz)
   ·rw[if_pos rfl,Bool.true_or]
    exact decide_eq_true (Int.natCast_nonneg k)
def Wp (l:List Int) (q:Int→Bool):(List.range l.length).all (fun j=> !q (l.getD j 0))= !l.any q:=by
 rw[Kk,EY,Bool.not_eq_true',←Bool.not_eq_true,Ip];constructor
 ·rintro h ⟨x,hx,hq⟩
  obtain⟨i,hi⟩:=List.getElem?_of_mem hx;have:=h i (List.mem_range.2 (Hr.1 hi).1);rw[E8 hi,hq]at this;cases this
 ·intro h j hj
  cases hq:q (l.getD j 0)
  ·rfl
  ·exact absurd ⟨_,PV (List.mem_range.1 hj),hq⟩ h
def Vs {p:Prog} {l:List Int} {M:List (Int×Int)}:(Bj (fun(m:Int) (M:List (Int×Int))=>(!(decide ((Bj (fun y M=>(Ap p y m,Md p M y m)) l 0 M).1≥0)),lh p l m M)) l 0 M).1=match Tc (Ap p) l with|some i=>((i:Nat):Int)|none=> -1:=by
 rw[Pb (q:=fun m=> !l.any fun y=>Ap p y m) l 0 M fun m _ s=>by dsimp only;rw[Pc (q:=fun y=>Ap p y m) l 0 s fun y _ s=>rfl]];rw[Tc,find_congr (g:=fun i=>WL (Ap p) l i l.length) fun i _=>by rw[WL,Wp l fun y=>Ap p y (l.getD i 0)]];cases(List.range l.length).find? fun i=>WL (Ap p) l i l.length with
 | none=>rfl
 | some i=>simp
set_option maxHeartbeats 4000000 in
def Xk (p:Prog) (L:Nat) (l:List Int) (f:Bool) (hok:EC p) (hgw:CE (AQ p)) (hfm: ∀x∈p.methods,CN (AQ p) x.fact=true) (hl:Mv p l) (hnd:l.Nodup) (M:List (Int×Int)) :
    Bd Tryz.prog 69 [FR p L,.l (iL l) f] [.map L (Eu p M)] fun r post=>r= .ret (.l (iL (GR (Ap p) l.length (l.mergeSort Ga))) true)∧ ∃M',post= [.map L (Eu p M')]:=by
 intro σ hs;have hM:=Mx;have h16:=hl.many;have hml:(l.mergeSort Ga).length=l.length:=List.length_mergeSort _;have c1:=O0 l f;have c2:=O3 l f (by omega);refine eO kZ ?_
 conv=>whnf
 repeat'((first|apply st|(apply sq;intro K U)|(apply si;intro A B Y Z)|(apply Y;clear Z B Y A)|(apply U;clear U K)|refine ld ?_|refine El fun σ hs=>?_|refine c1.use ?_|refine c2.use ?_|(intro nn hnn;generalize hg:A8 _ nn _=σ;refine CW hg fun hs=>?_;clear hg)|fail)<;>conv=>whnf)
 clear c1 c2 hnn
 refine GS (fun(x:List Int×Bool×V×List Int×List (Int×Int))=>x.1.length) (fun x=>[(5,x.2.2.1)]) (fun x=>[.box nn [.l (iL x.1) x.2.1],.own x.2.2.1 1 (iL x.2.2.2.1),.map L (Eu p x.2.2.2.2)])
  (fun x=>(∀y∈x.1,BE p y=true)∧x.1.Nodup∧x.2.2.2.1.length+x.1.length≤16∧GR (Ap p) l.length (l.mergeSort Ga)=x.2.2.2.1++GR (Ap p) x.1.length x.1) (l.mergeSort Ga,false,.l [] true,[],M) rfl ⟨fun y hy=>hl.Om y (List.mem_mergeSort.1 hy),(List.mergeSort_perm l Ga).symm.nodup hnd,by simpa[hml]using h16,by simp[hml]⟩ ((DK hs 1).perm (.swap _ _ _)) ?_
 clear hs;rintro⟨l',f',v,out,M⟩ σ ⟨hme,hn,hlen,hm⟩ hs;dsimp only at hme hn hlen hm hs;dsimp only;have hll:out.length<Ae∧(out.length+1)*8≤140737488355328:=by omega
 by_cases hz:l'.length=0
 ·rw[hz]at hm
  simp only[GR,Hs]at hm
  conv=>whnf
  repeat'((first|apply st|(apply sq;intro K U)|(apply si;intro A B Y Z)|(apply Y;clear Z B Y A)|(apply U;clear U K)|refine⟨rfl,?_⟩|refine ld ?_|(constructor<;>intro hc<;>(try rw[hc])<;>(replace hc:=bp hc)<;>(try simp(disch:=omega) only[BQ,wrap64,AL]at hc)<;>try(exfalso;omega))|clear U K)<;>conv=>whnf)
  refine(M3 out v (by omega)).use (rest:=[_,_]) (hs.perm (.swap _ _ _)) ?_;clear hs;rintro r post σ ⟨rfl,rfl⟩ hs
  conv=>whnf
  repeat'((first|apply st|(apply Y;clear Z B Y A)|(apply U;clear U K)|fail)<;>conv=>whnf)
  exact Ar hs (Kh _ _) (.refl _) fun σ' hs'=>⟨_,⟨by rw[hm],M,rfl⟩,hs'⟩
 ·obtain⟨n,hnn⟩: ∃n,l'.length=n+1:=⟨l'.length - 1,by omega⟩
  have hne:l'≠[]:=fun e=>hz (by rw[e];rfl)
  obtain⟨i,hi⟩:=PI hok hne hme;have hil:i<l'.length:=by simpa using List.mem_of_find?_eq_some hi
  obtain⟨x,hx⟩: ∃x,l'[i]? =some x:=⟨_,Da hil⟩
  rw[hnn,GR,hi,Option.getD_some,E8 hx]at hm;have c3:=K7 l' f' x (by omega);rw[Fb hn hx]at c3;have hel:=List.length_eraseIdx_of_lt hil
  conv=>whnf
  repeat'((first|apply st|(apply sq;intro K U)|(apply si;intro A B Y Z)|(apply Y;clear Z B Y A)|(apply U;clear U K)|refine⟨rfl,?_⟩|refine ld ?_|(constructor<;>intro hc<;>(try rw[hc])<;>(replace hc:=bp hc)<;>(try simp(disch:=omega) only[BQ,wrap64,AL]at hc)<;>try(exfalso;omega))|fail)<;>conv=>whnf)
  refine(HX 104 [] [.p nn 0,.rp [FR p L]] (fun M=>[.box nn [.l (iL l') f'],.map L (Eu p M)]) _ _ (VG p L nn l' f' hok hgw hfm hme) l' f' M (GW fun y hy _=>hme y hy)).use (rest:=[.own v 1 (iL out)]) (hs.perm (.cons _ (.swap _ _ _))) ?_;clear hs;rintro r post σ ⟨rfl,rfl⟩ hs;rw[Vs,hi];generalize (Bj _ l' 0 M).2=M2 at hs;dsimp only
  conv=>whnf
  repeat'((first|apply st|(apply sq;intro K U)|(apply si;intro A B Y Z)|(apply Y;clear Z B Y A)|(apply U;clear U K)|refine F8 ?_|refine ld ?_|refine El fun σ hs=>?_|refine aq fun v σ hs hsl=>?_|refine c3.use ?_|clear U K)<;>conv=>whnf)
  refine⟨(l'.eraseIdx i,true,v,out++[x],M2),by dsimp only;omega,rfl,⟨fun y hy=>hme y (List.mem_of_mem_eraseIdx hy),hn.sublist (List.eraseIdx_sublist _ _),by simp;omega,?_⟩,hs.perm (.cons _ (.swap _ _ _))⟩;dsimp only;rw[hm,hel,show l'.length - 1=n by omega];simp
def Wi: ∀ {l:List Int},l.Nodup→(l.mergeSort Ga).Pairwise (· < ·):=fun {l} h=>by
 have h1:=List.pairwise_mergeSort (le:=Ga) (fun a b c h1 h2=>by simp only[Ga,CY]at *;omega) (fun a b=>by simp only[Ga,FU,CY];omega) l;have h2:=List.nodup_iff_pairwise_ne.1 ((List.mergeSort_perm l Ga).symm.nodup h);exact(h1.and h2).imp fun⟨a,b⟩=>by simp only[Ga,CY]at a;omega
def Vf {x:Int}: ∀ {out:List Int},out.Pairwise (· < ·)→x∉out→(L3 x out).Pairwise (· < ·)
 | [],_,_=>by simp[L3]
 | y ::r,h,hx=>by
   rw[List.pairwise_cons]at h;rw[Fh,not_or]at hx;by_cases hy:y<x
   ·have e:L3 x (y::r)=y::L3 x r:=by simp[L3,List.takeWhile_cons,List.dropWhile_cons,hy]
    rw[e,List.pairwise_cons];refine⟨fun z hz=>?_,Vf h.2 hx.2⟩;rcases NH.1 hz with rfl|hz
    ·exact hy
    ·exact h.1 z hz
   ·have e:L3 x (y::r)=x::y::r:=by simp[L3,List.takeWhile_cons,List.dropWhile_cons,hy]
    rw[e,List.pairwise_cons,List.pairwise_cons];refine⟨fun z hz=>?_,h⟩;rcases Fh.1 hz with rfl|hz
    ·have:=hx.1;omega
    ·have:=h.1 z hz
     have:=hx.1;omega
def SX: ∀(l out:List Int),out.Pairwise (· < ·)→l.Nodup→(∀x∈l,x∉out)→(l.foldl (fun out x=>L3 x out) out).Pairwise (· < ·)
 | [],_,h,_,_=>h
 | x::r,out,h,hn,hx=>by
   rw[List.nodup_cons]at hn;refine SX r _ (Vf h (hx x (.head _))) hn.2 fun y hy hm=>?_
   rcases NH.1 hm with rfl|hm
   ·exact hn.1 hy
   ·exact hx y (.tail _ hy) hm
def O4 {l:List Int} (h:l.Nodup):l.mergeSort Ga=Iq l:=
 JK (Wi h) (SX l [] .nil h fun x _ hm=>by cases hm) fun x=>by rw[List.mem_mergeSort,Wj]
def CF (p:Prog) (os:List Ob) (gen:Int) (args:List (Int×Int)):Bool:=
 (BM p).isSome&&(FC (AQ p) os&&(I9 p gen&&(decide ((args.length:Int)=p.Cl.getD gen.toNat 0)&&args.all (Bt os.length))))
set_option maxHeartbeats 1000000 in
def dQ (p:Prog) (os:List Ob) (f:Bool) (gen:Int) (args:List (Int×Int)) (g:Bool):Pure Tryz.prog 24 [.a (BU p),.l (os.map E6) f,eI gen,.l (pP args) g] (.b (CF p os gen args)):=by
 refine Pure.fit (by kernel_rfl) fun hf=>?_
 have⟨p1,p2,p3,p4⟩:=Gq hf.1;have F:=Jn hf.1;have hM:=Mx;have c1:=fq p;cases h1:(BM p).isSome<;>rw[h1]at c1
 ·refine Rr kZ ?_
  have hs:=Sn
  conv=>whnf
  repeat'((first|apply st|(apply sq;intro K U)|(apply si;intro A B Y Z)|(apply Y;clear Z B Y A)|(apply U;clear U K)|refine⟨kZ,?_⟩|refine c1.use ?_|fail)<;>conv=>whnf)
  all_goals exact AI (by simp[CF,h1])
 have hok:=look_ok h1;have c2:=MD p F hok.dv hok.AS;have c3:=gC (AQ p) os f hok.lO;cases h2:FC (AQ p) os<;>rw[h2]at c3
 ·refine Rr kZ ?_
  have hs:=Sn
  conv=>whnf
  repeat'((first|apply st|(apply sq;intro K U)|(apply si;intro A B Y Z)|(apply Y;clear Z B Y A)|(apply U;clear U K)|refine⟨kZ,?_⟩|refine EA ?_|refine c1.use ?_|refine c2.use ?_|refine c3.use ?_|fail)<;>conv=>whnf)
  all_goals exact AI (by simp[CF,h1,h2])
 have c4:=ma p gen;cases h3:I9 p gen<;>rw[h3]at c4
 ·refine Rr kZ ?_
  have hs:=Sn
  conv=>whnf
  repeat'((first|apply st|(apply sq;intro K U)|(apply si;intro A B Y Z)|(apply Y;clear Z B Y A)|(apply U;clear U K)|refine⟨kZ,?_⟩|refine E7 ?_|refine EA ?_|refine c1.use ?_|refine c2.use ?_|refine c3.use ?_|refine c4.use ?_|fail)<;>conv=>whnf)
  all_goals exact AI (by simp[CF,h1,h2,h3])
 have hg:=h3;simp only[I9,BY,CY]at hg;obtain⟨x,hx⟩: ∃x,p.Cl[gen.toNat]? =some x:=⟨_,Da (by omega)⟩
 have hxd:p.Cl.getD gen.toNat 0=x:=by rw[Dc,hx];rfl
 have e3:((os.map E6).length:Int)=os.length:=by simp
 have c5:Pure Tryz.prog 63 [.l (pP args) g,eI ((os.map E6).length:Int)] (.b (args.all (Bt os.length))):=by rw[e3];exact YY args g os.length
 have e:CF p os gen args=(decide ((args.length:Int)=x)&&args.all (Bt os.length)):=by simp only[CF,h1,h2,h3,hxd,EW]
 rw[e];by_cases he:(args.length:Int)=x
 ·rw[decide_eq_true he,EW]
  refine Rr kZ ?_;have hs:=Sn
  conv=>whnf
  repeat'((first|apply st|(apply sq;intro K U)|(apply si;intro A B Y Z)|(apply Y;clear Z B Y A)|(apply U;clear U K)|refine⟨rfl,?_⟩|refine⟨kZ,?_⟩|refine F8 ?_|refine E7 ?_|refine c1.use ?_|refine c2.use ?_|refine c3.use ?_|refine c4.use ?_|refine c5.use ?_|(constructor<;>intro hc<;>(try rw[hc])<;>(replace hc:=bp hc)<;>(try simp(disch:=omega) only[BQ,wrap64,AL]at hc))|fail)<;>conv=>whnf)
  all_goals first
   | exact AI rfl
   | (exfalso;simp[he]at hc;done)
 ·rw[decide_eq_false he,Bool.false_and]
  refine Rr kZ ?_;have hs:=Sn
  conv=>whnf
  repeat'((first|apply st|(apply sq;intro K U)|(apply si;intro A B Y Z)|(apply Y;clear Z B Y A)|(apply U;clear U K)|refine⟨rfl,?_⟩|refine⟨kZ,?_⟩|refine F8 ?_|refine E7 ?_|refine c1.use ?_|refine c2.use ?_|refine c3.use ?_|refine c4.use ?_|refine c5.use ?_|(constructor<;>intro hc<;>(try rw[hc])<;>(replace hc:=bp hc)<;>(try simp(disch:=omega) only[BQ,wrap64,AL]at hc))|fail)<;>conv=>whnf)
  all_goals first
   | (exfalso;simp[he]at hc;done)
   | exact AI rfl
def Hu (os:List Ob) (v:Int×Int):Int:=if v.1=1 then 1 else if v.1=2 then 2 else(os.getD v.2.toNat (0,[])).1
def Us (os:List Ob) (f:Bool) (v:Int×Int) (hv:Bt os.length v=true):Pure Tryz.prog 121 [.l (os.map E6) f,.a (pI v)] (.i .i64 (Hu os v)):=by
 refine Pure.fit (by kernel_rfl) fun hf=>?_
 have hM:=Mx
 have hol:os.length≤Ae:=by
  have:=hf.1;simp only[Ed,BQ]at this;exact this.1
 obtain⟨k,n⟩:=v;refine kg kZ ?_;have hs:=Sn;by_cases h1:k=1
 ·conv=>whnf
  repeat'((first|apply st|(apply sq;intro K U)|(apply si;intro A B Y Z)|(apply Y;clear Z B Y A)|(apply U;clear U K)|refine⟨rfl,?_⟩|(constructor<;>intro hc<;>(try rw[hc])<;>(replace hc:=bp hc)<;>(try simp(disch:=omega) only[BQ,wrap64,AL]at hc)<;>try(exfalso;omega))|clear U K)<;>conv=>whnf)
  all_goals exact AI (by simp[Hu,h1])
 by_cases h2:k=2
 ·conv=>whnf
  repeat'((first|apply st|(apply sq;intro K U)|(apply si;intro A B Y Z)|(apply Y;clear Z B Y A)|(apply U;clear U K)|refine⟨rfl,?_⟩|(constructor<;>intro hc<;>(try rw[hc])<;>(replace hc:=bp hc)<;>(try simp(disch:=omega) only[BQ,wrap64,AL]at hc)<;>try(exfalso;omega))|clear U K)<;>conv=>whnf)
  all_goals exact AI (by simp[Hu,h1,h2])
 ·have hn:0≤n∧n<os.length:=by
   simp only[Bt,if_neg h1,if_neg h2]at hv;split at hv
   ·simpa using hv
   ·cases hv
  obtain⟨x,hx⟩: ∃x,os[n.toNat]? =some x:=⟨_,Da (by omega)⟩
  have hxd:os.getD n.toNat (0,[])=x:=by rw[Dc,hx];rfl
  conv=>whnf
  repeat'((first|apply st|(apply sq;intro K U)|(apply si;intro A B Y Z)|(apply Y;clear Z B Y A)|(apply U;clear U K)|refine⟨rfl,?_⟩|refine F8 ?_|(constructor<;>intro hc<;>(try rw[hc])<;>(replace hc:=bp hc)<;>(try simp(disch:=omega) only[BQ,wrap64,AL]at hc)<;>try(exfalso;omega))|fail)<;>conv=>whnf)
  all_goals exact AI (by rw[Hu,if_neg h1,if_neg h2,hxd])
end Go.Gl
namespace Go.Gl
open Go.Proofs
def lD {σ:AH} {l:List At} {i:Nat} {v:V} {sz:Nat} {es:List (List V)} (hs:Sat σ l) (hi:l[i]? =some (.own v sz es)) (he: ∀e∈es,e.length=sz) {K:V→AH→Prop} (hk: ∀v' σ',Sat σ' (l.set i (.own v' sz es))→((Cc v').isSome=true∨(v'= .l es true∧v= .l es true))→K v' σ'):AV σ sz v none (some (.i .i64 (es.length:Int))) (some (.i .i64 (es.length:Int))) K:=by
 rcases hs.get hi with⟨rfl,_⟩|⟨n,cap,rfl,hn⟩
 ·refine⟨he,?_⟩
  simp only[OM];refine⟨Int.le_refl _,Int.natCast_nonneg _,Int.le_refl _,trivial,?_⟩
  have hset:l.set i (.own (.l es true) sz es)=l:=by
   refine List.ext_getElem? fun j=>?_
   by_cases hj:i=j
   ·subst hj
    rw[List.getElem?_set_self (Hr.1 hi).1,hi]
   ·rw[List.getElem?_set_ne hj]
  have:=hk (.l es true) σ (by rw[hset];exact hs) (.inr ⟨rfl,rfl⟩);simpa using this
 ·unfold AV
  simp only[OM];refine⟨Int.le_refl _,Int.natCast_nonneg _,Int.le_refl _,trivial,trivial,trivial,?_⟩;rw[hn];refine⟨rfl,rfl,rfl,.inr (hk _ _ ?_ (.inl rfl))⟩;refine hs.change hi (fun b hb ha=>Em hb fun m hm=>?_) (fun b hb ha m hm=>?_) (.inr ⟨n,es.length,rfl,D7 _ _ _⟩)
  ·rw[Ct]
   intro e;subst e;exact ha m rfl hm
  ·cases hm
   exact ha _ rfl
attribute [local irreducible] BC Ax Ai AU AO Ag AV AW AM Af AR AT A0 A9 Sat Ab A6 Ak W
def dI (xs:List Int) (v:V) (hl:xs.length≤Ae) (hv:(Cc v).isSome=true∨(v= .l [] true∧xs= [])):Bd Tryz.prog 99 [v] [.own v 1 (iL xs)] fun r post=> ∃v',r= .ret v'∧post= [.own v' 1 (iL xs)]∧((Cc v').isSome=true∨(v'= .l [] true∧xs= [])):=by
 intro σ hs;have hg:=DQ Co xs;refine eH kZ ?_
 conv=>whnf
 repeat'((first|(apply sq;intro K U)|(apply si;intro A B Y Z)|(apply Y;clear Z B Y A)|(apply U;clear U K)|refine lo ?_|fail)<;>conv=>whnf)
 refine lD (i:=0) hs rfl hg.1 fun v' σ hs hv'=>?_
 conv=>whnf
 repeat'((first|apply st|(apply Y;clear Z B Y A)|(apply U;clear U K)|fail)<;>conv=>whnf)
 refine Ar hs (List.Sublist.refl _) (.refl _) fun σ' hs'=>⟨_,⟨v',rfl,rfl,?_⟩,hs'⟩
 rcases hv' with h|⟨h1,h2⟩
 ·exact .inl h
 ·rcases hv with h|⟨h3,h4⟩
  ·rw[h2]at h;cases h
  ·subst h4
   exact .inr ⟨h1,rfl⟩
def Rn (xs ys:List Int) (k:Nat):Prop:=ys.length=xs.length∧ ∀t,t<xs.length→ys[t]? =if t<k∨xs.length - k≤t then xs[xs.length - 1 - t]? else xs[t]?
def gu (xs:List Int):Rn xs xs 0:=⟨rfl,fun t ht=>by rw[if_neg (by omega)]⟩
def Z7 {xs ys:List Int} {k:Nat} (h:Rn xs ys k) (hk:xs.length≤2*k+1):ys=xs.reverse:=by
 refine List.ext_getElem? fun t=>?_
 rcases Nat.lt_or_ge t xs.length with ht|ht
 ·rw[h.2 t ht,List.getElem?_reverse ht]
  split
  ·rfl
  ·congr 1;omega
 ·rw[List.getElem?_eq_none (by rw[h.1];exact ht),List.getElem?_eq_none (by rw[List.length_reverse];exact ht)]
def XH {xs ys:List Int} {k:Nat} {a b:Int} (h:Rn xs ys k) (hk:2*k+1<xs.length) (ha:ys[k]? =some a) (hb:ys[xs.length - 1 - k]? =some b):Rn xs ((ys.set k b).set (xs.length - 1 - k) a) (k+1):=by
 have h1:=h.2 k (by omega);have h2:=h.2 (xs.length - 1 - k) (by omega);rw[if_neg (by omega),ha]at h1;rw[if_neg (by omega),hb]at h2;refine⟨by rw[List.length_set,List.length_set];exact h.1,fun t ht=>?_⟩;have hl:=h.1;by_cases e1:t=xs.length - 1 - k
 ·subst e1
  rw[List.getElem?_set_self (by rw[List.length_set];omega),if_pos (by omega),show xs.length - 1 - (xs.length - 1 - k)=k by omega,h1]
 ·rw[List.getElem?_set_ne (fun e=>e1 e.symm)]
  by_cases e2:t=k
  ·subst e2
   rw[List.getElem?_set_self (by omega),if_pos (by omega),h2]
  ·rw[List.getElem?_set_ne (fun e=>e2 e.symm),h.2 t ht]
   by_cases e3:t<k∨xs.length - k≤t
   ·rw[if_pos e3,if_pos (by omega)]
   ·rw[if_neg e3,if_neg (by omega)]
end Go.Gl
namespace Go.Gl
open Go.Proofs
attribute [local irreducible] BC Ax Ai AU AO Ag AV AW AM Af AR AT A0 A9 Sat Ab A6 Ak W
set_option maxHeartbeats 1000000 in
def Wm (xs:List Int) (v:V) (hl:xs.length≤1000) (hv:(Cc v).isSome=true∨(v= .l [] true∧xs= [])):Bd Tryz.prog 82 [v] [.own v 1 (iL xs)] fun r post=>r= .ret (.t [])∧post= [.own v 1 (iL xs.reverse)]:=by
 intro σ hs;have hM:=Mx;have e0:((iL xs).length:Int)=xs.length:=by simp
 have hw0:IntKind.i64.wrap (((iL xs).length:Int) - 1)=(xs.length:Int) - 1:=by rw[e0,wrap64 (by omega) (by omega)]
 refine m8 kZ ?_
 conv=>whnf
 repeat'((first|apply st|(apply sq;intro K U)|(apply si;intro A B Y Z)|(apply Y;clear Z B Y A)|(apply U;clear U K)|refine⟨rfl,?_⟩|refine lo ?_|fail)<;>conv=>whnf)
 refine GS (fun(x:Int×Int×List Int)=>(x.2.1+1).toNat) (fun x=>[(2,eI x.1),(3,eI x.2.1)]) (fun x=>[.own v 1 (iL x.2.2)]) (fun x=> ∃k:Nat,x.1=k∧x.2.1=(xs.length:Int) - 1 - k∧2*k≤xs.length+1∧Rn xs x.2.2 k) (0,IntKind.i64.wrap (((iL xs).length:Int) - 1),xs) rfl ⟨0,rfl,by rw[hw0];simp,by omega,gu xs⟩ hs ?_;clear hs;rintro⟨i,j,ys⟩ σ ⟨k,hi,hj,hk,hh⟩ hs;dsimp only at hi hj hh hs;dsimp only;have hyl:=hh.1;by_cases hij:i<j
 ·have hsv:(Cc v).isSome=true:=by
   rcases hv with h|⟨h1,h2⟩
   ·exact h
   ·rw[h2]at hj;simp at hj;omega
  have hwi:IntKind.i64.wrap (i+1)=i+1:=wrap64 (by omega) (by omega);have hwj:IntKind.i64.wrap (j - 1)=j - 1:=wrap64 (by omega) (by omega);obtain⟨a,ha⟩: ∃a,ys[i.toNat]? =some a:=⟨_,Da (by omega)⟩
  obtain⟨b,hb⟩: ∃b,ys[j.toNat]? =some b:=⟨_,Da (by omega)⟩
  conv=>whnf
  repeat'((first|apply st|(apply sq;intro K U)|(apply si;intro A B Y Z)|(apply Y;clear Z B Y A)|(apply U;clear U K)|apply dr|refine⟨rfl,?_⟩|refine oi ?_|refine uB ?_|refine lQ ?_|refine oset fun σ hs=>?_|refine oset (fun σ hs=>?_) (h1:=by rw[List.length_set];omega)|(constructor<;>intro hc<;>(try rw[hc])<;>(replace hc:=bp hc)<;>try(exfalso;omega))|fail)<;>conv=>whnf)
  have hik:i.toNat=k:=by omega
  have hjk:j.toNat=xs.length - 1 - k:=by omega
  refine⟨(IntKind.i64.wrap (i+1),IntKind.i64.wrap (j - 1),(ys.set i.toNat b).set j.toNat a),by dsimp only;rw[hwj];omega,rfl,⟨k+1,by dsimp only;rw[hwi];omega,by dsimp only;rw[hwj];omega,by omega,?_⟩,hs⟩;dsimp only;rw[hik]at ha ⊢;rw[hjk]at hb ⊢;exact XH hh (by omega) ha hb
 ·have he:=Z7 hh (by omega)
  conv=>whnf
  repeat'((first|apply st|(apply sq;intro K U)|(apply si;intro A B Y Z)|(apply Y;clear Z B Y A)|(apply U;clear U K)|refine⟨rfl,?_⟩|(constructor<;>intro hc<;>(try rw[hc])<;>(replace hc:=bp hc)<;>try(exfalso;omega))|clear U K)<;>conv=>whnf)
  subst he;exact Ar hs (List.Sublist.refl _) (.refl _) fun σ' hs'=>⟨_,⟨rfl,rfl⟩,hs'⟩
set_option maxHeartbeats 4000000 in
def Ut (p:Prog) (L:Nat) (l:List Int) (f:Bool) (hok:EC p) (hgw:CE (AQ p)) (hfm: ∀x∈p.methods,CN (AQ p) x.fact=true) (hl:Mv p l) (hnd:l.Nodup) (M:List (Int×Int)) :
    Bd Tryz.prog 69 [FR p L,.l (iL l) f] [.map L (Eu p M)] fun r post=> ∃v M',r= .ret v∧post= [.own v 1 (iL (GR (Ap p) l.length (l.mergeSort Ga))),.map L (Eu p M')]∧((Cc v).isSome=true∨(v= .l [] true∧GR (Ap p) l.length (l.mergeSort Ga)= [])):=by
 intro σ hs;have hM:=Mx;have h16:=hl.many;have hml:(l.mergeSort Ga).length=l.length:=List.length_mergeSort _;have c1:=O0 l f;have c2:=O3 l f (by omega);refine eO kZ ?_
 conv=>whnf
 repeat'((first|apply st|(apply sq;intro K U)|(apply si;intro A B Y Z)|(apply Y;clear Z B Y A)|(apply U;clear U K)|refine ld ?_|refine El fun σ hs=>?_|refine c1.use ?_|refine c2.use ?_|(intro nn hnn;generalize hg:A8 _ nn _=σ;refine CW hg fun hs=>?_;clear hg)|fail)<;>conv=>whnf)
 clear c1 c2 hnn
 refine GS (fun(x:List Int×Bool×V×List Int×List (Int×Int))=>x.1.length) (fun x=>[(5,x.2.2.1)]) (fun x=>[.box nn [.l (iL x.1) x.2.1],.own x.2.2.1 1 (iL x.2.2.2.1),.map L (Eu p x.2.2.2.2)])
  (fun x=>(∀y∈x.1,BE p y=true)∧x.1.Nodup∧x.2.2.2.1.length+x.1.length≤16∧GR (Ap p) l.length (l.mergeSort Ga)=x.2.2.2.1++GR (Ap p) x.1.length x.1∧((Cc x.2.2.1).isSome=true∨(x.2.2.1= .l [] true∧x.2.2.2.1= []))) (l.mergeSort Ga,false,.l [] true,[],M) rfl ⟨fun y hy=>hl.Om y (List.mem_mergeSort.1 hy),(List.mergeSort_perm l Ga).symm.nodup hnd,by simpa[hml]using h16,by simp[hml],.inr ⟨rfl,rfl⟩⟩ ((DK hs 1).perm (.swap _ _ _)) ?_
 clear hs;rintro⟨l',f',v,out,M⟩ σ ⟨hme,hn,hlen,hm,hv⟩ hs;dsimp only at hme hn hlen hm hv hs;dsimp only;have hll:out.length<Ae∧(out.length+1)*8≤140737488355328:=by omega
 by_cases hz:l'.length=0
 ·rw[hz]at hm
  simp only[GR,Hs]at hm
  conv=>whnf
  repeat'((first|apply st|(apply sq;intro K U)|(apply si;intro A B Y Z)|(apply Y;clear Z B Y A)|(apply U;clear U K)|refine⟨rfl,?_⟩|refine ld ?_|(constructor<;>intro hc<;>(try rw[hc])<;>(replace hc:=bp hc)<;>(try simp(disch:=omega) only[BQ,wrap64,AL]at hc)<;>try(exfalso;omega))|clear U K)<;>conv=>whnf)
  refine(dI out v (by omega) hv).use (rest:=[_,_]) (hs.perm (.swap _ _ _)) ?_;clear hs;rintro r post σ ⟨v',rfl,rfl,hv'⟩ hs
  conv=>whnf
  repeat'((first|apply st|(apply Y;clear Z B Y A)|(apply U;clear U K)|fail)<;>conv=>whnf)
  rw[hm];exact Ar hs (.cons₂ _ (Kh _ _)) (.refl _) fun σ' hs'=>⟨_,⟨v',M,rfl,rfl,hv'⟩,hs'⟩
 ·obtain⟨n,hnn⟩: ∃n,l'.length=n+1:=⟨l'.length - 1,by omega⟩
  have hne:l'≠[]:=fun e=>hz (by rw[e];rfl)
  obtain⟨i,hi⟩:=PI hok hne hme;have hil:i<l'.length:=by simpa using List.mem_of_find?_eq_some hi
  obtain⟨x,hx⟩: ∃x,l'[i]? =some x:=⟨_,Da hil⟩
  rw[hnn,GR,hi,Option.getD_some,E8 hx]at hm;have c3:=K7 l' f' x (by omega);rw[Fb hn hx]at c3;have hel:=List.length_eraseIdx_of_lt hil
  conv=>whnf
  repeat'((first|apply st|(apply sq;intro K U)|(apply si;intro A B Y Z)|(apply Y;clear Z B Y A)|(apply U;clear U K)|refine⟨rfl,?_⟩|refine ld ?_|(constructor<;>intro hc<;>(try rw[hc])<;>(replace hc:=bp hc)<;>(try simp(disch:=omega) only[BQ,wrap64,AL]at hc)<;>try(exfalso;omega))|fail)<;>conv=>whnf)
  refine(HX 104 [] [.p nn 0,.rp [FR p L]] (fun M=>[.box nn [.l (iL l') f'],.map L (Eu p M)]) _ _ (VG p L nn l' f' hok hgw hfm hme) l' f' M (GW fun y hy _=>hme y hy)).use (rest:=[.own v 1 (iL out)]) (hs.perm (.cons _ (.swap _ _ _))) ?_;clear hs;rintro r post σ ⟨rfl,rfl⟩ hs;rw[Vs,hi];generalize (Bj _ l' 0 M).2=M2 at hs;dsimp only
  conv=>whnf
  repeat'((first|apply st|(apply sq;intro K U)|(apply si;intro A B Y Z)|(apply Y;clear Z B Y A)|(apply U;clear U K)|refine F8 ?_|refine ld ?_|refine El fun σ hs=>?_|refine aq fun v σ hs hsl=>?_|refine c3.use ?_|clear U K)<;>conv=>whnf)
  refine⟨(l'.eraseIdx i,true,v,out++[x],M2),by dsimp only;omega,rfl,⟨fun y hy=>hme y (List.mem_of_mem_eraseIdx hy),hn.sublist (List.eraseIdx_sublist _ _),by simp;omega,?_,.inl hsl⟩,hs.perm (.cons _ (.swap _ _ _))⟩;dsimp only;rw[hm,hel,show l'.length - 1=n by omega];simp
def Xf (os:List Ob) (f:Bool) (v:Int×Int):Pure Tryz.prog 79 [.a (pI v),.rp [.l (os.map E6) f]] (.b (Bt os.length v)):=by
 have e3:((os.map E6).length:Int)=os.length:=by simp
 have c1:Pure Tryz.prog 80 [.a (pI v),eI ((os.map E6).length:Int)] (.b (Bt os.length v)):=by rw[e3];exact bW v os.length
 refine nA kZ ?_;have hs:=Sn
 conv=>whnf
 repeat'((first|apply st|(apply sq;intro K U)|(apply si;intro A B Y Z)|(apply Y;clear Z B Y A)|(apply U;clear U K)|refine⟨kZ,?_⟩|refine c1.use ?_|fail)<;>conv=>whnf)
 all_goals exact AI rfl
def dK (xs:List (Int×Int)) (v:V) (hl:xs.length≤Ae):Bd Tryz.prog 114 [v] [.own v 2 (pP xs)] fun r post=>r= .ret (.l (pP xs) true)∧post= []:=by
 intro σ hs;have hg:=DQ Mz xs;refine kr kZ ?_
 conv=>whnf
 repeat'((first|(apply sq;intro K U)|(apply si;intro A B Y Z)|(apply Y;clear Z B Y A)|(apply U;clear U K)|refine lo ?_|fail)<;>conv=>whnf)
 refine U9 (i:=0) hs rfl hg.1 (by simpa using hl) fun σ hs=>?_
 conv=>whnf
 repeat'((first|apply st|(apply Y;clear Z B Y A)|(apply U;clear U K)|fail)<;>conv=>whnf)
 exact Ar hs (List.Sublist.refl _) (.refl _) fun σ' hs'=>⟨_,⟨rfl,rfl⟩,hs'⟩
def aE (os:List Ob) (f:Bool) (xs:List (Int×Int)) (g:Bool) (hxl:xs.length≤1000):Pure Tryz.prog 78 [.l (pP xs) g,.f (.func 79) [] [.rp [.l (os.map E6) f]]] (.l (pP (xs.filter (Bt os.length))) true):=by
 refine Pure.of ?_;have hM:=Mx;refine nB kZ ?_;have hs:=Sn
 conv=>whnf
 repeat'((first|apply st|(apply sq;intro K U)|(apply si;intro A B Y Z)|(apply Y;clear Z B Y A)|(apply U;clear U K)|fail)<;>conv=>whnf)
 refine CZ xs.length (fun k v=>[(5,v),(10,eI (BL k))]) (fun k v=>[.own v 2 (pP ((xs.take k).filter (Bt os.length)))]) (fun _ _=>True) (.l [] true) rfl trivial (Gg hs 2) ?_;clear hs;rintro k v σ hk - hs;have hfl:=OJ (Bt os.length) (xs.take k);rw[MS]at hfl;rcases BS xs hk with⟨y,hy,hlt⟩|hke
 ·have hst:(xs.take (k+1)).filter (Bt os.length)=if Bt os.length y then(xs.take k).filter (Bt os.length)++[y]else(xs.take k).filter (Bt os.length):=by
   rw[AX hy,List.filter_append];cases hp:Bt os.length y<;>simp[hp]
  generalize (xs.take k).filter (Bt os.length)=zs at *;have hll:zs.length<Ae∧(zs.length+1)*16≤140737488355328:=by omega
  have c1:=Xf os f y;cases hvy:Bt os.length y<;>rw[hvy]at c1 hst
  ·conv=>whnf
   repeat'((first|apply st|(apply sq;intro K U)|(apply si;intro A B Y Z)|(apply Y;clear Z B Y A)|(apply U;clear U K)|refine⟨rfl,?_⟩|refine⟨kZ,?_⟩|refine ix ?_|refine ld ?_|refine DJ fun σ hs=>?_|(refine Cs (fun hc=>?_)<;>(try rw[hc])<;>clear hc)|refine Bl (c1.use ?_)|(intro nn hnn;generalize hg:A8 _ nn _=σ;refine CW hg fun hs=>?_;clear hg)|clear U K)<;>conv=>whnf)
   exact⟨hlt,_,rfl,trivial,by rw[hst];exact hs.less (Kh _ _)⟩
  ·conv=>whnf
   repeat'((first|apply st|(apply sq;intro K U)|(apply si;intro A B Y Z)|(apply Y;clear Z B Y A)|(apply U;clear U K)|refine⟨rfl,?_⟩|refine⟨kZ,?_⟩|refine ix ?_|refine ld ?_|refine DJ fun σ hs=>?_|(refine Cs (fun hc=>?_)<;>(try rw[hc])<;>clear hc)|refine Bl (c1.use ?_)|refine aq (enc:=pI) (x:=((_:Int),(_:Int))) (fun v σ hs hsl=>?_) (hg:=Mz)|(intro nn hnn;generalize hg:A8 _ nn _=σ;refine CW hg fun hs=>?_;clear hg)|clear U K)<;>conv=>whnf)
   exact⟨hlt,_,rfl,trivial,by rw[hst];exact hs.less (Kh _ _)⟩
 ·rw[BK hke]at hs
  conv=>whnf
  repeat'((first|apply st|(apply sq;intro K U)|(apply si;intro A B Y Z)|(apply Y;clear Z B Y A)|(apply U;clear U K)|refine⟨rfl,?_⟩|(refine EV (fun hc=>?_)<;>(try rw[hc])<;>clear hc)|clear U K)<;>conv=>whnf)
  refine(dK (xs.filter (Bt os.length)) v (by have:=OJ (Bt os.length) xs;omega)).use (rest:=[]) (by simpa using hs) ?_;clear hs;rintro r post σ ⟨rfl,rfl⟩ hs
  conv=>whnf
  repeat'((first|apply st|(apply Y;clear Z B Y A)|(apply U;clear U K)|fail)<;>conv=>whnf)
  exact AP (by rfl)
def Wh (f : Fact):Mq f=true→Pure Tryz.prog 116 [.a (xF f)] (eI (C4 f)):=by
 induction f using Fact.ind with
 | h f ih=>
   intro ha;refine Pure.fit (by kernel_rfl) fun hf=>?_
   have⟨h2,h3,h4⟩:=Jm hf.1;have hM:=Mx;rw[KO]at ha;simp only[BY,CY,List.all_map,EY]at ha;have c1:=ML f;refine kq kZ ?_;have hs:=Sn;by_cases hlf:Bm f=true
   ·rw [hlf]at c1
    have hw:IntKind.i64.wrap (f.arg+1)=f.arg+1:=wrap64 (by omega) (by omega)
    conv=>whnf
    repeat'((first|apply st|(apply sq;intro K U)|(apply si;intro A B Y Z)|(apply Y;clear Z B Y A)|(apply U;clear U K)|refine⟨rfl,?_⟩|refine⟨kZ,?_⟩|refine c1.use ?_|fail)<;>conv=>whnf)
    all_goals
     refine CZ f.kids.length (fun k (_:Unit)=>[(3,eI (((f.kids.take k).map C4).foldl Gf (if Bm f then f.arg+1 else 0))),(14,eI (BL k))]) (fun _ _=>[]) (fun _ _=>True) () (by rw[hw,if_pos hlf];rfl) trivial hs ?_;clear hs;rintro k - σ hk - hs;rcases BS f.kids hk with⟨x,hx,hlt⟩|hke
     ·have hxs:=ih x (Cj hx) (ha.2 x (Cj hx))
      conv=>whnf
      repeat'((first|apply st|(apply sq;intro K U)|(apply si;intro A B Y Z)|(apply Y;clear Z B Y A)|(apply U;clear U K)|refine⟨rfl,?_⟩|refine⟨kZ,?_⟩|refine TP ?_|refine ld ?_|refine DJ fun σ hs=>?_|(refine Cs (fun hc=>?_)<;>(try rw[hc])<;>clear hc)|(intro nn hnn;generalize hg:A8 _ nn _=σ;refine CW hg fun hs=>?_;clear hg)|refine Pure.use (by assumption) ?_|clear U K)<;>conv=>whnf)
      exact⟨hlt,(),by rw[EF _ _ _ hx];rfl,trivial,hs.take 0⟩
     ·conv=>whnf
      repeat'((first|apply st|(apply sq;intro K U)|(apply si;intro A B Y Z)|(apply Y;clear Z B Y A)|(apply U;clear U K)|refine⟨rfl,?_⟩|(refine EV (fun hc=>?_)<;>(try rw[hc])<;>clear hc)|clear U K)<;>conv=>whnf)
      exact AI (by rw[BK hke,←Ds])
   ·rw [Bool.not_eq_true]at hlf
    rw[hlf]at c1;have hlf2: ¬Bm f=true:=by rw[hlf];decide
    conv=>whnf
    repeat'((first|apply st|(apply sq;intro K U)|(apply si;intro A B Y Z)|(apply Y;clear Z B Y A)|(apply U;clear U K)|refine⟨kZ,?_⟩|refine c1.use ?_|fail)<;>conv=>whnf)
    all_goals
     refine CZ f.kids.length (fun k (_:Unit)=>[(3,eI (((f.kids.take k).map C4).foldl Gf (if Bm f then f.arg+1 else 0))),(14,eI (BL k))]) (fun _ _=>[]) (fun _ _=>True) () (by rw[if_neg hlf2];rfl) trivial hs ?_;clear hs;rintro k - σ hk - hs;rcases BS f.kids hk with⟨x,hx,hlt⟩|hke
     ·have hxs:=ih x (Cj hx) (ha.2 x (Cj hx))
      conv=>whnf
      repeat'((first|apply st|(apply sq;intro K U)|(apply si;intro A B Y Z)|(apply Y;clear Z B Y A)|(apply U;clear U K)|refine⟨rfl,?_⟩|refine⟨kZ,?_⟩|refine TP ?_|refine ld ?_|refine DJ fun σ hs=>?_|(refine Cs (fun hc=>?_)<;>(try rw[hc])<;>clear hc)|(intro nn hnn;generalize hg:A8 _ nn _=σ;refine CW hg fun hs=>?_;clear hg)|refine Pure.use (by assumption) ?_|clear U K)<;>conv=>whnf)
      exact⟨hlt,(),by rw[EF _ _ _ hx];rfl,trivial,hs.take 0⟩
     ·conv=>whnf
      repeat'((first|apply st|(apply sq;intro K U)|(apply si;intro A B Y Z)|(apply Y;clear Z B Y A)|(apply U;clear U K)|refine⟨rfl,?_⟩|(refine EV (fun hc=>?_)<;>(try rw[hc])<;>clear hc)|clear U K)<;>conv=>whnf)
      exact AI (by rw[BK hke,←Ds])
def Rw (v:Int×Int) (n:Int):Pure Tryz.prog 149 [.a (pI v),eI n] (.b (Bt n v)):=by
 obtain⟨k,x⟩:=v;refine kC kZ ?_;have hs:=Sn
 conv=>whnf
 repeat'((first|apply st|(apply sq;intro K U)|(apply si;intro A B Y Z)|(apply Y;clear Z B Y A)|(apply U;clear U K)|refine⟨rfl,?_⟩|(constructor<;>intro hc<;>(try rw[hc])<;>(replace hc:=bp hc)<;>(try simp(disch:=omega) only[BQ,wrap64,AL]at hc))|clear U K)<;>conv=>whnf)
 all_goals exact AI (by simp[Bt, *]<;>omega)
def Uo (os:List Ob) (f:Bool) (v:Int×Int):Pure Tryz.prog 148 [.a (pI v),.rp [.l (os.map E6) f]] (.b (Bt os.length v)):=by
 have e3:((os.map E6).length:Int)=os.length:=by simp
 have c1:Pure Tryz.prog 149 [.a (pI v),eI ((os.map E6).length:Int)] (.b (Bt os.length v)):=by rw[e3];exact Rw v os.length
 refine kD kZ ?_;have hs:=Sn
 conv=>whnf
 repeat'((first|apply st|(apply sq;intro K U)|(apply si;intro A B Y Z)|(apply Y;clear Z B Y A)|(apply U;clear U K)|refine⟨kZ,?_⟩|refine c1.use ?_|fail)<;>conv=>whnf)
 all_goals exact AI rfl
def Mr (g:FuncId) (fi ca:List V) (q:Int×Int→Bool):Prop:= ∀v,Pure Tryz.prog g (fi++[.a (pI v)]++ca) (.b (q v))
def Mr.use {g:FuncId} {fi ca:List V} {q:Int×Int→Bool} (h:Mr g fi ca q) {v:Int×Int} {σ:AH} {k kp:V→AH→Prop} (hk:k (.b (q v)) σ):A0 Tryz.prog (.f (.func g) fi ca) [.a (pI v)] σ (qk k kp):=Bl ((h v).use hk)
def Ul {g:FuncId} {fi ca:List V} {q:Int×Int→Bool} (hpf:Mr g fi ca q) (v:Int×Int):Pure Tryz.prog 191 [.a (pI v),.rp [.f (.func g) fi ca]] (.b (!q v)):=by
 refine ja kZ ?_;have hs:=Sn
 conv=>whnf
 repeat'((first|apply st|(apply sq;intro K U)|(apply si;intro A B Y Z)|(apply Y;clear Z B Y A)|(apply U;clear U K)|refine⟨kZ,?_⟩|refine Mr.use hpf ?_|fail)<;>conv=>whnf)
 all_goals exact AI rfl
def Mb {α:Type} (q:α→Bool):List α→Nat→Int
 | [],_=> -1
 | v::r,k=>if q v then Mb q r (k+1)else k
def NR {α:Type} (q:α→Bool): ∀(l:List α) (k:Nat),decide (Mb q l k≥0)= !l.all q
 | [],_=>rfl
 | v ::r,k=>by
   rw[Mb,TV];cases q v
   ·rw[if_neg (by decide),Bool.false_and]
    exact decide_eq_true (Int.natCast_nonneg k)
   ·rw[if_pos rfl,EW]
    exact NR q r (k+1)
def Z5 {g:FuncId} {fi ca:List V} {q:Int×Int→Bool} (hpf:Mr g fi ca q) (l:List (Int×Int)) (b:Bool):Pure Tryz.prog 239 [.l (pP l) b,.f (.func 191) [] [.rp [.f (.func g) fi ca]]] (eI (Mb q l 0)):=by
 refine Pure.fit (by kernel_rfl) fun hf=>?_
 have hl:l.length≤Ae:=by
  have:=hf.1;simp only[Ed,BQ]at this;exact this.1
 have hM:=Mx;refine iv kZ ?_;have hs:=Sn
 conv=>whnf
 repeat'((first|apply st|(apply sq;intro K U)|(apply si;intro A B Y Z)|(apply Y;clear Z B Y A)|(apply U;clear U K)|fail)<;>conv=>whnf)
 refine CZ l.length (fun k (_:Unit)=>[(8,eI (BL k))]) (fun _ _=>[]) (fun k _=>Mb q l 0=Mb q (l.drop k) k) () rfl rfl hs ?_;clear hs;rintro k - σ hk hn hs;have hck:BL k=k:=AL (by omega);rcases BS l hk with⟨x,hx,hlt⟩|hke
 ·have c1:=Ul hpf x
  rw[drop_cons hx,Mb]at hn;cases hv:q x<;>rw[hv]at c1 hn
  ·conv=>whnf
   repeat'((first|apply st|(apply sq;intro K U)|(apply si;intro A B Y Z)|(apply Y;clear Z B Y A)|(apply U;clear U K)|refine⟨rfl,?_⟩|refine⟨kZ,?_⟩|refine ix ?_|refine E7 ?_|(refine Cs (fun hc=>?_)<;>(try rw[hc])<;>clear hc)|refine Bl (c1.use ?_)|clear U K)<;>conv=>whnf)
   exact AI (by rw[hn,if_neg (by decide),hck])
  ·conv=>whnf
   repeat'((first|apply st|(apply sq;intro K U)|(apply si;intro A B Y Z)|(apply Y;clear Z B Y A)|(apply U;clear U K)|refine⟨rfl,?_⟩|refine⟨kZ,?_⟩|refine ix ?_|refine EA ?_|(refine Cs (fun hc=>?_)<;>(try rw[hc])<;>clear hc)|refine Bl (c1.use ?_)|clear U K)<;>conv=>whnf)
   exact⟨hlt,(),rfl,by rw[hn,if_pos rfl],hs⟩
 ·conv=>whnf
  repeat'((first|apply st|(apply sq;intro K U)|(apply si;intro A B Y Z)|(apply Y;clear Z B Y A)|(apply U;clear U K)|refine⟨rfl,?_⟩|(refine EV (fun hc=>?_)<;>(try rw[hc])<;>clear hc)|clear U K)<;>conv=>whnf)
  exact AI (by rw[hn,An hke];rfl)
def TH {g:FuncId} {fi ca:List V} {q:Int×Int→Bool} (hpf:Mr g fi ca q) (l:List (Int×Int)) (b:Bool):Pure Tryz.prog 190 [.l (pP l) b,.f (.func 191) [] [.rp [.f (.func g) fi ca]]] (.b (!l.all q)):=by
 have c1:=Z5 hpf l b;refine jb kZ ?_;have hs:=Sn
 conv=>whnf
 repeat'((first|apply st|(apply sq;intro K U)|(apply si;intro A B Y Z)|(apply Y;clear Z B Y A)|(apply U;clear U K)|refine⟨rfl,?_⟩|refine c1.use ?_|fail)<;>conv=>whnf)
 all_goals exact AI (by rw[←NR q l 0])
def ZB {g:FuncId} {fi ca:List V} {q:Int×Int→Bool} (hpf:Mr g fi ca q) (l:List (Int×Int)) (b:Bool):Pure Tryz.prog 147 [.l (pP l) b,.f (.func g) fi ca] (.b (l.all q)):=by
 have c1:=TH hpf l b;refine kE kZ ?_;have hs:=Sn
 conv=>whnf
 repeat'((first|apply st|(apply sq;intro K U)|(apply si;intro A B Y Z)|(apply Y;clear Z B Y A)|(apply U;clear U K)|refine c1.use ?_|fail)<;>conv=>whnf)
 all_goals exact AI (by rw[Bool.not_not])
def Yo (w:AK) (hw:CE w) (c s:Int) (hc0:3≤c) (hc1:c<3+w.parents.length) (hs0:0≤s) (hs1:s<w.owner.length):Pure Tryz.prog 192 [.rp (wC w (B0 w.parents)),eI c,eI s] (.b (((B0 w.parents).getD c.toNat 0).testBit (CX w s).toNat)):=by
 have hM:=Mx;have hwp:=hw.1.1;have hol:=hw.2.1;have hu:lR (B0 w.parents):=Gu _ _ (by have:=hw.1.1;omega);have hul:(B0 w.parents).length=3+w.parents.length:=EN _ _;obtain⟨o,ho⟩: ∃o,w.owner[s.toNat]? =some o:=⟨_,Da (by omega)⟩
 have hoi:CX w s=o:=by rw[CX,Dc,ho];rfl
 have hor:=hw.2.2 o (Cj ho);generalize B0 w.parents=us at *
 have hup:(List.drop (c.toNat*1) (List.drop 2 (wC w us)))[0]? =some (eU (us.getD c.toNat 0)):=by
  rw[au,au,←U1 w us (i:=c.toNat) (by omega)];congr 1;omega
 rw[hoi]
 have c1:Pure Tryz.prog 152 [eU (us.getD c.toNat 0),eI o] (.b ((us.getD c.toNat 0).testBit o.toNat)):=by
  have:=Mw (us.getD c.toNat 0) o.toNat (Kz hu _) (by omega)
  rwa [Int.toNat_of_nonneg (by omega)]at this
 refine jZ kZ ?_;have hs:=Sn
 conv=>whnf
 repeat'((first|apply st|(apply sq;intro K U)|(apply si;intro A B Y Z)|(apply Y;clear Z B Y A)|(apply U;clear U K)|apply dr|refine lY ?_|fail)<;>conv=>whnf)
 rw[hup]
 conv=>whnf
 repeat'((first|apply st|(apply Y;clear Z B Y A)|(apply U;clear U K)|apply dr|refine F8 ?_|refine c1.use ?_|fail)<;>conv=>whnf)
 all_goals exact AI rfl
def Vg {w:AK} (hw:CE w) (hw2:Km w) {c s:Int} (hc0:3≤c) (hc1:c<3+w.parents.length) (hs0:0≤s) (hs1:s<w.owner.length):hasB w c s=((B0 w.parents).getD c.toNat 0).testBit (CX w s).toNat:=by
 have ho:=QA hw2 ⟨hs0,hs1⟩;rw[M6 hw2.ord (by omega),hasB,decide_eq_true hc0,EW,L5,decide_eq_true hc0,EW];have e0:(CX w s==0)=false:=by rw[beq_eq_false_iff_ne];omega
 have e1:((CX w s).toNat==0)=false:=by rw[beq_eq_false_iff_ne];omega
 rw[e0,e1,Bool.false_or];by_cases h:c=CX w s
 ·rw[←h,FI hw2.ord];simp
 ·rw[beq_eq_false_iff_ne.2 h,Bool.false_or]
def R7 (w:AK) (c:Int) (hw:CE w) (hw2:Km w) (hc0:3≤c) (hc1:c<3+w.parents.length):Pure Tryz.prog 188 [.rp (wC w (B0 w.parents)),eI c] (.l (iL (CG w c)) false):=by
 have hM:=Mx;have hol:=hw2.bN;refine jd kZ ?_;have hs:=Sn
 conv=>whnf
 repeat'((first|apply st|(apply sq;intro K U)|(apply si;intro A B Y Z)|(apply Y;clear Z B Y A)|(apply U;clear U K)|fail)<;>conv=>whnf)
 refine CZ w.owner.length (fun k v=>[(5,v),(13,eI (BL k))]) (fun k v=>[.own v 1 (iL ((Bk k).filter (hasB w c)))]) (fun _ _=>True) (.l [] true) rfl trivial (Gg Sat.nil 1) ?_;clear hs;rintro k v σ hk - hs;have hfl:=OJ (hasB w c) (Bk k);rw[Fx]at hfl;rcases BS w.owner hk with⟨s,hso,hlt⟩|hke
 ·have hck:BL k=k:=AL (by omega)
  have c1:Pure Tryz.prog 192 [.rp (wC w (B0 w.parents)),eI c,eI (BL k)] (.b (hasB w c k)):=by rw[hck,Vg hw hw2 hc0 hc1 (by omega) (by omega)];exact Yo w hw c k hc0 hc1 (by omega) (by omega)
  have hst:(Bk (k+1)).filter (hasB w c)=if hasB w c k then(Bk k).filter (hasB w c)++[(k:Int)]else(Bk k).filter (hasB w c):=by
   rw[GO,List.filter_append];cases hp:hasB w c k<;>simp[hp]
  generalize (Bk k).filter (hasB w c)=zs at *;have hll:zs.length<Ae∧(zs.length+1)*8≤140737488355328:=by omega
  cases hh:hasB w c k<;>rw[hh]at c1 hst
  ·conv=>whnf
   repeat'((first|apply st|(apply sq;intro K U)|(apply si;intro A B Y Z)|(apply Y;clear Z B Y A)|(apply U;clear U K)|refine⟨rfl,?_⟩|(refine Cs (fun hc=>?_)<;>(try rw[hc])<;>clear hc)|refine c1.use ?_|clear U K)<;>conv=>whnf)
   exact⟨hlt,_,rfl,trivial,by rw[hst];exact hs⟩
  ·conv=>whnf
   repeat'((first|apply st|(apply sq;intro K U)|(apply si;intro A B Y Z)|(apply Y;clear Z B Y A)|(apply U;clear U K)|refine⟨rfl,?_⟩|refine aq fun v σ hs hsl=>?_|(refine Cs (fun hc=>?_)<;>(try rw[hc])<;>clear hc)|refine c1.use ?_|clear U K)<;>conv=>whnf)
   exact⟨hlt,_,rfl,trivial,by rw[hst,←hck];exact hs⟩
 ·rw[hke]at hs
  conv=>whnf
  repeat'((first|apply st|(apply sq;intro K U)|(apply si;intro A B Y Z)|(apply Y;clear Z B Y A)|(apply U;clear U K)|refine⟨rfl,?_⟩|(refine EV (fun hc=>?_)<;>(try rw[hc])<;>clear hc)|clear U K)<;>conv=>whnf)
  exact Bu (hs.RL 0 rfl)
end Go.Gl
namespace Go.Gl
variable {P:Program} {σ:AH}
def BC.Oq {f:FuncId} {args args':List V} {σ σ2:AH} {Q:R→AH→Prop} (h:BC P f args' σ2 Q) (hsub:Sub σ2 σ) (hf:Dd σ σ2 args args'):BC P f args σ Q:=by
 refine⟨h.1,fun Λ w cs G hv=>?_⟩;exact Calls.mono (h.2 Λ w cs (G.drop hsub) ⟨by rw[hf.length];exact hv.1,hf.rel G hsub (fun _ _ e=>e) hv.2⟩) fun e w' ⟨r,σ',hr,h1,h2,h3⟩=>⟨r,σ',hr,h1,h2,(B7.drop w hsub).trans h3⟩
def Pure.arg {f:FuncId} {args args':List V} {v:V} (h:Pure P f args' v) (hf:Dd emp emp args args'):Pure P f args v:=BC.Oq h (Sub.refl _) hf
def Own.lr {v:V} {sz:Nat} {es es':List (List V)} (h:Own σ v sz es) (G:Fk σ emp es es'):Gd σ emp v (.l es' false):=by
 rcases h with⟨rfl,_⟩|⟨n,cap,rfl,hn⟩
 ·exact .l (fun h=>(by cases h)) G
 ·exact .arr hn rfl rfl G
def NL {α:Type} {e e':α→List V} (h: ∀x,Dd σ emp (e x) (e' x)): ∀xs:List α,Fk σ emp (xs.map e) (xs.map e')
 | []=> .nil
 | x::r=> .cons (h x) (NL h r)
end Go.Gl
namespace Go.Gl
open Go.Proofs
structure P0 (w:AK) (os:List Ob):Prop where
 len:os.length≤40
 own: ∀o∈os,(3:Int)≤o.1∧o.1<3+(w.parents.length:Int)
 num: ∀o∈os,o.2.length=(CG w o.1).length
 val: ∀o∈os,∀v∈o.2,Bt os.length v=true
def VU {w:AK} {os:List Ob} (h:FC w os=true):P0 w os:=by
 simp only[FC,BY,CY,EY,Kr,Pz,Dn]at h;exact⟨h.1,fun o ho=>(h.2 o ho).1,fun o ho=>(h.2 o ho).2.1,fun o ho=>(h.2 o ho).2.2⟩
def T5 {w:AK} {c s:Int}:s∈CG w c↔(0≤s∧s<(w.owner.length:Int))∧hasB w c s=true:=by
 rw[CG,Kl,E2]
abbrev WJ (os:List Ob) (v:Int×Int):Ob:=os.getD v.2.toNat (0,[])
def LW (w:AK) (os:List Ob) (s:Int) (v:Int×Int):Int×Int:=(WJ os v).2.getD ((CG w (WJ os v).1).idxOf s) (0,0)
def TS (w:AK) (os:List Ob):List Int→Int×Int→Option (Int×Int)
 | [],v=>some v
 | s::r,v=>if v.1==3&&hasB w (WJ os v).1 s then TS w os r (LW w os s v)else none
def J4 {n:Int} {v:Int×Int} (h:Bt n v=true) (h3:v.1=3):0≤v.2∧v.2<n:=by
 rw[Bt,if_neg (by omega),if_neg (by omega),if_pos h3]at h;simpa using h
def IP {os:List Ob} {v:Int×Int} (hv:Bt os.length v=true) (h3:v.1=3): ∃o,os[v.2.toNat]? =some o∧WJ os v=o∧o∈os:=by
 have:=J4 hv h3;have hl:v.2.toNat<os.length:=by omega
 exact⟨os[v.2.toNat],Da hl,by rw[WJ,Dc,Da hl];rfl,List.getElem_mem hl⟩
def M9 {w:AK} {os:List Ob} {s:Int} {v:Int×Int} {o:Ob} (hos:P0 w os) (ho:WJ os v=o) (hm:o∈os) (hs:0≤s∧s<(w.owner.length:Int)) (hh:hasB w o.1 s=true) :
    ∃i,i<(CG w o.1).length∧(CG w o.1).idxOf s=i∧(CG w o.1)[i]? =some s∧(∀j x,j<i→(CG w o.1)[j]? =some x→x≠s)∧o.2[i]? =some (LW w os s v)∧Bt os.length (LW w os s v)=true:=by
 have hmem:s∈CG w o.1:=T5.2 ⟨hs,hh⟩;have hlt:=List.idxOf_lt_length_of_mem hmem;have hn:=hos.num o hm
 have hx:o.2[(CG w o.1).idxOf s]? =some (LW w os s v):=by
  rw[LW,ho,Dc];rw[Da (by omega)];rfl
 refine⟨_,hlt,rfl,?_,fun j x hj hjx e=>?_,hx,hos.val o hm _ (Cj hx)⟩
 ·rw[Da hlt,List.getElem_idxOf hlt]
 ·have hjl:=(Hr.1 hjx).1
  have:=List.not_of_lt_findIdx (p:=(· ==s)) (xs:=CG w o.1) (by simpa[List.idxOf]using hj);rw[Da hjl]at hjx;have h2:=Option.some.inj hjx;rw[h2,e]at this;simp at this
def Tx {w:AK} {os:List Ob} (hos:P0 w os): ∀ {l:List Int} {v u:Int×Int},(∀s∈l,0≤s∧s<(w.owner.length:Int))→Bt os.length v=true→TS w os l v=some u→Bt os.length u=true
 | [],v,u,_,hv,h=>by cases h;exact hv
 | s ::r,v,u,hl,hv,h=>by
   rw[TS]at h;split at h
   ·rename_i hc
    simp only[BY,Dn]at hc;obtain⟨o,h1,h2,h3⟩:=IP hv hc.1;obtain⟨i,q1,q2,q3,q4,q5,q6⟩:=M9 hos h2 h3 (hl s (.head _)) (h2 ▸ hc.2);exact Tx hos (fun s hs=>hl s (.tail _ hs)) q6 h
   ·cases h
def YO (w:AK) (os:List Ob) (args:List (Int×Int)) (f:Fact):Bool:=match TS w os f.path (args.getD f.arg.toNat (0,0))with
 | none=>false
 | some v=>if f.op=2 then L5 w.parents (Hu os v) f.cls else v.1==1&&(if f.op=3 then decide (v.2<f.n)else v.2==f.n)
def Rm (w:AK) (os:List Ob) (args:List (Int×Int)) (f:Fact) (l:List Bool):Bool:=
 if f.op=1 then true else if f.op=5 then !l.getD 0 false else if f.op=6 then l.getD 0 false&&l.getD 1 false else if f.op=7 then l.getD 0 false||l.getD 1 false else YO w os args f
def Bz (w:AK) (os:List Ob) (args:List (Int×Int)) (f:Fact):Bool:=f.Gi (Rm w os args)
def SS (w:AK) (os:List Ob) (args:List (Int×Int)) (f:Fact):Bz w os args f=Rm w os args f (f.kids.map (Bz w os args)):=Fact.DX (Rm w os args) f
end Go.Gl
namespace Go.Gl
open Go.Proofs
attribute [local irreducible] BC Ax Ai AU AO Ag AV AW AM Af AR AT A0 A9 Sat Ab A6 Ak W
abbrev tt (o:Option (Int×Int)):V:= .t [.a (pI (o.getD (0,0))),.b o.isSome]
set_option maxHeartbeats 1000000 in
def rS (w : AK) (os:List Ob) (f:Bool) (v:Int×Int) (l:List Int) (g:Bool) (hw:Km w) (hos:P0 w os) (hv:Bt os.length v=true) (hl: ∀s∈l,0≤s∧s<(w.owner.length:Int)) :
    Pure Tryz.prog 119 [.a (A2 w),.l (os.map E6) f,.a (pI v),.l (iL l) g] (tt (TS w os l v)):=by
 refine Pure.fit (by kernel_rfl) fun hf=>?_
 have hll:=Jl hf.2.2.2.1;have hM:=Mx;have ho4:=hos.len;have hol:=hw.bN;refine ko kZ ?_;have hs:=Sn
 conv=>whnf
 repeat'((first|apply st|(apply sq;intro K U)|(apply si;intro A B Y Z)|(apply Y;clear Z B Y A)|(apply U;clear U K)|(intro nn hnn;generalize hg:A8 _ nn _=σ;refine CW hg fun hs=>?_;clear hg)|fail)<;>conv=>whnf)
 rename_i nV _ _ _;refine CZ l.length (fun k (_:Int×Int)=>[(17,eI (BL k))]) (fun _ v=>[.box nn [eI 0,eI 0],.box nV (pI v)]) (fun k u=>Bt os.length u=true∧TS w os l v=TS w os (l.drop k) u) v rfl ⟨hv,rfl⟩ hs ?_;clear hs;rintro k ⟨vk,vn⟩ σ hk ⟨hu,hn⟩ hs;rcases BS l hk with⟨s,hsl,hlt⟩|hke
 ·have hsr:=hl s (Cj hsl)
  rw[drop_cons hsl,TS]at hn;by_cases h3:vk=3
  ·obtain ⟨o,ho1,ho2,ho3⟩:=IP hu h3
   have hoo:=hos.own o ho3;have hnr:=J4 hu h3;dsimp only at ho1 ho2 hnr;have c1:=To w o.1 s hw (by omega) (by omega) hsr.1 hsr.2;rw[ho2,show((vk,vn).1==3)=true by simp[h3],EW]at hn;cases hh:hasB w o.1 s<;>rw[hh]at c1 hn
   ·rw[if_neg (by decide)]at hn
    conv=>whnf
    repeat'((first|apply st|(apply sq;intro K U)|(apply si;intro A B Y Z)|(apply Y;clear Z B Y A)|(apply U;clear U K)|apply dr|refine⟨rfl,?_⟩|refine⟨kZ,?_⟩|refine ix ?_|refine F8 ?_|refine ld ?_|refine DJ fun σ hs=>?_|refine E7 ?_|(refine Cs (fun hc=>?_)<;>(try rw[hc])<;>clear hc)|refine c1.use ?_|(constructor<;>intro hc<;>(try rw[hc])<;>(replace hc:=bp hc)<;>(try simp(disch:=omega) only[BQ,wrap64,AL]at hc)<;>try(exfalso;omega))|clear U K)<;>conv=>whnf)
    all_goals exact AI (by rw[hn];rfl)
   ·rw [if_pos rfl]at hn
    obtain⟨i,q1,q2,q3,q4,q5,q6⟩:=M9 hos ho2 ho3 hsr hh;have c2:=VH w o.1 hw (by omega) (by omega);have hon:=hos.num o ho3
    have hsl2:(CG w o.1).length≤40:=by
     have:=OJ (hasB w o.1) (Bk w.owner.length);rw[Fx]at this;simp only[CG];omega
    have ho2M:o.2.length≤Ae:=by omega
    clear hon;generalize LW w os s (vk,vn)=u2 at *;generalize CG w o.1=ss at *
    conv=>whnf
    repeat'((first|apply st|(apply sq;intro K U)|(apply si;intro A B Y Z)|(apply Y;clear Z B Y A)|(apply U;clear U K)|apply dr|refine⟨rfl,?_⟩|refine⟨kZ,?_⟩|refine ix ?_|refine F8 ?_|refine ld ?_|refine EA ?_|(refine Cs (fun hc=>?_)<;>(try rw[hc])<;>clear hc)|refine c1.use ?_|refine c2.use ?_|(constructor<;>intro hc<;>(try rw[hc])<;>(replace hc:=bp hc)<;>(try simp(disch:=omega) only[BQ,wrap64,AL]at hc)<;>try(exfalso;omega))|fail)<;>conv=>whnf)
    refine CZ ss.length (fun j (_:Unit)=>[(47,eI (BL j))]) (fun _ _=>[.box nn [eI 0,eI 0],.box nV (pI (vk,vn))]) (fun j _=>j≤i) () rfl (Nat.zero_le _) hs ?_;clear hs;rintro j - σ hj hji hs;rcases BS ss hj with⟨x,hx,hjlt⟩|hje
    ·by_cases hxs:x=s
     ·obtain rfl:j=i:=by
       rcases Nat.lt_or_ge j i with h|h
       ·exact absurd hxs (q4 j x h hx)
       ·omega
      clear q3
      conv=>whnf
      repeat'((first|apply st|(apply sq;intro K U)|(apply si;intro A B Y Z)|(apply Y;clear Z B Y A)|(apply U;clear U K)|refine⟨rfl,?_⟩|refine⟨kZ,?_⟩|refine ix ?_|refine F8 ?_|refine ld ?_|refine DJ fun σ hs=>?_|(refine Cs (fun hc=>?_)<;>(try rw[hc])<;>clear hc)|(constructor<;>intro hc<;>(try rw[hc])<;>(replace hc:=bp hc)<;>try(exfalso;omega))|clear U K)<;>conv=>whnf)
      exact⟨hlt,u2,rfl,⟨q6,hn⟩,hs⟩
     ·have:j≠i:=fun e=>by subst e;rw[hx]at q3;exact hxs (Option.some.inj q3)
      conv=>whnf
      repeat'((first|apply st|(apply sq;intro K U)|(apply si;intro A B Y Z)|(apply Y;clear Z B Y A)|(apply U;clear U K)|refine⟨rfl,?_⟩|refine ix ?_|(refine Cs (fun hc=>?_)<;>(try rw[hc])<;>clear hc)|(constructor<;>intro hc<;>(try rw[hc])<;>(replace hc:=bp hc)<;>try(exfalso;omega))|clear U K)<;>conv=>whnf)
      exact⟨hjlt,(),rfl,by omega,hs⟩
    ·exfalso
     omega
  ·rw[show((vk,vn).1==3)=false by simp[h3],Bool.false_and,if_neg (by decide)]at hn
   conv=>whnf
   repeat'((first|apply st|(apply sq;intro K U)|(apply si;intro A B Y Z)|(apply Y;clear Z B Y A)|(apply U;clear U K)|apply dr|refine⟨rfl,?_⟩|refine⟨kZ,?_⟩|refine ix ?_|refine ld ?_|refine DJ fun σ hs=>?_|(refine Cs (fun hc=>?_)<;>(try rw[hc])<;>clear hc)|(constructor<;>intro hc<;>(try rw[hc])<;>(replace hc:=bp hc)<;>(try simp(disch:=omega) only[BQ,wrap64,AL]at hc)<;>try(exfalso;omega))|clear U K)<;>conv=>whnf)
   all_goals exact AI (by rw[hn];rfl)
 ·rw[An hke,TS]at hn
  conv=>whnf
  repeat'((first|apply st|(apply sq;intro K U)|(apply si;intro A B Y Z)|(apply Y;clear Z B Y A)|(apply U;clear U K)|refine⟨rfl,?_⟩|refine⟨kZ,?_⟩|refine ld ?_|refine DJ fun σ hs=>?_|(refine EV (fun hc=>?_)<;>(try rw[hc])<;>clear hc)|clear U K)<;>conv=>whnf)
  all_goals exact AI (by rw[hn];rfl)
def lk {α:Type} {l:List α} (h:l.length=2): ∃a b,l= [a,b]:=by
 match l,h with
 | [a,b],_=>exact⟨a,b,rfl⟩
def Nr {w:AK} {f:Fact} (h:Be w f=true) :
    f.op=1∨(f.op=5∧ ∃a,f.kids= [a]∧Be w a=true)∨(f.op=6∧ ∃a b,f.kids= [a,b]∧Be w a=true∧Be w b=true)∨(f.op=7∧ ∃a b,f.kids= [a,b]∧Be w a=true∧Be w b=true)∨
     ((f.op=2∨f.op=3∨f.op=4)∧Bm f=true∧(∀s∈f.path,0≤s∧s<(w.owner.length:Int))∧(f.op=2→0≤f.cls∧f.cls<3+(w.parents.length:Int))∧0≤f.arg):=by
 rw[CP]at h;simp only[C1,BY,EY,Dn,CY]at h;obtain⟨⟨ho,hk,ha0,ha3,hp,-⟩,hks⟩:=h;simp only[Ea,BY,EY,Gj,CY]at hp;by_cases h2:f.op=2
 ·rw[RD,if_pos h2]at ho
  simp only[Ma,BY,CY]at ho;exact .inr (.inr (.inr (.inr ⟨.inl h2,by simp[Bm,h2],hp.1,fun _=>ho.2,ha0⟩)))
 by_cases h34:f.op=3∨f.op=4
 ·exact .inr (.inr (.inr (.inr ⟨.inr h34,by rcases h34 with h|h<;>simp[Bm,h],hp.1,fun h=>absurd h h2,ha0⟩)))
 rw[RD,if_neg h2,if_neg h34]at ho;simp only[FU,Dn]at ho;rcases ho with((h1|h5)|h6)|h7
 ·exact .inl h1
 ·rw[B1,if_pos h5]at hk
  obtain⟨a,ha⟩:=List.length_eq_one_iff.1 hk;exact .inr (.inl ⟨h5,a,ha,hks a (by rw[ha];exact .head _)⟩)
 ·rw[B1,if_neg (by omega),if_pos (.inl h6)]at hk
  obtain⟨a,b,ha⟩:=lk hk;exact .inr (.inr (.inl ⟨h6,a,b,ha,hks a (by rw[ha];exact .head _),hks b (by rw[ha];exact .tail _ (.head _))⟩))
 ·rw[B1,if_neg (by omega),if_pos (.inr h7)]at hk
  obtain⟨a,b,ha⟩:=lk hk;exact .inr (.inr (.inr (.inl ⟨h7,a,b,ha,hks a (by rw[ha];exact .head _),hks b (by rw[ha];exact .tail _ (.head _))⟩)))
def IL: ∀(l:List Int) (a:Int) {x:Int},x∈l→x≤l.foldl Gf a
 | y ::r,a,x,h=>by
   rcases Fh.1 h with rfl|h
   ·refine Int.le_trans ?_ (FB r _)
    unfold Gf;split<;>omega
   ·exact IL r _ h
def DO {f a:Fact} (h:a∈f.kids):C4 a≤C4 f:=by
 rw[Ds f];exact IL _ _ (List.mem_map_of_mem h)
def Nf {f:Fact} (h:Bm f=true):f.arg+1≤C4 f:=by
 rw[Ds f,if_pos h];exact FB _ _
set_option maxHeartbeats 1000000 in
def da (w : AK) (os:List Ob) (b:Bool) (args:List (Int×Int)) (g:Bool) (hw:Km w) (hos:P0 w os) (hv: ∀v∈args,Bt os.length v=true) (f:Fact):Be w f=true→C4 f≤args.length→
    Pure Tryz.prog 88 [.a (A2 w),.a (xF f),.l (os.map E6) b,.l (pP args) g] (.b (Bz w os args f)):=by
 induction f using Fact.ind with
 | h f ih=>
   intro hn hsp;refine Pure.fit (by kernel_rfl) fun hf=>?_
   have⟨h2,h3,h4⟩:=Jm hf.2.1;have hM:=Mx;rw[SS,Rm];rcases Nr hn with h1|⟨h5,x,hk,hx⟩|⟨h6,x,y,hk,hx,hy⟩|⟨h7,x,y,hk,hx,hy⟩|⟨hop,hlf,hp,hcl,ha0⟩
   ·refine Ld kZ ?_
    have hs:=Sn
    conv=>whnf
    repeat'((first|apply st|(apply sq;intro K U)|(apply si;intro A B Y Z)|(apply Y;clear Z B Y A)|(apply U;clear U K)|refine⟨rfl,?_⟩|(constructor<;>intro hc<;>(try rw[hc])<;>(replace hc:=bp hc)<;>try(exfalso;omega))|clear U K)<;>conv=>whnf)
    all_goals exact AI (by rw[if_pos h1])
   ·have c1:=ih x (by rw[hk];exact .head _) hx (Int.le_trans (DO (by rw[hk];exact .head _)) hsp)
    have e:(f.kids.map (Bz w os args)).getD 0 false=Bz w os args x:=by rw[hk];rfl
    have hk0:f.kids[0]? =some x:=by rw[hk];rfl
    rw[if_neg (by omega),if_pos h5,e];clear e hk;refine Ld kZ ?_;have hs:=Sn
    conv=>whnf
    repeat'((first|apply st|(apply sq;intro K U)|(apply si;intro A B Y Z)|(apply Y;clear Z B Y A)|(apply U;clear U K)|apply dr|refine⟨rfl,?_⟩|refine⟨kZ,?_⟩|refine TP ?_|refine c1.use ?_|(constructor<;>intro hc<;>(try rw[hc])<;>(replace hc:=bp hc)<;>try(exfalso;omega))|clear U K)<;>conv=>whnf)
    all_goals exact AI rfl
   ·have c1:=ih x (by rw[hk];exact .head _) hx (Int.le_trans (DO (by rw[hk];exact .head _)) hsp)
    have c2:=ih y (by rw[hk];exact .tail _ (.head _)) hy (Int.le_trans (DO (by rw[hk];exact .tail _ (.head _))) hsp);have e:(f.kids.map (Bz w os args)).getD 0 false=Bz w os args x:=by rw[hk];rfl
    have e2:(f.kids.map (Bz w os args)).getD 1 false=Bz w os args y:=by rw[hk];rfl
    have hk0:f.kids[0]? =some x:=by rw[hk];rfl
    have hk1:f.kids[1]? =some y:=by rw[hk];rfl
    rw[if_neg (by omega),if_neg (by omega),if_pos h6,e,e2];clear e e2 hk;cases hb:Bz w os args x<;>rw[hb]at c1
    all_goals
     refine Ld kZ ?_;have hs:=Sn
     conv=>whnf
     repeat'((first|apply st|(apply sq;intro K U)|(apply si;intro A B Y Z)|(apply Y;clear Z B Y A)|(apply U;clear U K)|apply dr|refine⟨rfl,?_⟩|refine⟨kZ,?_⟩|refine TP ?_|refine L2 ?_|refine c1.use ?_|refine c2.use ?_|(constructor<;>intro hc<;>(try rw[hc])<;>(replace hc:=bp hc)<;>try(exfalso;omega))|clear U K)<;>conv=>whnf)
     all_goals exact AI rfl
   ·have c1:=ih x (by rw[hk];exact .head _) hx (Int.le_trans (DO (by rw[hk];exact .head _)) hsp)
    have c2:=ih y (by rw[hk];exact .tail _ (.head _)) hy (Int.le_trans (DO (by rw[hk];exact .tail _ (.head _))) hsp);have e:(f.kids.map (Bz w os args)).getD 0 false=Bz w os args x:=by rw[hk];rfl
    have e2:(f.kids.map (Bz w os args)).getD 1 false=Bz w os args y:=by rw[hk];rfl
    have hk0:f.kids[0]? =some x:=by rw[hk];rfl
    have hk1:f.kids[1]? =some y:=by rw[hk];rfl
    rw[if_neg (by omega),if_neg (by omega),if_neg (by omega),if_pos h7,e,e2];clear e e2 hk;cases hb:Bz w os args x<;>rw[hb]at c1
    all_goals
     refine Ld kZ ?_;have hs:=Sn
     conv=>whnf
     repeat'((first|apply st|(apply sq;intro K U)|(apply si;intro A B Y Z)|(apply Y;clear Z B Y A)|(apply U;clear U K)|apply dr|refine⟨rfl,?_⟩|refine⟨kZ,?_⟩|refine TP ?_|refine L2 ?_|refine c1.use ?_|refine c2.use ?_|(constructor<;>intro hc<;>(try rw[hc])<;>(replace hc:=bp hc)<;>try(exfalso;omega))|clear U K)<;>conv=>whnf)
     all_goals exact AI rfl
   ·have hsl:=Nf hlf
    rw[if_neg (by omega),if_neg (by omega),if_neg (by omega),if_neg (by omega),YO];obtain⟨v,hva⟩: ∃v,args[f.arg.toNat]? =some v:=⟨_,Da (by omega)⟩
    have hvd:args.getD f.arg.toNat (0,0)=v:=by rw[Dc,hva];rfl
    have hvv:=hv v (Cj hva);rw[hvd];have c1:=rS w os b v f.path false hw hos hvv hp;have hok:=fun u=>Tx (u:=u) hos hp hvv
    clear hvd;cases hu:TS w os f.path v with
    | none=>
      rw[hu]at c1;replace c1:Pure Tryz.prog 119 [.a (A2 w),.l (os.map E6) b,.a (pI v),.l (iL f.path) false] (.t [.a (pI (0,0)),.b false]):=c1;refine Ld kZ ?_;have hs:=Sn
      conv=>whnf
      repeat'((first|apply st|(apply sq;intro K U)|(apply si;intro A B Y Z)|(apply Y;clear Z B Y A)|(apply U;clear U K)|apply dr|refine rk ?_ ?_|exact fun s e=>by cases e;rfl|refine⟨rfl,?_⟩|refine⟨kZ,?_⟩|refine F8 ?_|refine DJ fun σ hs=>?_|refine⟨_,c1,?_⟩|(constructor<;>intro hc<;>(try rw[hc])<;>(replace hc:=bp hc)<;>try(exfalso;omega))|(intro nn hnn;generalize hg:A8 _ nn _=σ;refine CW hg fun hs=>?_;clear hg)|clear U K)<;>conv=>whnf)
      all_goals exact AI rfl
    | some u=>
      rw[hu]at c1;have hu2:=hok u hu;clear hok hu;obtain⟨uk,un⟩:=u;replace c1:Pure Tryz.prog 119 [.a (A2 w),.l (os.map E6) b,.a (pI v),.l (iL f.path) false] (.t [.a (pI (uk,un)),.b true]):=c1;have c2:=Us os b (uk,un) hu2;by_cases h2:f.op=2
      ·have hcr:0≤Hu os (uk,un)∧Hu os (uk,un)<3+w.parents.length:=by
        rw[Hu];split
        ·omega
        split
        ·omega
        ·rename_i h1 h2
         have h3:(uk,un).1=3:=by
          simp only[Bt,if_neg h1,if_neg h2]at hu2;split at hu2
          ·assumption
          ·cases hu2
         obtain⟨o,q1,q2,q3⟩:=IP hu2 h3;have:=hos.own o q3;have e:(os.getD (uk,un).2.toNat (0,[]))=o:=q2;rw[e];omega
       have hfc:=hcl h2;have c3:=Se w (Hu os (uk,un)) f.cls (by have:=hw.len;omega) hw.ord hcr.1 hcr.2 hfc.1 hfc.2;refine Ld kZ ?_;have hs:=Sn
       conv=>whnf
       repeat'((first|apply st|(apply sq;intro K U)|(apply si;intro A B Y Z)|(apply Y;clear Z B Y A)|(apply U;clear U K)|apply dr|refine rk ?_ ?_|exact fun s e=>by cases e;rfl|refine⟨rfl,?_⟩|refine⟨kZ,?_⟩|refine F8 ?_|refine ld ?_|refine DJ fun σ hs=>?_|refine⟨_,c1,?_⟩|refine c2.use ?_|refine c3.use ?_|(constructor<;>intro hc<;>(try rw[hc])<;>(replace hc:=bp hc)<;>try(exfalso;omega))|(intro nn hnn;generalize hg:A8 _ nn _=σ;refine CW hg fun hs=>?_;clear hg)|clear U K)<;>conv=>whnf)
       all_goals exact AI (by simp[h2])
      ·clear hv hvv ih h4 hp hn hcl c2
       dsimp only;rw[if_neg h2];by_cases hk:uk=1
       ·rw[Dn.2 hk,EW]
        rcases(show f.op=3∨f.op=4 by omega)with h3|h3
        all_goals
         refine Ld kZ ?_;have hs:=Sn
         conv=>whnf
         repeat'((first|apply st|(apply sq;intro K U)|(apply si;intro A B Y Z)|(apply Y;clear Z B Y A)|(apply U;clear U K)|apply dr|refine⟨rfl,?_⟩|refine⟨kZ,?_⟩|refine F8 ?_|refine ld ?_|refine DJ fun σ hs=>?_|refine⟨_,c1,?_⟩|(constructor<;>intro hc<;>(try rw[hc])<;>(replace hc:=bp hc)<;>(try simp(disch:=omega) only[BQ,wrap64,AL]at hc)<;>try(exfalso;omega))|(intro nn hnn;generalize hg:A8 _ nn _=σ;refine CW hg fun hs=>?_;clear hg)|clear U K)<;>conv=>whnf)
         all_goals exact AI (by simp[h3])
       ·rw[beq_eq_false_iff_ne.2 hk,Bool.false_and]
        refine Ld kZ ?_;have hs:=Sn
        conv=>whnf
        repeat'((first|apply st|(apply sq;intro K U)|(apply si;intro A B Y Z)|(apply Y;clear Z B Y A)|(apply U;clear U K)|apply dr|refine⟨rfl,?_⟩|refine⟨kZ,?_⟩|refine F8 ?_|refine ld ?_|refine DJ fun σ hs=>?_|refine⟨_,c1,?_⟩|(constructor<;>intro hc<;>(try rw[hc])<;>(replace hc:=bp hc)<;>(try simp(disch:=omega) only[BQ,wrap64,AL]at hc)<;>try(exfalso;omega))|(intro nn hnn;generalize hg:A8 _ nn _=σ;refine CW hg fun hs=>?_;clear hg)|clear U K)<;>conv=>whnf)
        all_goals exact AI rfl
structure Ask (p:Prog) (os:List Ob) (gen:Int) (args:List (Int×Int)):Prop where
 look:(BM p).isSome=true
 fI:P0 (AQ p) os
 mV:I9 p gen=true
 len:(args.length:Int)=p.Cl.getD gen.toNat 0
 r9: ∀v∈args,Bt os.length v=true
def Ty {p:Prog} {os:List Ob} {gen:Int} {args:List (Int×Int)} (h:CF p os gen args=true):Ask p os gen args:=by
 simp only[CF,BY,CY,EY]at h;exact⟨h.1,VU h.2.1,h.2.2.1,h.2.2.2.1,h.2.2.2.2⟩
def QV {p:Prog} (h:(BM p).isSome=true) {x:L6} (hx:x∈p.methods):(1≤x.kind∧x.kind≤4)∧CN (AQ p) x.fact=true∧Be (AQ p) x.fact=true∧C4 x.fact≤p.Cl.getD x.gen.toNat 0:=by
 have:=(EO h).2 x hx;simp only[MU,BY,CY]at this;have hf:=this.2.2.2.2.1;simp only[CN,BY,CY]at hf;exact⟨⟨this.1,this.2.1⟩,this.2.2.2.2.1,hf.2.2,this.2.2.2.2.2⟩
def OV (p:Prog) (os:List Ob) (gen:Int) (args:List (Int×Int)) (k:Nat):List Int:=(Bk k).filter fun m=>(BI p m).gen==gen&&Bz (AQ p) os args (BI p m).fact
def Xo (p:Prog) (os:List Ob) (gen:Int) (args:List (Int×Int)) (k:Nat):OV p os gen args (k+1)=if(BI p (k:Int)).gen==gen&&Bz (AQ p) os args (BI p (k:Int)).fact then OV p os gen args k++[(k:Int)]else OV p os gen args k:=by
 rw[OV,GO,List.filter_append];cases hp:(BI p (k:Int)).gen==gen&&Bz (AQ p) os args (BI p (k:Int)).fact<;>simp[OV,hp]
def Sf (p:Prog) (os:List Ob) (gen:Int) (args:List (Int×Int)) (k:Nat):(OV p os gen args k).length≤k:=by
 have:=OJ (fun m=>(BI p m).gen==gen&&Bz (AQ p) os args (BI p m).fact) (Bk k)
 rwa [Fx]at this
def OW (p:Prog) (os:List Ob) (gen:Int) (args:List (Int×Int)):List Int:=OV p os gen args p.methods.length
set_option maxHeartbeats 1000000 in
def TK (p:Prog) (os:List Ob) (f:Bool) (gen:Int) (args:List (Int×Int)) (g:Bool) (ha:Ask p os gen args):Pure Tryz.prog 60 [.a (BU p),.l (os.map E6) f,eI gen,.l (pP args) g] (.l (iL (OW p os gen args)) false):=by
 refine Pure.fit (by kernel_rfl) fun hf=>?_
 have F:=Jn hf.1;have hok:=look_ok ha.look;have hM:=Mx;have h16:=hok.many;have c1:=MD p F hok.dv hok.AS;refine nN kZ ?_;have hs:=Sn
 conv=>whnf
 repeat'((first|apply st|(apply sq;intro K U)|(apply si;intro A B Y Z)|(apply Y;clear Z B Y A)|(apply U;clear U K)|refine⟨kZ,?_⟩|refine DJ fun σ hs=>?_|refine c1.use ?_|(intro nn hnn;generalize hg:A8 _ nn _=σ;refine CW hg fun hs=>?_;clear hg)|fail)<;>conv=>whnf)
 clear c1;refine CZ p.methods.length (fun k v=>[(10,v),(11,eI (BL k))]) (fun k v=>[.box nn (A2 (AQ p)),.own v 1 (iL (OV p os gen args k))]) (fun _ _=>True) (.l [] true) rfl trivial (Gg hs 1) ?_;clear hs;rintro k v σ hk - hs;have hal:=Sf p os gen args k;rcases BS p.methods hk with⟨x,hx,hlt⟩|hke
 ·have hck:BL k=k:=AL (by omega)
  have hxe:BI p (k:Int)=x:=by
   have:=CQ (p:=p) (m:=k) (by simp[BE];omega);rw[Jb,hx]at this;exact(Option.some.inj this).symm
  have hst:=Xo p os gen args k;rw[hxe]at hst;generalize OV p os gen args k=zs at *;have hll:zs.length<Ae∧(zs.length+1)*8≤140737488355328:=by omega
  obtain⟨-,-,hno,hsp⟩:=QV ha.look (Cj hx);by_cases hg:x.gen=gen
  ·rw[hg,←ha.len]at hsp
   have c1:=da (AQ p) os f args g hok.lO ha.fI ha.r9 x.fact hno hsp;rw[Dn.2 hg,EW]at hst;cases hh:Bz (AQ p) os args x.fact<;>rw[hh]at c1 hst
   ·conv=>whnf
    repeat'((first|apply st|(apply sq;intro K U)|(apply si;intro A B Y Z)|(apply Y;clear Z B Y A)|(apply U;clear U K)|apply dr|refine⟨rfl,?_⟩|refine⟨kZ,?_⟩|refine ix ?_|refine ld ?_|refine EA ?_|(refine Cs (fun hc=>?_)<;>(try rw[hc])<;>clear hc)|refine c1.use ?_|(constructor<;>intro hc<;>(try rw[hc])<;>(replace hc:=bp hc)<;>try(exfalso;omega))|clear U K)<;>conv=>whnf)
    exact⟨hlt,_,rfl,trivial,by rw[hst];exact hs⟩
   ·conv=>whnf
    repeat'((first|apply st|(apply sq;intro K U)|(apply si;intro A B Y Z)|(apply Y;clear Z B Y A)|(apply U;clear U K)|apply dr|refine⟨rfl,?_⟩|refine⟨kZ,?_⟩|refine ix ?_|refine ld ?_|refine aq fun v σ hs hsl=>?_|refine E7 ?_|(refine Cs (fun hc=>?_)<;>(try rw[hc])<;>clear hc)|refine c1.use ?_|(constructor<;>intro hc<;>(try rw[hc])<;>(replace hc:=bp hc)<;>try(exfalso;omega))|clear U K)<;>conv=>whnf)
    exact⟨hlt,_,rfl,trivial,by rw[hst,←hck];exact hs⟩
  ·rw[beq_eq_false_iff_ne.2 hg,Bool.false_and]at hst
   conv=>whnf
   repeat'((first|apply st|(apply sq;intro K U)|(apply si;intro A B Y Z)|(apply Y;clear Z B Y A)|(apply U;clear U K)|apply dr|refine⟨rfl,?_⟩|refine ix ?_|(refine Cs (fun hc=>?_)<;>(try rw[hc])<;>clear hc)|(constructor<;>intro hc<;>(try rw[hc])<;>(replace hc:=bp hc)<;>try(exfalso;omega))|clear U K)<;>conv=>whnf)
   exact⟨hlt,_,rfl,trivial,by rw[hst];exact hs⟩
 ·rw[hke]at hs
  conv=>whnf
  repeat'((first|apply st|(apply sq;intro K U)|(apply si;intro A B Y Z)|(apply Y;clear Z B Y A)|(apply U;clear U K)|refine⟨rfl,?_⟩|(refine EV (fun hc=>?_)<;>(try rw[hc])<;>clear hc)|clear U K)<;>conv=>whnf)
  exact Bu (hs.RL 1 rfl)
def Eh (p:Prog) (os:List Ob) (gen:Int) (args:List (Int×Int)):List Int×Int:=if CF p os gen args then(OW p os gen args,0)else([],2)
def Xm (p:Prog) (os:List Ob) (f:Bool) (gen:Int) (args:List (Int×Int)) (g:Bool):Pure Tryz.prog 29 [.a (BU p),.l (os.map E6) f,eI gen,.l (pP args) g] (.t [.l (iL (Eh p os gen args).1) (!CF p os gen args),eI (Eh p os gen args).2]):=by
 have c1:=dQ p os f gen args g;rw[Eh];cases h:CF p os gen args<;>rw[h]at c1
 ·refine eV kZ ?_
  have hs:=Sn
  conv=>whnf
  repeat'((first|apply st|(apply sq;intro K U)|(apply si;intro A B Y Z)|(apply Y;clear Z B Y A)|(apply U;clear U K)|refine⟨kZ,?_⟩|refine E7 ?_|refine c1.use ?_|clear U K)<;>conv=>whnf)
  all_goals exact AI rfl
 ·have c2:=TK p os f gen args g (Ty h)
  refine eV kZ ?_;have hs:=Sn
  conv=>whnf
  repeat'((first|apply st|(apply sq;intro K U)|(apply si;intro A B Y Z)|(apply Y;clear Z B Y A)|(apply U;clear U K)|refine⟨kZ,?_⟩|refine EA ?_|refine⟨_,c2,?_⟩|refine c1.use ?_|fail)<;>conv=>whnf)
  all_goals exact AI rfl
structure Pl where
 ar:List Int
 uE:Bool
 be:List Int
 pr:List Int
 prt:Bool
 af:List Int
abbrev rY (x:Pl) (g h:Bool):List V:=[.l (iL x.ar) g,.b x.uE,.l (iL x.be) g,.l (iL x.pr) g,.b x.prt,.l (iL x.af) h]
def Dv (p:Prog) (l:List Int) (k:Int):List Int:=l.filter fun m=>(BI p m).kind==k
def lX:Pl:=⟨[],false,[],[],false,[]⟩
def mF (A:Int→Int→Bool) (p:Prog) (l:List Int):Pl:=
 ⟨(C7 A (Dv p l 4).length (Dv p l 4)).1,(C7 A (Dv p l 4).length (Dv p l 4)).2,GR A (Dv p l 2).length (Iq (Dv p l 2)),(C7 A (Dv p l 1).length (Dv p l 1)).1,(C7 A (Dv p l 1).length (Dv p l 1)).2,(GR A (Dv p l 3).length (Iq (Dv p l 3))).reverse⟩
def Mf (A:Int→Int→Bool) (p:Prog) (l:List Int):Pl×Bool:=if(Dv p l 1).isEmpty then(lX,false)else(mF A p l,true)
end Go.Gl
namespace Go.Gl
open Go.Proofs
structure U6 (p:Prog) (l:List Int):Prop where
 Om: ∀x∈l,BE p x=true
 gen: ∀x∈l,∀y∈l,(BI p x).gen=(BI p y).gen
 nodup:l.Nodup
 many:l.length≤16
def Jx {p:Prog} {l:List Int} {k x:Int} (h:x∈Dv p l k):x∈l∧(BI p x).kind=k:=by
 have:=Kl.1 h;exact⟨this.1,by simpa using this.2⟩
def cG {p:Prog} {l:List Int} {k:Int}:(Dv p l k).length≤l.length:=OJ _ _
def U6.of {p:Prog} {l:List Int} (h:U6 p l) (k:Int):Mv p (Dv p l k)∧(Dv p l k).Nodup:=by
 refine⟨⟨fun x hx=>h.Om x (Jx hx).1,fun x hx y hy=>?_,Nat.le_trans cG h.many⟩,h.nodup.sublist (List.filter_sublist ..)⟩;rw[Cw,h.gen x (Jx hx).1 y (Jx hy).1,(Jx hx).2,(Jx hy).2];simp
def WE.sub {T:List (List Bool)} {l l':List Int} (h:WE T l) (hs: ∀x∈l',x∈l) (hl:l'.length≤l.length):WE T l':=⟨h.len,h.sq,fun x hx=>h.ins x (hs x hx),Nat.le_trans hl h.many⟩
attribute [local irreducible] BC Ax Ai AU AO Ag AV AW AM Af AR AT A0 A9 Sat Ab A6 Ak W
end Go.Gl
namespace Go.Gl
open Go.Proofs
attribute [local irreducible] BC Ax Ai AU AO Ag AV AW AM Af AR AT A0 A9 Sat Ab A6 Ak W
def Zl {p:Prog} {l:List Int} {k:Nat} {x:Int} (hx:l[k]? =some x) (kd:Int):Dv p (l.take (k+1)) kd=if(BI p x).kind==kd then Dv p (l.take k) kd++[x]else Dv p (l.take k) kd:=by
 rw[AX hx,Dv,List.filter_append];cases hp:(BI p x).kind==kd<;>simp[Dv,hp]
def KB {p:Prog} {l:List Int} {k:Nat} {kd:Int} (h:l.length≤16):(Dv p (l.take k) kd).length≤16:=by
 have:=OJ (fun m=>(BI p m).kind==kd) (l.take k);rw[MS]at this;simp only[Dv];omega
set_option maxHeartbeats 4000000 in
def fu (p:Prog) (L:Nat) (l:List Int) (f:Bool) (h:(BM p).isSome=true) (hG:U6 p l) (M:List (Int×Int)) :
    Bd Tryz.prog 57 [FR p L,.l (iL l) f] [.map L (Eu p M)] fun r post=>r= .ret (.t [.a (rY (Mf (Ap p) p l).1 true (!(Mf (Ap p) p l).2)),.b (Mf (Ap p) p l).2])∧ ∃M',post= [.map L (Eu p M')]:=by
 intro σ hs;have hM:=Mx;have hok:=look_ok h;have hgw:=Mk h;have hfm:=Jz h;have h16:=hG.many;have hm16:=hok.many;generalize hX:Mf (Ap p) p l=X;refine nQ kZ ?_
 conv=>whnf
 repeat'((first|apply st|(apply sq;intro K U)|(apply si;intro A B Y Z)|(apply Y;clear Z B Y A)|(apply U;clear U K)|(intro nn hnn;generalize hg:A8 _ nn _=σ;refine CW hg fun hs=>?_;clear hg)|fail)<;>conv=>whnf)
 rename_i n4 _ _ _;clear hnn;refine CZ l.length (fun k (_:V×V×V×V)=>[(13,eI (BL k))]) (fun k x=>[.own x.1 1 (iL (Dv p (l.take k) 1)),.own x.2.1 1 (iL (Dv p (l.take k) 2)),.own x.2.2.1 1 (iL (Dv p (l.take k) 3)),.own x.2.2.2 1 (iL (Dv p (l.take k) 4)),.box nn [.l [] true,x.1,x.2.1,x.2.2.1,x.2.2.2],.box n4 [.l [] true,.b false,.l [] true,.l [] true,.b false,.l [] true],.map L (Eu p M)]) (fun _ _=>True) (.l [] true,.l [] true,.l [] true,.l [] true) rfl trivial (DK (DK (DK (DK hs 1) 1) 1) 1) ?_;clear hs;rintro k ⟨v1,v2,v3,v4⟩ σ hk - hs;dsimp only at hs;dsimp only;rcases BS l hk with⟨x,hx,hlt⟩|hke
 ·have hmx:=hG.Om x (Cj hx)
  have hxm:=CQ hmx;obtain⟨hkr,-⟩:=QV h (Cj hxm);have hst:=Zl (p:=p) hx;simp only[BE,BY,CY]at hmx;have l1:(Dv p (l.take k) 1).length≤16:=KB h16;have l2:(Dv p (l.take k) 2).length≤16:=KB h16;have l3:(Dv p (l.take k) 3).length≤16:=KB h16;have l4:(Dv p (l.take k) 4).length≤16:=KB h16;have s1:=hst 1;have s2:=hst 2;have s3:=hst 3;have s4:=hst 4;clear hst;generalize BI p x=y at *;generalize Dv p (l.take k) 1=z1 at *;generalize Dv p (l.take k) 2=z2 at *;generalize Dv p (l.take k) 3=z3 at *;generalize Dv p (l.take k) 4=z4 at *;obtain⟨kd,gn,fc,nd⟩:=y;dsimp only at hkr s1 s2 s3 s4;rcases(show kd=1∨kd=2∨kd=3∨kd=4 by omega)with rfl|rfl|rfl|rfl
  ·rw[if_pos (beq_self_eq_true _)]at s1
   rw[if_neg (by decide)]at s2 s3 s4;have hll:z1.length<Ae∧(z1.length+1)*8≤140737488355328:=by omega
   clear l1 l2 l3 l4
   conv=>whnf
   repeat'((first|apply st|(apply sq;intro K U)|(apply si;intro A B Y Z)|(apply Y;clear Z B Y A)|(apply U;clear U K)|refine⟨rfl,?_⟩|refine ix ?_|refine F8 ?_|refine ld ?_|refine El fun σ hs=>?_|refine aq fun v σ hs hsl=>?_|(refine Cs (fun hc=>?_)<;>(try rw[hc])<;>clear hc)|refine TQ (j:=1) ?_ (by decide) (by decide)|clear U K)<;>conv=>whnf)
   exact⟨hlt,(v,v2,v3,v4),rfl,trivial,by rw[s1,s2,s3,s4];exact hs⟩
  ·rw[if_pos (beq_self_eq_true _)]at s2
   rw[if_neg (by decide)]at s1 s3 s4;have hll:z2.length<Ae∧(z2.length+1)*8≤140737488355328:=by omega
   clear l1 l2 l3 l4
   conv=>whnf
   repeat'((first|apply st|(apply sq;intro K U)|(apply si;intro A B Y Z)|(apply Y;clear Z B Y A)|(apply U;clear U K)|refine⟨rfl,?_⟩|refine ix ?_|refine F8 ?_|refine ld ?_|refine El fun σ hs=>?_|refine aq fun v σ hs hsl=>?_|(refine Cs (fun hc=>?_)<;>(try rw[hc])<;>clear hc)|refine TQ (j:=2) ?_ (by decide) (by decide)|clear U K)<;>conv=>whnf)
   exact⟨hlt,(v1,v,v3,v4),rfl,trivial,by rw[s1,s2,s3,s4];exact hs⟩
  ·rw[if_pos (beq_self_eq_true _)]at s3
   rw[if_neg (by decide)]at s1 s2 s4;have hll:z3.length<Ae∧(z3.length+1)*8≤140737488355328:=by omega
   clear l1 l2 l3 l4
   conv=>whnf
   repeat'((first|apply st|(apply sq;intro K U)|(apply si;intro A B Y Z)|(apply Y;clear Z B Y A)|(apply U;clear U K)|refine⟨rfl,?_⟩|refine ix ?_|refine F8 ?_|refine ld ?_|refine El fun σ hs=>?_|refine aq fun v σ hs hsl=>?_|(refine Cs (fun hc=>?_)<;>(try rw[hc])<;>clear hc)|refine TQ (j:=3) ?_ (by decide) (by decide)|clear U K)<;>conv=>whnf)
   exact⟨hlt,(v1,v2,v,v4),rfl,trivial,by rw[s1,s2,s3,s4];exact hs⟩
  ·rw[if_pos (beq_self_eq_true _)]at s4
   rw[if_neg (by decide)]at s1 s2 s3;have hll:z4.length<Ae∧(z4.length+1)*8≤140737488355328:=by omega
   clear l1 l2 l3 l4
   conv=>whnf
   repeat'((first|apply st|(apply sq;intro K U)|(apply si;intro A B Y Z)|(apply Y;clear Z B Y A)|(apply U;clear U K)|refine⟨rfl,?_⟩|refine ix ?_|refine F8 ?_|refine ld ?_|refine El fun σ hs=>?_|refine aq fun v σ hs hsl=>?_|(refine Cs (fun hc=>?_)<;>(try rw[hc])<;>clear hc)|refine TQ (j:=4) ?_ (by decide) (by decide)|clear U K)<;>conv=>whnf)
   exact⟨hlt,(v1,v2,v3,v),rfl,trivial,by rw[s1,s2,s3,s4];exact hs⟩
 ·rw [BK hke]at hs
  obtain⟨o1,d1⟩:=hG.of 1;obtain⟨o2,d2⟩:=hG.of 2;obtain⟨o3,d3⟩:=hG.of 3;obtain⟨o4,d4⟩:=hG.of 4;have hpl:Mf (Ap p) p l=if(Dv p l 1).isEmpty then(lX,false)else(⟨(C7 (Ap p) (Dv p l 4).length (Dv p l 4)).1,(C7 (Ap p) (Dv p l 4).length (Dv p l 4)).2,GR (Ap p) (Dv p l 2).length (Iq (Dv p l 2)),(C7 (Ap p) (Dv p l 1).length (Dv p l 1)).1,(C7 (Ap p) (Dv p l 1).length (Dv p l 1)).2,(GR (Ap p) (Dv p l 3).length (Iq (Dv p l 3))).reverse⟩,true):=rfl
  rw[hpl]at hX;clear hpl;have e4:=fun M=>Qi p L (Dv p l 4) false hok hgw hfm o4 d4 M
  have e2:=fun M=>Xk p L (Dv p l 2) false hok hgw hfm o2 d2 M
  have e1:=fun M=>Qi p L (Dv p l 1) false hok hgw hfm o1 d1 M
  have e3:=fun M=>Ut p L (Dv p l 3) false hok hgw hfm o3 d3 M
  rw[O4 d2]at e2;rw[O4 d3]at e3;have hl1:=o1.many
  have hbl:(GR (Ap p) (Dv p l 3).length (Iq (Dv p l 3))).length≤16:=by
   have: ∀k l,(GR (Ap p) k l).length=k:=fun k=>by
    induction k with
    | zero=>intro l;rfl
    | succ k ih=>intro l;simp only[GR,MC,ih]
   rw[this];exact o3.many
  clear o1 o2 o3 o4 d1 d2 d3 d4 hG;generalize GR (Ap p) (Dv p l 3).length (Iq (Dv p l 3))=xs at *;generalize GR (Ap p) (Dv p l 2).length (Iq (Dv p l 2))=bs at *;generalize C7 (Ap p) (Dv p l 4).length (Dv p l 4)=q4 at *;generalize C7 (Ap p) (Dv p l 1).length (Dv p l 1)=q1 at *;generalize Dv p l 1=l1 at *;generalize Dv p l 2=l2 at *;generalize Dv p l 3=l3 at *;generalize Dv p l 4=l4 at *;obtain⟨r4,t4⟩:=q4;obtain⟨r1,t1⟩:=q1;dsimp only at e1 e4;by_cases hz:l1.length=0
  ·have he:l1.isEmpty=true:=by simpa using hz
   rw[he,if_pos rfl]at hX;subst hX
   conv=>whnf
   repeat'((first|apply st|(apply sq;intro K U)|(apply si;intro A B Y Z)|(apply Y;clear Z B Y A)|(apply U;clear U K)|refine⟨rfl,?_⟩|refine⟨kZ,?_⟩|refine TQ ?_|refine lo ?_|refine ld ?_|(refine EV (fun hc=>?_)<;>(try rw[hc])<;>clear hc)|(constructor<;>intro hc<;>(try rw[hc])<;>(replace hc:=bp hc)<;>(try simp(disch:=omega) only[BQ,wrap64,AL]at hc)<;>try(exfalso;omega))|(intro nn hnn;generalize hg:A8 _ nn _=σ;refine CW hg fun hs=>?_;clear hg)|clear U K)<;>conv=>whnf)
   refine IA hs 6 rfl rfl rfl (by simp) (by decide) fun σ hs=>?_
   conv=>whnf
   repeat'((first|apply st|(apply Y;clear Z B Y A)|(apply U;clear U K)|clear U K)<;>conv=>whnf)
   refine Ro hs 6 rfl ?_
   conv=>whnf
   repeat'((first|refine⟨kZ,?_⟩|fail)<;>conv=>whnf)
   exact Ar (hs.front (j:=7) rfl) (.cons₂ _ (Lx _)) (.refl _) fun σ' hs'=>⟨_,⟨rfl,M,rfl⟩,hs'⟩
  ·have he:l1.isEmpty=false:=by cases l1 with
    | nil=>simp at hz
    | cons=>rfl
   rw[he,if_neg (by decide)]at hX;subst hX
   conv=>whnf
   repeat'((first|apply st|(apply sq;intro K U)|(apply si;intro A B Y Z)|(apply Y;clear Z B Y A)|(apply U;clear U K)|refine⟨rfl,?_⟩|refine TQ ?_|refine lo ?_|refine ld ?_|(refine EV (fun hc=>?_)<;>(try rw[hc])<;>clear hc)|(constructor<;>intro hc<;>(try rw[hc])<;>(replace hc:=bp hc)<;>(try simp(disch:=omega) only[BQ,wrap64,AL]at hc)<;>try(exfalso;omega))|(intro nn hnn;generalize hg:A8 _ nn _=σ;refine CW hg fun hs=>?_;clear hg)|clear U K)<;>conv=>whnf)
   obtain⟨σ2,g1,g2,g3⟩:=H2 hs 4 rfl;refine BC.Oq ((e4 M).use (rest:=_) (g3.front (j:=6) rfl) ?_) g1 (.cons (.refl _) (.cons g2 .nil));clear hs g1 g2 g3;rintro r post σ ⟨rfl,M,rfl⟩ hs
   conv=>whnf
   repeat'((first|(apply sq;intro K U)|(apply si;intro A B Y Z)|(apply Y;clear Z B Y A)|(apply U;clear U K)|refine TQ ?_|refine ld ?_|refine El fun σ hs=>?_|fail)<;>conv=>whnf)
   obtain⟨σ2,g1,g2,g3⟩:=H2 hs 3 rfl;refine BC.Oq ((e2 M).use (rest:=_) g3 ?_) g1 (.cons (.refl _) (.cons g2 .nil));clear hs g1 g2 g3;rintro r post σ ⟨rfl,M,rfl⟩ hs
   conv=>whnf
   repeat'((first|(apply sq;intro K U)|(apply si;intro A B Y Z)|(apply Y;clear Z B Y A)|(apply U;clear U K)|refine TQ ?_|refine ld ?_|refine El fun σ hs=>?_|fail)<;>conv=>whnf)
   obtain⟨σ2,g1,g2,g3⟩:=H2 hs 2 rfl;refine BC.Oq ((e1 M).use (rest:=_) g3 ?_) g1 (.cons (.refl _) (.cons g2 .nil));clear hs g1 g2 g3;rintro r post σ ⟨rfl,M,rfl⟩ hs
   conv=>whnf
   repeat'((first|(apply sq;intro K U)|(apply si;intro A B Y Z)|(apply Y;clear Z B Y A)|(apply U;clear U K)|refine TQ ?_|refine ld ?_|refine El fun σ hs=>?_|fail)<;>conv=>whnf)
   obtain⟨σ2,g1,g2,g3⟩:=H2 hs 2 rfl;refine BC.Oq ((e3 M).use (rest:=_) g3 ?_) g1 (.cons (.refl _) (.cons g2 .nil));clear hs g1 g2 g3;rintro r post σ ⟨v,M,rfl,rfl,hv⟩ hs
   conv=>whnf
   repeat'((first|(apply sq;intro K U)|(apply si;intro A B Y Z)|(apply Y;clear Z B Y A)|(apply U;clear U K)|refine ld ?_|refine El fun σ hs=>?_|fail)<;>conv=>whnf)
   refine(Wm xs v (by omega) hv).use (rest:=_) hs ?_;clear hs;rintro r post σ ⟨rfl,rfl⟩ hs
   conv=>whnf
   repeat'((first|(apply sq;intro K U)|(apply si;intro A B Y Z)|(apply Y;clear Z B Y A)|(apply U;clear U K)|refine⟨kZ,?_⟩|refine ld ?_|fail)<;>conv=>whnf)
   have o1:=Ge hs 0 rfl;refine IA hs 4 rfl rfl rfl (by simp[o1]) (by decide) fun σ hs=>?_
   clear o1
   conv=>whnf
   repeat'((first|apply st|(apply Y;clear Z B Y A)|(apply U;clear U K)|refine⟨kZ,?_⟩|refine ld ?_|fail)<;>conv=>whnf)
   obtain⟨σ2,g1,g2,g3⟩:=H2 hs 0 rfl;exact GM g1 (.t (.cons (.a (.cons (.refl _) (.cons (.refl _) (.cons (.refl _) (.cons (.refl _) (.cons (.refl _) (.cons g2 .nil))))))) (.cons (.refl _) .nil))) ⟨_,⟨rfl,M,rfl⟩,g3.less (.cons₂ _ (Lx _))⟩
end Go.Gl
