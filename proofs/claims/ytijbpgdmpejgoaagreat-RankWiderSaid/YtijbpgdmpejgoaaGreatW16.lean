import Derived.Test.YtijbpgdmpejgoaaGreatW11
import Derived.Test.YtijbpgdmpejgoaaGreatW12
import Derived.Test.YtijbpgdmpejgoaaGreatW14
import Derived.Test.YtijbpgdmpejgoaaGreatW15
set_option linter.all false
set_option linter.defProp false
noncomputable section
namespace Go.Gl
open Go.Proofs
attribute [local irreducible] BD Aw Ai AU AO Ah AV AW AN Ag AS AT Ay A9 Sat Ab A4 Aj W
def PS (xs:List Int) (f:Bool):Pure Tryz.prog 102 [.l (iL xs) f] (.f (.func 136) [] [.rp [.l (iL xs) f]]):=by
 refine mb kZ ?_;have hs:=Sn
 conv=>whnf
 repeat'((first|apply st|(apply sq;intro K U)|(apply si;intro A B Y Z)|(apply Y;clear Z B Y A)|(apply U;clear U K)|fail)<;>conv=>whnf)
 all_goals exact AI rfl
def dF (xs:List Int) (f:Bool) (hxl:xs.length≤1000) {S:Type} {fn:Fn} {fi ca:List V} {H:S→List At} (Inv:Nat→S→Prop) {s:S} (h0:Inv 0 s)
    (hT: ∀(k:Nat) s y,xs[k]? =some y→Inv k s→ ∀σ:AH,Sat σ (H s)→Ay Tryz.prog (.f fn fi ca) [eI y] σ fun r σ'=> ∃s',r= .ret (.b true)∧Inv (k+1) s'∧Sat σ' (H s')) (σ:AH) (hs:Sat σ (H s)) :
    BD Tryz.prog 136 [.f fn fi ca,.rp [.l (iL xs) f]] σ fun r σ'=> ∃s',r= .ret (.t [])∧Inv xs.length s'∧Sat σ' (H s'):=by
 have hM:=Mx;refine mE kZ ?_
 conv=>whnf
 repeat'((first|apply st|(apply sq;intro K U)|(apply si;intro A B Y Z)|(apply Y;clear Z B Y A)|(apply U;clear U K)|fail)<;>conv=>whnf)
 refine CZ xs.length (fun k (_:S)=>[(7,eI (BH k))]) (fun _ s'=>H s') (fun k s'=>Inv k s') s rfl h0 hs ?_;clear hs;rintro k s' σ hk ho hs;rcases BM xs hk with⟨y,hy,hlt⟩|hke
 ·have hT':=hT k s' y hy ho
  conv=>whnf
  repeat'((first|apply st|(apply sq;intro K U)|(apply si;intro A B Y Z)|(apply Y;clear Z B Y A)|(apply U;clear U K)|refine⟨rfl,?_⟩|refine ix ?_|(refine Cv (fun hc=>?_)<;>(try rw[hc])<;>clear hc)|fail)<;>conv=>whnf)
  refine(hT' σ hs).mono ?_;rintro r σ ⟨s2,rfl,hi2,hs⟩
  conv=>whnf
  repeat'((first|apply st|(apply si;intro A B Y Z)|(apply Y;clear Z B Y A)|(apply U;clear U K)|refine⟨rfl,?_⟩|refine EM ?_|fail)<;>conv=>whnf)
  exact⟨hlt,_,rfl,hi2,hs⟩
 ·rw[hke]at ho
  conv=>whnf
  repeat'((first|apply st|(apply sq;intro K U)|(apply si;intro A B Y Z)|(apply Y;clear Z B Y A)|(apply U;clear U K)|refine⟨rfl,?_⟩|(refine EI (fun hc=>?_)<;>(try rw[hc])<;>clear hc)|clear U K)<;>conv=>whnf)
  exact AQ ⟨_,rfl,ho,hs⟩
def Yf (xs:List Int) (f:Bool) (hxl:xs.length≤1000):Bc Tryz.prog 118 [.l [] true,.f (.func 136) [] [.rp [.l (iL xs) f]]] [] fun r post=> ∃v,r= .ret v∧post= [.own v 1 (iL xs)]∧((Cb v).isSome=true∨(v= .l [] true∧xs= [])):=by
 intro σ hs;have hM:=Mx;refine Zy kZ ?_
 conv=>whnf
 repeat'((first|apply st|(apply sq;intro K U)|(apply si;intro A B Y Z)|(apply Y;clear Z B Y A)|(apply U;clear U K)|(intro nn hnn;generalize hg:A7 _ nn _=σ;refine CY hg fun hs=>?_;clear hg)|fail)<;>conv=>whnf)
 rename_i nb _ _ _;clear hnn
 revert hs
 generalize hE:([(2,V.p nb 0)]:Env)=E;generalize hk:Bx _ _ _ _=ok;intro hs;refine BD.mono (dF xs f hxl (fn:= .yield nn) (fi:=[]) (ca:=[]) (H:=fun s:V×List Int=> .obj nn (.loop .ready E ok):: [.box nb [s.1],.own s.1 1 (iL s.2)]) (fun k s=>s.2=xs.take k∧(1≤k→(Cb s.1).isSome=true)∧(k=0→s.1= .l [] true)) (s:=(.l [] true,[])) ⟨rfl,fun h=>by omega,fun _=>rfl⟩ ?_ σ ((DN hs 1).perm (Hs _ _ _ _))) ?_
 ·clear hs
  subst hE hk;rintro k ⟨v,ys⟩ y hy ⟨h1,h2,h3⟩ σ hs;dsimp only at h1 h2 h3 hs;have hkl:k<xs.length:=(H4.1 hy).1;have hyl:ys.length=k:=by rw[h1,K6];omega
  have hll:ys.length<Ac∧(ys.length+1)*8≤140737488355328:=by omega
  refine aO (Ec (l:=[.box nb [v],.own v 1 (iL ys)]) rfl hs ?_);clear hs;intro σ hs
  conv=>whnf
  repeat'((first|apply st|(apply si;intro A B Y Z)|(apply Y;clear Z B Y A)|refine ld ?_|refine EV fun σ hs=>?_|refine aq fun v σ hs hsl=>?_|clear U K)<;>conv=>whnf)
  intro hn;exact⟨(v,ys++[y]),rfl,⟨by rw[AX hy,h1],fun _=>hsl,fun h=>by omega⟩,hs.JW hn⟩
 ·clear hs
  rintro r σ ⟨⟨v,ys⟩,rfl,⟨h1,h2,h3⟩,hs⟩;dsimp only at h1 h2 h3 hs;refine FR hs fun σ hs=>?_
  conv=>whnf
  repeat'((first|apply st|(apply sq;intro K U)|(apply si;intro A B Y Z)|(apply Y;clear Z B Y A)|(apply U;clear U K)|refine ld ?_|fail)<;>conv=>whnf)
  rw[List.take_length]at h1;subst h1;refine Aq hs (JR _ _) (.refl _) fun σ' hs'=>⟨_,⟨v,rfl,rfl,?_⟩,hs'⟩
  rcases Nat.eq_zero_or_pos ys.length with h|h
  ·exact .inr ⟨h3 h,cZ.1 h⟩
  ·exact .inl (h2 h)
def YV (xs:List Int) (f:Bool) (hxl:xs.length≤1000):Bc Tryz.prog 84 [.f (.func 136) [] [.rp [.l (iL xs) f]]] [] fun r post=> ∃v,r= .ret v∧post= [.own v 1 (iL xs)]∧((Cb v).isSome=true∨(v= .l [] true∧xs= [])):=by
 intro σ hs;refine gF kZ ?_
 conv=>whnf
 repeat'((first|(apply sq;intro K U)|(apply si;intro A B Y Z)|(apply Y;clear Z B Y A)|(apply U;clear U K)|fail)<;>conv=>whnf)
 refine(Yf xs f hxl).use (rest:=[]) (by simpa using hs) ?_;clear hs;rintro r post σ ⟨v,rfl,rfl,hv⟩ hs
 conv=>whnf
 repeat'((first|apply st|(apply Y;clear Z B Y A)|(apply U;clear U K)|fail)<;>conv=>whnf)
 exact Aq hs (List.sublist_append_left _ _) (.refl _) fun σ' hs'=>⟨_,⟨v,rfl,rfl,hv⟩,hs'⟩
def PV (xs:List Int) (f:Bool) (hxl:xs.length≤1000):Pure Tryz.prog 101 [.f (.func 136) [] [.rp [.l (iL xs) f]]] (.l (iL (xs.mergeSort Gq)) false):=by
 refine mc kZ ?_;have hs:=Sn
 conv=>whnf
 repeat'((first|(apply sq;intro K U)|(apply si;intro A B Y Z)|(apply Y;clear Z B Y A)|(apply U;clear U K)|fail)<;>conv=>whnf)
 refine(YV xs f hxl).use (rest:=[]) (by simpa using hs) ?_;clear hs;rintro r post σ ⟨v,rfl,rfl,hv⟩ hs
 conv=>whnf
 repeat'((first|(apply sq;intro K U)|(apply si;intro A B Y Z)|(apply Y;clear Z B Y A)|(apply U;clear U K)|fail)<;>conv=>whnf)
 refine(Y9 hv).use (rest:=[]) hs ?_;clear hs;rintro r post σ ⟨rfl,rfl⟩ hs
 conv=>whnf
 repeat'((first|apply st|(apply sq;intro K U)|(apply si;intro A B Y Z)|(apply Y;clear Z B Y A)|(apply U;clear U K)|fail)<;>conv=>whnf)
 exact Bu (hs.QU 0 rfl)
def P6 {S:Type} {stp:Int→S→Bool×S} {q:Int→Bool}: ∀(xs:List Int) (k:Nat) (s:S),(∀y∈xs,∀s,(stp y s).1=q y)→decide ((Bh stp xs k s).1≥0)=xs.any q
 | [],_,_,_=>rfl
 | y ::r,k,s,h=>by
   rw[Bh,h y (.head _),QO];cases hq:q y
   ·rw[if_neg (by decide),Bool.false_or]
    exact P6 r (k+1) _ fun z hz=>h z (.tail _ hz)
   ·rw[if_pos rfl,Bool.true_or]
    exact decide_eq_true (Int.natCast_nonneg k)
def Xe (l:List Int) (q:Int→Bool):(List.range l.length).all (fun j=> !q (l.getD j 0))= !l.any q:=by
 rw[K5,EL,Bool.not_eq_true',←Bool.not_eq_true,JA];constructor
 ·rintro h ⟨x,hx,hq⟩
  obtain⟨i,hi⟩:=List.getElem?_of_mem hx;have:=h i (List.mem_range.2 (H4.1 hi).1);rw[FF hi,hq]at this;cases this
 ·intro h j hj
  cases hq:q (l.getD j 0)
  ·rfl
  ·exact absurd ⟨_,Fv (List.mem_range.1 hj),hq⟩ h
def Wl {p:Prog} {l:List Int} {M:List (Int×Int)}:(Bh (fun(m:Int) (M:List (Int×Int))=>(!(decide ((Bh (fun y M=>(Al p y m,M7 p M y m)) l 0 M).1≥0)),nK p l m M)) l 0 M).1=match QZ (Al p) l with|some i=>((i:Nat):Int)|none=> -1:=by
 rw[P5 (q:=fun m=> !l.any fun y=>Al p y m) l 0 M fun m _ s=>by dsimp only;rw[P6 (q:=fun y=>Al p y m) l 0 s fun y _ s=>rfl]];rw[QZ,find_congr (g:=fun i=>R1 (Al p) l i l.length) fun i _=>by rw[R1,Xe l fun y=>Al p y (l.getD i 0)]];cases(List.range l.length).find? fun i=>R1 (Al p) l i l.length with
 | none=>rfl
 | some i=>simp
set_option maxHeartbeats 4000000 in
def Yc (p:Prog) (L:Nat) (l:List Int) (f:Bool) (hok:DE p) (hgw:CH (AR p)) (hfm: ∀x∈p.methods,CW (AR p) x.fact=true) (hl:NR p l) (hnd:l.Nodup) (M:List (Int×Int)) :
    Bc Tryz.prog 69 [Ff p L,.l (iL l) f] [.map L (E2 p M)] fun r post=>r= .ret (.l (iL (E4 (Al p) l.length (l.mergeSort Gq))) true)∧ ∃M',post= [.map L (E2 p M')]:=by
 intro σ hs;have hM:=Mx;have h16:=hl.many;have hml:(l.mergeSort Gq).length=l.length:=List.length_mergeSort _;have c1:=PS l f;have c2:=PV l f (by omega);refine gK kZ ?_
 conv=>whnf
 repeat'((first|apply st|(apply sq;intro K U)|(apply si;intro A B Y Z)|(apply Y;clear Z B Y A)|(apply U;clear U K)|refine ld ?_|refine EV fun σ hs=>?_|refine c1.use ?_|refine c2.use ?_|(intro nn hnn;generalize hg:A7 _ nn _=σ;refine CY hg fun hs=>?_;clear hg)|fail)<;>conv=>whnf)
 clear c1 c2 hnn
 refine Gh (fun(x:List Int×Bool×V×List Int×List (Int×Int))=>x.1.length) (fun x=>[(5,x.2.2.1)]) (fun x=>[.box nn [.l (iL x.1) x.2.1],.own x.2.2.1 1 (iL x.2.2.2.1),.map L (E2 p x.2.2.2.2)])
  (fun x=>(∀y∈x.1,A5 p y=true)∧x.1.Nodup∧x.2.2.2.1.length+x.1.length≤16∧E4 (Al p) l.length (l.mergeSort Gq)=x.2.2.2.1++E4 (Al p) x.1.length x.1) (l.mergeSort Gq,false,.l [] true,[],M) rfl ⟨fun y hy=>hl.Ly y (List.mem_mergeSort.1 hy),(List.mergeSort_perm l Gq).symm.nodup hnd,by simpa[hml]using h16,by simp[hml]⟩ ((DN hs 1).perm (.swap _ _ _)) ?_
 clear hs;rintro⟨l',f',v,out,M⟩ σ ⟨hme,hn,hlen,hm⟩ hs;dsimp only at hme hn hlen hm hs;dsimp only;have hll:out.length<Ac∧(out.length+1)*8≤140737488355328:=by omega
 by_cases hz:l'.length=0
 ·rw[hz]at hm
  simp only[E4,H3]at hm
  conv=>whnf
  repeat'((first|apply st|(apply sq;intro K U)|(apply si;intro A B Y Z)|(apply Y;clear Z B Y A)|(apply U;clear U K)|refine⟨rfl,?_⟩|refine ld ?_|(constructor<;>intro hc<;>(try rw[hc])<;>(replace hc:=bp hc)<;>(try simp(disch:=omega) only[BR,wrap64,AM]at hc)<;>try(exfalso;omega))|clear U K)<;>conv=>whnf)
  refine(NV out v (by omega)).use (rest:=[_,_]) (hs.perm (.swap _ _ _)) ?_;clear hs;rintro r post σ ⟨rfl,rfl⟩ hs
  conv=>whnf
  repeat'((first|apply st|(apply Y;clear Z B Y A)|(apply U;clear U K)|fail)<;>conv=>whnf)
  exact Aq hs (JR _ _) (.refl _) fun σ' hs'=>⟨_,⟨by rw[hm],M,rfl⟩,hs'⟩
 ·obtain⟨n,hnn⟩: ∃n,l'.length=n+1:=⟨l'.length - 1,by omega⟩
  have hne:l'≠[]:=fun e=>hz (by rw[e];rfl)
  obtain⟨i,hi⟩:=Pn hok hne hme;have hil:i<l'.length:=by simpa using List.mem_of_find?_eq_some hi
  obtain⟨x,hx⟩: ∃x,l'[i]? =some x:=⟨_,DZ hil⟩
  rw[hnn,E4,hi,Option.getD_some,FF hx]at hm;have c3:=LU l' f' x (by omega);rw[Fs hn hx]at c3;have hel:=List.length_eraseIdx_of_lt hil
  conv=>whnf
  repeat'((first|apply st|(apply sq;intro K U)|(apply si;intro A B Y Z)|(apply Y;clear Z B Y A)|(apply U;clear U K)|refine⟨rfl,?_⟩|refine ld ?_|(constructor<;>intro hc<;>(try rw[hc])<;>(replace hc:=bp hc)<;>(try simp(disch:=omega) only[BR,wrap64,AM]at hc)<;>try(exfalso;omega))|fail)<;>conv=>whnf)
  refine(Ho 104 [] [.p nn 0,.rp [Ff p L]] (fun M=>[.box nn [.l (iL l') f'],.map L (E2 p M)]) _ _ (Vx p L nn l' f' hok hgw hfm hme) l' f' M (Gk fun y hy _=>hme y hy)).use (rest:=[.own v 1 (iL out)]) (hs.perm (.cons _ (.swap _ _ _))) ?_;clear hs;rintro r post σ ⟨rfl,rfl⟩ hs;rw[Wl,hi];generalize (Bh _ l' 0 M).2=M2 at hs;dsimp only
  conv=>whnf
  repeat'((first|apply st|(apply sq;intro K U)|(apply si;intro A B Y Z)|(apply Y;clear Z B Y A)|(apply U;clear U K)|refine ID ?_|refine ld ?_|refine EV fun σ hs=>?_|refine aq fun v σ hs hsl=>?_|refine c3.use ?_|clear U K)<;>conv=>whnf)
  refine⟨(l'.eraseIdx i,true,v,out++[x],M2),by dsimp only;omega,rfl,⟨fun y hy=>hme y (List.mem_of_mem_eraseIdx hy),hn.sublist (List.eraseIdx_sublist _ _),by simp;omega,?_⟩,hs.perm (.cons _ (.swap _ _ _))⟩;dsimp only;rw[hm,hel,show l'.length - 1=n by omega];simp
def XX: ∀ {l:List Int},l.Nodup→(l.mergeSort Gq).Pairwise (· < ·):=fun {l} h=>by
 have h1:=List.pairwise_mergeSort (le:=Gq) (fun a b c h1 h2=>by simp only[Gq,CL]at *;omega) (fun a b=>by simp only[Gq,Fj,CL];omega) l;have h2:=List.nodup_iff_pairwise_ne.1 ((List.mergeSort_perm l Gq).symm.nodup h);exact(h1.and h2).imp fun⟨a,b⟩=>by simp only[Gq,CL]at a;omega
def WS {x:Int}: ∀ {out:List Int},out.Pairwise (· < ·)→x∉out→(MW x out).Pairwise (· < ·)
 | [],_,_=>by simp[MW]
 | y ::r,h,hx=>by
   rw[List.pairwise_cons]at h;rw[FE,not_or]at hx;by_cases hy:y<x
   ·have e:MW x (y::r)=y::MW x r:=by simp[MW,List.takeWhile_cons,List.dropWhile_cons,hy]
    rw[e,List.pairwise_cons];refine⟨fun z hz=>?_,WS h.2 hx.2⟩;rcases Nn.1 hz with rfl|hz
    ·exact hy
    ·exact h.1 z hz
   ·have e:MW x (y::r)=x::y::r:=by simp[MW,List.takeWhile_cons,List.dropWhile_cons,hy]
    rw[e,List.pairwise_cons,List.pairwise_cons];refine⟨fun z hz=>?_,h⟩;rcases FE.1 hz with rfl|hz
    ·have:=hx.1;omega
    ·have:=h.1 z hz
     have:=hx.1;omega
def S8: ∀(l out:List Int),out.Pairwise (· < ·)→l.Nodup→(∀x∈l,x∉out)→(l.foldl (fun out x=>MW x out) out).Pairwise (· < ·)
 | [],_,h,_,_=>h
 | x::r,out,h,hn,hx=>by
   rw[List.nodup_cons]at hn;refine S8 r _ (WS h (hx x (.head _))) hn.2 fun y hy hm=>?_
   rcases Nn.1 hm with rfl|hm
   ·exact hn.1 hy
   ·exact hx y (.tail _ hy) hm
def PW {l:List Int} (h:l.Nodup):l.mergeSort Gq=Hq l:=
 Jh (XX h) (S8 l [] .nil h fun x _ hm=>by cases hm) fun x=>by rw[List.mem_mergeSort,La]
def B3 (p:Prog) (os:List Ob) (gen:Int) (args:List (Int×Int)):Bool:=
 (BA p).isSome&&(EY (AR p) os&&(I8 p gen&&(decide ((args.length:Int)=p.CM.getD gen.toNat 0)&&args.all (Bt os.length))))
set_option maxHeartbeats 1000000 in
def Wx (p:Prog) (os:List Ob) (f:Bool) (gen:Int) (args:List (Int×Int)) (g:Bool):Pure Tryz.prog 24 [.a (BN p),.l (os.map FY) f,eI gen,.l (pP args) g] (.b (B3 p os gen args)):=by
 refine Pure.fit (by kernel_rfl) fun hf=>?_
 have⟨p1,p2,p3,p4⟩:=GQ hf.1;have F:=KC hf.1;have hM:=Mx;have c1:=ZV p;cases h1:(BA p).isSome<;>rw[h1]at c1
 ·refine SQ kZ ?_
  have hs:=Sn
  conv=>whnf
  repeat'((first|apply st|(apply sq;intro K U)|(apply si;intro A B Y Z)|(apply Y;clear Z B Y A)|(apply U;clear U K)|refine⟨kZ,?_⟩|refine c1.use ?_|fail)<;>conv=>whnf)
  all_goals exact AI (by simp[B3,h1])
 have hok:=look_ok h1;have c2:=Qt p F hok.n8 hok.AP;have c3:=ie (AR p) os f hok.Yq;cases h2:EY (AR p) os<;>rw[h2]at c3
 ·refine SQ kZ ?_
  have hs:=Sn
  conv=>whnf
  repeat'((first|apply st|(apply sq;intro K U)|(apply si;intro A B Y Z)|(apply Y;clear Z B Y A)|(apply U;clear U K)|refine⟨kZ,?_⟩|refine EM ?_|refine c1.use ?_|refine c2.use ?_|refine c3.use ?_|fail)<;>conv=>whnf)
  all_goals exact AI (by simp[B3,h1,h2])
 have c4:=oY p gen;cases h3:I8 p gen<;>rw[h3]at c4
 ·refine SQ kZ ?_
  have hs:=Sn
  conv=>whnf
  repeat'((first|apply st|(apply sq;intro K U)|(apply si;intro A B Y Z)|(apply Y;clear Z B Y A)|(apply U;clear U K)|refine⟨kZ,?_⟩|refine FI ?_|refine EM ?_|refine c1.use ?_|refine c2.use ?_|refine c3.use ?_|refine c4.use ?_|fail)<;>conv=>whnf)
  all_goals exact AI (by simp[B3,h1,h2,h3])
 have hg:=h3;simp only[I8,BV,CL]at hg;obtain⟨x,hx⟩: ∃x,p.CM[gen.toNat]? =some x:=⟨_,DZ (by omega)⟩
 have hxd:p.CM.getD gen.toNat 0=x:=by rw[DS,hx];rfl
 have e3:((os.map FY).length:Int)=os.length:=by simp
 have c5:Pure Tryz.prog 63 [.l (pP args) g,eI ((os.map FY).length:Int)] (.b (args.all (Bt os.length))):=by rw[e3];exact ZQ args g os.length
 have e:B3 p os gen args=(decide ((args.length:Int)=x)&&args.all (Bt os.length)):=by simp only[B3,h1,h2,h3,hxd,Ev]
 rw[e];by_cases he:(args.length:Int)=x
 ·rw[decide_eq_true he,Ev]
  refine SQ kZ ?_;have hs:=Sn
  conv=>whnf
  repeat'((first|apply st|(apply sq;intro K U)|(apply si;intro A B Y Z)|(apply Y;clear Z B Y A)|(apply U;clear U K)|refine⟨rfl,?_⟩|refine⟨kZ,?_⟩|refine ID ?_|refine FI ?_|refine c1.use ?_|refine c2.use ?_|refine c3.use ?_|refine c4.use ?_|refine c5.use ?_|(constructor<;>intro hc<;>(try rw[hc])<;>(replace hc:=bp hc)<;>(try simp(disch:=omega) only[BR,wrap64,AM]at hc))|fail)<;>conv=>whnf)
  all_goals first
   | exact AI rfl
   | (exfalso;simp[he]at hc;done)
 ·rw[decide_eq_false he,Bool.false_and]
  refine SQ kZ ?_;have hs:=Sn
  conv=>whnf
  repeat'((first|apply st|(apply sq;intro K U)|(apply si;intro A B Y Z)|(apply Y;clear Z B Y A)|(apply U;clear U K)|refine⟨rfl,?_⟩|refine⟨kZ,?_⟩|refine ID ?_|refine FI ?_|refine c1.use ?_|refine c2.use ?_|refine c3.use ?_|refine c4.use ?_|refine c5.use ?_|(constructor<;>intro hc<;>(try rw[hc])<;>(replace hc:=bp hc)<;>(try simp(disch:=omega) only[BR,wrap64,AM]at hc))|fail)<;>conv=>whnf)
  all_goals first
   | (exfalso;simp[he]at hc;done)
   | exact AI rfl
def Qd (os:List Ob) (v:Int×Int):Int:=if v.1=1 then 1 else if v.1=2 then 2 else(os.getD v.2.toNat (0,[])).1
end Go.Gl
namespace Go.Gl
open Go.Proofs
def mg {σ:AH} {l:List At} {i:Nat} {v:V} {sz:Nat} {es:List (List V)} (hs:Sat σ l) (hi:l[i]? =some (.own v sz es)) (he: ∀e∈es,e.length=sz) {K:V→AH→Prop} (hk: ∀v' σ',Sat σ' (l.set i (.own v' sz es))→((Cb v').isSome=true∨(v'= .l es true∧v= .l es true))→K v' σ'):AV σ sz v none (some (.i .i64 (es.length:Int))) (some (.i .i64 (es.length:Int))) K:=by
 rcases hs.get hi with⟨rfl,_⟩|⟨n,cap,rfl,hn⟩
 ·refine⟨he,?_⟩
  simp only[Ow];refine⟨Int.le_refl _,Int.natCast_nonneg _,Int.le_refl _,trivial,?_⟩
  have hset:l.set i (.own (.l es true) sz es)=l:=by
   refine List.ext_getElem? fun j=>?_
   by_cases hj:i=j
   ·subst hj
    rw[List.getElem?_set_self (H4.1 hi).1,hi]
   ·rw[List.getElem?_set_ne hj]
  have:=hk (.l es true) σ (by rw[hset];exact hs) (.inr ⟨rfl,rfl⟩);simpa using this
 ·unfold AV
  simp only[Ow];refine⟨Int.le_refl _,Int.natCast_nonneg _,Int.le_refl _,trivial,trivial,trivial,?_⟩;rw[hn];refine⟨rfl,rfl,rfl,.inr (hk _ _ ?_ (.inl rfl))⟩;refine hs.change hi (fun b hb ha=>Ew hb fun m hm=>?_) (fun b hb ha m hm=>?_) (.inr ⟨n,es.length,rfl,DO _ _ _⟩)
  ·rw[Ci]
   intro e;subst e;exact ha m rfl hm
  ·cases hm
   exact ha _ rfl
attribute [local irreducible] BD Aw Ai AU AO Ah AV AW AN Ag AS AT Ay A9 Sat Ab A4 Aj W
def e9 (xs:List Int) (v:V) (hl:xs.length≤Ac) (hv:(Cb v).isSome=true∨(v= .l [] true∧xs= [])):Bc Tryz.prog 99 [v] [.own v 1 (iL xs)] fun r post=> ∃v',r= .ret v'∧post= [.own v' 1 (iL xs)]∧((Cb v').isSome=true∨(v'= .l [] true∧xs= [])):=by
 intro σ hs;have hg:=DV Cs xs;refine gD kZ ?_
 conv=>whnf
 repeat'((first|(apply sq;intro K U)|(apply si;intro A B Y Z)|(apply Y;clear Z B Y A)|(apply U;clear U K)|refine lo ?_|fail)<;>conv=>whnf)
 refine mg (i:=0) hs rfl hg.1 fun v' σ hs hv'=>?_
 conv=>whnf
 repeat'((first|apply st|(apply Y;clear Z B Y A)|(apply U;clear U K)|fail)<;>conv=>whnf)
 refine Aq hs (List.Sublist.refl _) (.refl _) fun σ' hs'=>⟨_,⟨v',rfl,rfl,?_⟩,hs'⟩
 rcases hv' with h|⟨h1,h2⟩
 ·exact .inl h
 ·rcases hv with h|⟨h3,h4⟩
  ·rw[h2]at h;cases h
  ·subst h4
   exact .inr ⟨h1,rfl⟩
def SM (xs ys:List Int) (k:Nat):Prop:=ys.length=xs.length∧ ∀t,t<xs.length→ys[t]? =if t<k∨xs.length - k≤t then xs[xs.length - 1 - t]? else xs[t]?
def jW (xs:List Int):SM xs xs 0:=⟨rfl,fun t ht=>by rw[if_neg (by omega)]⟩
def bX {xs ys:List Int} {k:Nat} (h:SM xs ys k) (hk:xs.length≤2*k+1):ys=xs.reverse:=by
 refine List.ext_getElem? fun t=>?_
 rcases Nat.lt_or_ge t xs.length with ht|ht
 ·rw[h.2 t ht,List.getElem?_reverse ht]
  split
  ·rfl
  ·congr 1;omega
 ·rw[List.getElem?_eq_none (by rw[h.1];exact ht),List.getElem?_eq_none (by rw[List.length_reverse];exact ht)]
def X6 {xs ys:List Int} {k:Nat} {a b:Int} (h:SM xs ys k) (hk:2*k+1<xs.length) (ha:ys[k]? =some a) (hb:ys[xs.length - 1 - k]? =some b):SM xs ((ys.set k b).set (xs.length - 1 - k) a) (k+1):=by
 have h1:=h.2 k (by omega);have h2:=h.2 (xs.length - 1 - k) (by omega);rw[if_neg (by omega),ha]at h1;rw[if_neg (by omega),hb]at h2;refine⟨by rw[List.length_set,List.length_set];exact h.1,fun t ht=>?_⟩;have hl:=h.1;by_cases e1:t=xs.length - 1 - k
 ·subst e1
  rw[List.getElem?_set_self (by rw[List.length_set];omega),if_pos (by omega),show xs.length - 1 - (xs.length - 1 - k)=k by omega,h1]
 ·rw[List.getElem?_set_ne (fun e=>e1 e.symm)]
  by_cases e2:t=k
  ·subst e2
   rw[List.getElem?_set_self (by omega),if_pos (by omega),h2]
  ·rw[List.getElem?_set_ne (fun e=>e2 e.symm),h.2 t ht]
   by_cases e3:t<k∨xs.length - k≤t
   ·rw[if_pos e3,if_pos (by omega)]
   ·rw[if_neg e3,if_neg (by omega)]
end Go.Gl
namespace Go.Gl
open Go.Proofs
attribute [local irreducible] BD Aw Ai AU AO Ah AV AW AN Ag AS AT Ay A9 Sat Ab A4 Aj W
set_option maxHeartbeats 1000000 in
def Xa (xs:List Int) (v:V) (hl:xs.length≤1000) (hv:(Cb v).isSome=true∨(v= .l [] true∧xs= [])):Bc Tryz.prog 82 [v] [.own v 1 (iL xs)] fun r post=>r= .ret (.t [])∧post= [.own v 1 (iL xs.reverse)]:=by
 intro σ hs;have hM:=Mx;have e0:((iL xs).length:Int)=xs.length:=by simp
 have hw0:IntKind.i64.wrap (((iL xs).length:Int) - 1)=(xs.length:Int) - 1:=by rw[e0,wrap64 (by omega) (by omega)]
 refine o7 kZ ?_
 conv=>whnf
 repeat'((first|apply st|(apply sq;intro K U)|(apply si;intro A B Y Z)|(apply Y;clear Z B Y A)|(apply U;clear U K)|refine⟨rfl,?_⟩|refine lo ?_|fail)<;>conv=>whnf)
 refine Gh (fun(x:Int×Int×List Int)=>(x.2.1+1).toNat) (fun x=>[(2,eI x.1),(3,eI x.2.1)]) (fun x=>[.own v 1 (iL x.2.2)]) (fun x=> ∃k:Nat,x.1=k∧x.2.1=(xs.length:Int) - 1 - k∧2*k≤xs.length+1∧SM xs x.2.2 k) (0,IntKind.i64.wrap (((iL xs).length:Int) - 1),xs) rfl ⟨0,rfl,by rw[hw0];simp,by omega,jW xs⟩ hs ?_;clear hs;rintro⟨i,j,ys⟩ σ ⟨k,hi,hj,hk,hh⟩ hs;dsimp only at hi hj hh hs;dsimp only;have hyl:=hh.1;by_cases hij:i<j
 ·have hsv:(Cb v).isSome=true:=by
   rcases hv with h|⟨h1,h2⟩
   ·exact h
   ·rw[h2]at hj;simp at hj;omega
  have hwi:IntKind.i64.wrap (i+1)=i+1:=wrap64 (by omega) (by omega);have hwj:IntKind.i64.wrap (j - 1)=j - 1:=wrap64 (by omega) (by omega);obtain⟨a,ha⟩: ∃a,ys[i.toNat]? =some a:=⟨_,DZ (by omega)⟩
  obtain⟨b,hb⟩: ∃b,ys[j.toNat]? =some b:=⟨_,DZ (by omega)⟩
  conv=>whnf
  repeat'((first|apply st|(apply sq;intro K U)|(apply si;intro A B Y Z)|(apply Y;clear Z B Y A)|(apply U;clear U K)|apply dr|refine⟨rfl,?_⟩|refine oi ?_|refine vM ?_|refine m6 ?_|refine oset fun σ hs=>?_|refine oset (fun σ hs=>?_) (h1:=by rw[List.length_set];omega)|(constructor<;>intro hc<;>(try rw[hc])<;>(replace hc:=bp hc)<;>try(exfalso;omega))|fail)<;>conv=>whnf)
  have hik:i.toNat=k:=by omega
  have hjk:j.toNat=xs.length - 1 - k:=by omega
  refine⟨(IntKind.i64.wrap (i+1),IntKind.i64.wrap (j - 1),(ys.set i.toNat b).set j.toNat a),by dsimp only;rw[hwj];omega,rfl,⟨k+1,by dsimp only;rw[hwi];omega,by dsimp only;rw[hwj];omega,by omega,?_⟩,hs⟩;dsimp only;rw[hik]at ha ⊢;rw[hjk]at hb ⊢;exact X6 hh (by omega) ha hb
 ·have he:=bX hh (by omega)
  conv=>whnf
  repeat'((first|apply st|(apply sq;intro K U)|(apply si;intro A B Y Z)|(apply Y;clear Z B Y A)|(apply U;clear U K)|refine⟨rfl,?_⟩|(constructor<;>intro hc<;>(try rw[hc])<;>(replace hc:=bp hc)<;>try(exfalso;omega))|clear U K)<;>conv=>whnf)
  subst he;exact Aq hs (List.Sublist.refl _) (.refl _) fun σ' hs'=>⟨_,⟨rfl,rfl⟩,hs'⟩
set_option maxHeartbeats 4000000 in
def VY (p:Prog) (L:Nat) (l:List Int) (f:Bool) (hok:DE p) (hgw:CH (AR p)) (hfm: ∀x∈p.methods,CW (AR p) x.fact=true) (hl:NR p l) (hnd:l.Nodup) (M:List (Int×Int)) :
    Bc Tryz.prog 69 [Ff p L,.l (iL l) f] [.map L (E2 p M)] fun r post=> ∃v M',r= .ret v∧post= [.own v 1 (iL (E4 (Al p) l.length (l.mergeSort Gq))),.map L (E2 p M')]∧((Cb v).isSome=true∨(v= .l [] true∧E4 (Al p) l.length (l.mergeSort Gq)= [])):=by
 intro σ hs;have hM:=Mx;have h16:=hl.many;have hml:(l.mergeSort Gq).length=l.length:=List.length_mergeSort _;have c1:=PS l f;have c2:=PV l f (by omega);refine gK kZ ?_
 conv=>whnf
 repeat'((first|apply st|(apply sq;intro K U)|(apply si;intro A B Y Z)|(apply Y;clear Z B Y A)|(apply U;clear U K)|refine ld ?_|refine EV fun σ hs=>?_|refine c1.use ?_|refine c2.use ?_|(intro nn hnn;generalize hg:A7 _ nn _=σ;refine CY hg fun hs=>?_;clear hg)|fail)<;>conv=>whnf)
 clear c1 c2 hnn
 refine Gh (fun(x:List Int×Bool×V×List Int×List (Int×Int))=>x.1.length) (fun x=>[(5,x.2.2.1)]) (fun x=>[.box nn [.l (iL x.1) x.2.1],.own x.2.2.1 1 (iL x.2.2.2.1),.map L (E2 p x.2.2.2.2)])
  (fun x=>(∀y∈x.1,A5 p y=true)∧x.1.Nodup∧x.2.2.2.1.length+x.1.length≤16∧E4 (Al p) l.length (l.mergeSort Gq)=x.2.2.2.1++E4 (Al p) x.1.length x.1∧((Cb x.2.2.1).isSome=true∨(x.2.2.1= .l [] true∧x.2.2.2.1= []))) (l.mergeSort Gq,false,.l [] true,[],M) rfl ⟨fun y hy=>hl.Ly y (List.mem_mergeSort.1 hy),(List.mergeSort_perm l Gq).symm.nodup hnd,by simpa[hml]using h16,by simp[hml],.inr ⟨rfl,rfl⟩⟩ ((DN hs 1).perm (.swap _ _ _)) ?_
 clear hs;rintro⟨l',f',v,out,M⟩ σ ⟨hme,hn,hlen,hm,hv⟩ hs;dsimp only at hme hn hlen hm hv hs;dsimp only;have hll:out.length<Ac∧(out.length+1)*8≤140737488355328:=by omega
 by_cases hz:l'.length=0
 ·rw[hz]at hm
  simp only[E4,H3]at hm
  conv=>whnf
  repeat'((first|apply st|(apply sq;intro K U)|(apply si;intro A B Y Z)|(apply Y;clear Z B Y A)|(apply U;clear U K)|refine⟨rfl,?_⟩|refine ld ?_|(constructor<;>intro hc<;>(try rw[hc])<;>(replace hc:=bp hc)<;>(try simp(disch:=omega) only[BR,wrap64,AM]at hc)<;>try(exfalso;omega))|clear U K)<;>conv=>whnf)
  refine(e9 out v (by omega) hv).use (rest:=[_,_]) (hs.perm (.swap _ _ _)) ?_;clear hs;rintro r post σ ⟨v',rfl,rfl,hv'⟩ hs
  conv=>whnf
  repeat'((first|apply st|(apply Y;clear Z B Y A)|(apply U;clear U K)|fail)<;>conv=>whnf)
  rw[hm];exact Aq hs (.cons₂ _ (JR _ _)) (.refl _) fun σ' hs'=>⟨_,⟨v',M,rfl,rfl,hv'⟩,hs'⟩
 ·obtain⟨n,hnn⟩: ∃n,l'.length=n+1:=⟨l'.length - 1,by omega⟩
  have hne:l'≠[]:=fun e=>hz (by rw[e];rfl)
  obtain⟨i,hi⟩:=Pn hok hne hme;have hil:i<l'.length:=by simpa using List.mem_of_find?_eq_some hi
  obtain⟨x,hx⟩: ∃x,l'[i]? =some x:=⟨_,DZ hil⟩
  rw[hnn,E4,hi,Option.getD_some,FF hx]at hm;have c3:=LU l' f' x (by omega);rw[Fs hn hx]at c3;have hel:=List.length_eraseIdx_of_lt hil
  conv=>whnf
  repeat'((first|apply st|(apply sq;intro K U)|(apply si;intro A B Y Z)|(apply Y;clear Z B Y A)|(apply U;clear U K)|refine⟨rfl,?_⟩|refine ld ?_|(constructor<;>intro hc<;>(try rw[hc])<;>(replace hc:=bp hc)<;>(try simp(disch:=omega) only[BR,wrap64,AM]at hc)<;>try(exfalso;omega))|fail)<;>conv=>whnf)
  refine(Ho 104 [] [.p nn 0,.rp [Ff p L]] (fun M=>[.box nn [.l (iL l') f'],.map L (E2 p M)]) _ _ (Vx p L nn l' f' hok hgw hfm hme) l' f' M (Gk fun y hy _=>hme y hy)).use (rest:=[.own v 1 (iL out)]) (hs.perm (.cons _ (.swap _ _ _))) ?_;clear hs;rintro r post σ ⟨rfl,rfl⟩ hs;rw[Wl,hi];generalize (Bh _ l' 0 M).2=M2 at hs;dsimp only
  conv=>whnf
  repeat'((first|apply st|(apply sq;intro K U)|(apply si;intro A B Y Z)|(apply Y;clear Z B Y A)|(apply U;clear U K)|refine ID ?_|refine ld ?_|refine EV fun σ hs=>?_|refine aq fun v σ hs hsl=>?_|refine c3.use ?_|clear U K)<;>conv=>whnf)
  refine⟨(l'.eraseIdx i,true,v,out++[x],M2),by dsimp only;omega,rfl,⟨fun y hy=>hme y (List.mem_of_mem_eraseIdx hy),hn.sublist (List.eraseIdx_sublist _ _),by simp;omega,?_,.inl hsl⟩,hs.perm (.cons _ (.swap _ _ _))⟩;dsimp only;rw[hm,hel,show l'.length - 1=n by omega];simp
def YX (os:List Ob) (f:Bool) (v:Int×Int):Pure Tryz.prog 79 [.a (pI v),.rp [.l (os.map FY) f]] (.b (Bt os.length v)):=by
 have e3:((os.map FY).length:Int)=os.length:=by simp
 have c1:Pure Tryz.prog 80 [.a (pI v),eI ((os.map FY).length:Int)] (.b (Bt os.length v)):=by rw[e3];exact dE v os.length
 refine o9 kZ ?_;have hs:=Sn
 conv=>whnf
 repeat'((first|apply st|(apply sq;intro K U)|(apply si;intro A B Y Z)|(apply Y;clear Z B Y A)|(apply U;clear U K)|refine⟨kZ,?_⟩|refine c1.use ?_|fail)<;>conv=>whnf)
 all_goals exact AI rfl
def fB (xs:List (Int×Int)) (v:V) (hl:xs.length≤Ac):Bc Tryz.prog 114 [v] [.own v 2 (pP xs)] fun r post=>r= .ret (.l (pP xs) true)∧post= []:=by
 intro σ hs;have hg:=DV LP xs;refine mU kZ ?_
 conv=>whnf
 repeat'((first|(apply sq;intro K U)|(apply si;intro A B Y Z)|(apply Y;clear Z B Y A)|(apply U;clear U K)|refine lo ?_|fail)<;>conv=>whnf)
 refine Vq (i:=0) hs rfl hg.1 (by simpa using hl) fun σ hs=>?_
 conv=>whnf
 repeat'((first|apply st|(apply Y;clear Z B Y A)|(apply U;clear U K)|fail)<;>conv=>whnf)
 exact Aq hs (List.Sublist.refl _) (.refl _) fun σ' hs'=>⟨_,⟨rfl,rfl⟩,hs'⟩
def bg (os:List Ob) (f:Bool) (xs:List (Int×Int)) (g:Bool) (hxl:xs.length≤1000):Pure Tryz.prog 78 [.l (pP xs) g,.f (.func 79) [] [.rp [.l (os.map FY) f]]] (.l (pP (xs.filter (Bt os.length))) true):=by
 refine Pure.of ?_;have hM:=Mx;refine pA kZ ?_;have hs:=Sn
 conv=>whnf
 repeat'((first|apply st|(apply sq;intro K U)|(apply si;intro A B Y Z)|(apply Y;clear Z B Y A)|(apply U;clear U K)|fail)<;>conv=>whnf)
 refine CZ xs.length (fun k v=>[(5,v),(10,eI (BH k))]) (fun k v=>[.own v 2 (pP ((xs.take k).filter (Bt os.length)))]) (fun _ _=>True) (.l [] true) rfl trivial (Fl hs 2) ?_;clear hs;rintro k v σ hk - hs;have hfl:=Oy (Bt os.length) (xs.take k);rw[K6]at hfl;rcases BM xs hk with⟨y,hy,hlt⟩|hke
 ·have hst:(xs.take (k+1)).filter (Bt os.length)=if Bt os.length y then(xs.take k).filter (Bt os.length)++[y]else(xs.take k).filter (Bt os.length):=by
   rw[AX hy,List.filter_append];cases hp:Bt os.length y<;>simp[hp]
  generalize (xs.take k).filter (Bt os.length)=zs at *;have hll:zs.length<Ac∧(zs.length+1)*16≤140737488355328:=by omega
  have c1:=YX os f y;cases hvy:Bt os.length y<;>rw[hvy]at c1 hst
  ·conv=>whnf
   repeat'((first|apply st|(apply sq;intro K U)|(apply si;intro A B Y Z)|(apply Y;clear Z B Y A)|(apply U;clear U K)|refine⟨rfl,?_⟩|refine⟨kZ,?_⟩|refine ix ?_|refine ld ?_|refine DT fun σ hs=>?_|(refine Cv (fun hc=>?_)<;>(try rw[hc])<;>clear hc)|refine Bk (c1.use ?_)|(intro nn hnn;generalize hg:A7 _ nn _=σ;refine CY hg fun hs=>?_;clear hg)|clear U K)<;>conv=>whnf)
   exact⟨hlt,_,rfl,trivial,by rw[hst];exact hs.less (JR _ _)⟩
  ·conv=>whnf
   repeat'((first|apply st|(apply sq;intro K U)|(apply si;intro A B Y Z)|(apply Y;clear Z B Y A)|(apply U;clear U K)|refine⟨rfl,?_⟩|refine⟨kZ,?_⟩|refine ix ?_|refine ld ?_|refine DT fun σ hs=>?_|(refine Cv (fun hc=>?_)<;>(try rw[hc])<;>clear hc)|refine Bk (c1.use ?_)|refine aq (enc:=pI) (x:=((_:Int),(_:Int))) (fun v σ hs hsl=>?_) (hg:=LP)|(intro nn hnn;generalize hg:A7 _ nn _=σ;refine CY hg fun hs=>?_;clear hg)|clear U K)<;>conv=>whnf)
   exact⟨hlt,_,rfl,trivial,by rw[hst];exact hs.less (JR _ _)⟩
 ·rw[BC hke]at hs
  conv=>whnf
  repeat'((first|apply st|(apply sq;intro K U)|(apply si;intro A B Y Z)|(apply Y;clear Z B Y A)|(apply U;clear U K)|refine⟨rfl,?_⟩|(refine EI (fun hc=>?_)<;>(try rw[hc])<;>clear hc)|clear U K)<;>conv=>whnf)
  refine(fB (xs.filter (Bt os.length)) v (by have:=Oy (Bt os.length) xs;omega)).use (rest:=[]) (by simpa using hs) ?_;clear hs;rintro r post σ ⟨rfl,rfl⟩ hs
  conv=>whnf
  repeat'((first|apply st|(apply Y;clear Z B Y A)|(apply U;clear U K)|fail)<;>conv=>whnf)
  exact AQ (by rfl)
def XW (f : Fact):NL f=true→Pure Tryz.prog 116 [.a (xF f)] (eI (Cx f)):=by
 induction f using Fact.ind with
 | h f ih=>
   intro ha;refine Pure.fit (by kernel_rfl) fun hf=>?_
   have⟨h2,h3,h4⟩:=KB hf.1;have hM:=Mx;rw[Kp]at ha;simp only[BV,CL,List.all_map,EL]at ha;have c1:=Mm f;refine mT kZ ?_;have hs:=Sn;by_cases hlf:Bm f=true
   ·rw [hlf]at c1
    have hw:IntKind.i64.wrap (f.arg+1)=f.arg+1:=wrap64 (by omega) (by omega)
    conv=>whnf
    repeat'((first|apply st|(apply sq;intro K U)|(apply si;intro A B Y Z)|(apply Y;clear Z B Y A)|(apply U;clear U K)|refine⟨rfl,?_⟩|refine⟨kZ,?_⟩|refine c1.use ?_|fail)<;>conv=>whnf)
    all_goals
     refine CZ f.kids.length (fun k (_:Unit)=>[(3,eI (((f.kids.take k).map Cx).foldl Gu (if Bm f then f.arg+1 else 0))),(14,eI (BH k))]) (fun _ _=>[]) (fun _ _=>True) () (by rw[hw,if_pos hlf];rfl) trivial hs ?_;clear hs;rintro k - σ hk - hs;rcases BM f.kids hk with⟨x,hx,hlt⟩|hke
     ·have hxs:=ih x (Cg hx) (ha.2 x (Cg hx))
      conv=>whnf
      repeat'((first|apply st|(apply sq;intro K U)|(apply si;intro A B Y Z)|(apply Y;clear Z B Y A)|(apply U;clear U K)|refine⟨rfl,?_⟩|refine⟨kZ,?_⟩|refine Ve ?_|refine ld ?_|refine DT fun σ hs=>?_|(refine Cv (fun hc=>?_)<;>(try rw[hc])<;>clear hc)|(intro nn hnn;generalize hg:A7 _ nn _=σ;refine CY hg fun hs=>?_;clear hg)|refine Pure.use (by assumption) ?_|clear U K)<;>conv=>whnf)
      exact⟨hlt,(),by rw[EP _ _ _ hx];rfl,trivial,hs.take 0⟩
     ·conv=>whnf
      repeat'((first|apply st|(apply sq;intro K U)|(apply si;intro A B Y Z)|(apply Y;clear Z B Y A)|(apply U;clear U K)|refine⟨rfl,?_⟩|(refine EI (fun hc=>?_)<;>(try rw[hc])<;>clear hc)|clear U K)<;>conv=>whnf)
      exact AI (by rw[BC hke,←Dz])
   ·rw [Bool.not_eq_true]at hlf
    rw[hlf]at c1;have hlf2: ¬Bm f=true:=by rw[hlf];decide
    conv=>whnf
    repeat'((first|apply st|(apply sq;intro K U)|(apply si;intro A B Y Z)|(apply Y;clear Z B Y A)|(apply U;clear U K)|refine⟨kZ,?_⟩|refine c1.use ?_|fail)<;>conv=>whnf)
    all_goals
     refine CZ f.kids.length (fun k (_:Unit)=>[(3,eI (((f.kids.take k).map Cx).foldl Gu (if Bm f then f.arg+1 else 0))),(14,eI (BH k))]) (fun _ _=>[]) (fun _ _=>True) () (by rw[if_neg hlf2];rfl) trivial hs ?_;clear hs;rintro k - σ hk - hs;rcases BM f.kids hk with⟨x,hx,hlt⟩|hke
     ·have hxs:=ih x (Cg hx) (ha.2 x (Cg hx))
      conv=>whnf
      repeat'((first|apply st|(apply sq;intro K U)|(apply si;intro A B Y Z)|(apply Y;clear Z B Y A)|(apply U;clear U K)|refine⟨rfl,?_⟩|refine⟨kZ,?_⟩|refine Ve ?_|refine ld ?_|refine DT fun σ hs=>?_|(refine Cv (fun hc=>?_)<;>(try rw[hc])<;>clear hc)|(intro nn hnn;generalize hg:A7 _ nn _=σ;refine CY hg fun hs=>?_;clear hg)|refine Pure.use (by assumption) ?_|clear U K)<;>conv=>whnf)
      exact⟨hlt,(),by rw[EP _ _ _ hx];rfl,trivial,hs.take 0⟩
     ·conv=>whnf
      repeat'((first|apply st|(apply sq;intro K U)|(apply si;intro A B Y Z)|(apply Y;clear Z B Y A)|(apply U;clear U K)|refine⟨rfl,?_⟩|(refine EI (fun hc=>?_)<;>(try rw[hc])<;>clear hc)|clear U K)<;>conv=>whnf)
      exact AI (by rw[BC hke,←Dz])
def SW (v:Int×Int) (n:Int):Pure Tryz.prog 149 [.a (pI v),eI n] (.b (Bt n v)):=by
 obtain⟨k,x⟩:=v;refine lz kZ ?_;have hs:=Sn
 conv=>whnf
 repeat'((first|apply st|(apply sq;intro K U)|(apply si;intro A B Y Z)|(apply Y;clear Z B Y A)|(apply U;clear U K)|refine⟨rfl,?_⟩|(constructor<;>intro hc<;>(try rw[hc])<;>(replace hc:=bp hc)<;>(try simp(disch:=omega) only[BR,wrap64,AM]at hc))|clear U K)<;>conv=>whnf)
 all_goals exact AI (by simp[Bt, *]<;>omega)
def VU (os:List Ob) (f:Bool) (v:Int×Int):Pure Tryz.prog 148 [.a (pI v),.rp [.l (os.map FY) f]] (.b (Bt os.length v)):=by
 have e3:((os.map FY).length:Int)=os.length:=by simp
 have c1:Pure Tryz.prog 149 [.a (pI v),eI ((os.map FY).length:Int)] (.b (Bt os.length v)):=by rw[e3];exact SW v os.length
 refine l5 kZ ?_;have hs:=Sn
 conv=>whnf
 repeat'((first|apply st|(apply sq;intro K U)|(apply si;intro A B Y Z)|(apply Y;clear Z B Y A)|(apply U;clear U K)|refine⟨kZ,?_⟩|refine c1.use ?_|fail)<;>conv=>whnf)
 all_goals exact AI rfl
def NM (g:FuncId) (fi ca:List V) (q:Int×Int→Bool):Prop:= ∀v,Pure Tryz.prog g (fi++[.a (pI v)]++ca) (.b (q v))
def NM.use {g:FuncId} {fi ca:List V} {q:Int×Int→Bool} (h:NM g fi ca q) {v:Int×Int} {σ:AH} {k kp:V→AH→Prop} (hk:k (.b (q v)) σ):Ay Tryz.prog (.f (.func g) fi ca) [.a (pI v)] σ (qk k kp):=Bk ((h v).use hk)
def VR {g:FuncId} {fi ca:List V} {q:Int×Int→Bool} (hpf:NM g fi ca q) (v:Int×Int):Pure Tryz.prog 191 [.a (pI v),.rp [.f (.func g) fi ca]] (.b (!q v)):=by
 refine lB kZ ?_;have hs:=Sn
 conv=>whnf
 repeat'((first|apply st|(apply sq;intro K U)|(apply si;intro A B Y Z)|(apply Y;clear Z B Y A)|(apply U;clear U K)|refine⟨kZ,?_⟩|refine NM.use hpf ?_|fail)<;>conv=>whnf)
 all_goals exact AI rfl
def M5 {α:Type} (q:α→Bool):List α→Nat→Int
 | [],_=> -1
 | v::r,k=>if q v then M5 q r (k+1)else k
def Nz {α:Type} (q:α→Bool): ∀(l:List α) (k:Nat),decide (M5 q l k≥0)= !l.all q
 | [],_=>rfl
 | v ::r,k=>by
   rw[M5,Rs];cases q v
   ·rw[if_neg (by decide),Bool.false_and]
    exact decide_eq_true (Int.natCast_nonneg k)
   ·rw[if_pos rfl,Ev]
    exact Nz q r (k+1)
def bU {g:FuncId} {fi ca:List V} {q:Int×Int→Bool} (hpf:NM g fi ca q) (l:List (Int×Int)) (b:Bool):Pure Tryz.prog 239 [.l (pP l) b,.f (.func 191) [] [.rp [.f (.func g) fi ca]]] (eI (M5 q l 0)):=by
 refine Pure.fit (by kernel_rfl) fun hf=>?_
 have hl:l.length≤Ac:=by
  have:=hf.1;simp only[D7,BR]at this;exact this.1
 have hM:=Mx;refine kI kZ ?_;have hs:=Sn
 conv=>whnf
 repeat'((first|apply st|(apply sq;intro K U)|(apply si;intro A B Y Z)|(apply Y;clear Z B Y A)|(apply U;clear U K)|fail)<;>conv=>whnf)
 refine CZ l.length (fun k (_:Unit)=>[(8,eI (BH k))]) (fun _ _=>[]) (fun k _=>M5 q l 0=M5 q (l.drop k) k) () rfl rfl hs ?_;clear hs;rintro k - σ hk hn hs;have hck:BH k=k:=AM (by omega);rcases BM l hk with⟨x,hx,hlt⟩|hke
 ·have c1:=VR hpf x
  rw[drop_cons hx,M5]at hn;cases hv:q x<;>rw[hv]at c1 hn
  ·conv=>whnf
   repeat'((first|apply st|(apply sq;intro K U)|(apply si;intro A B Y Z)|(apply Y;clear Z B Y A)|(apply U;clear U K)|refine⟨rfl,?_⟩|refine⟨kZ,?_⟩|refine ix ?_|refine FI ?_|(refine Cv (fun hc=>?_)<;>(try rw[hc])<;>clear hc)|refine Bk (c1.use ?_)|clear U K)<;>conv=>whnf)
   exact AI (by rw[hn,if_neg (by decide),hck])
  ·conv=>whnf
   repeat'((first|apply st|(apply sq;intro K U)|(apply si;intro A B Y Z)|(apply Y;clear Z B Y A)|(apply U;clear U K)|refine⟨rfl,?_⟩|refine⟨kZ,?_⟩|refine ix ?_|refine EM ?_|(refine Cv (fun hc=>?_)<;>(try rw[hc])<;>clear hc)|refine Bk (c1.use ?_)|clear U K)<;>conv=>whnf)
   exact⟨hlt,(),rfl,by rw[hn,if_pos rfl],hs⟩
 ·conv=>whnf
  repeat'((first|apply st|(apply sq;intro K U)|(apply si;intro A B Y Z)|(apply Y;clear Z B Y A)|(apply U;clear U K)|refine⟨rfl,?_⟩|(refine EI (fun hc=>?_)<;>(try rw[hc])<;>clear hc)|clear U K)<;>conv=>whnf)
  exact AI (by rw[hn,Ap hke];rfl)
def Tp {g:FuncId} {fi ca:List V} {q:Int×Int→Bool} (hpf:NM g fi ca q) (l:List (Int×Int)) (b:Bool):Pure Tryz.prog 190 [.l (pP l) b,.f (.func 191) [] [.rp [.f (.func g) fi ca]]] (.b (!l.all q)):=by
 have c1:=bU hpf l b;refine lC kZ ?_;have hs:=Sn
 conv=>whnf
 repeat'((first|apply st|(apply sq;intro K U)|(apply si;intro A B Y Z)|(apply Y;clear Z B Y A)|(apply U;clear U K)|refine⟨rfl,?_⟩|refine c1.use ?_|fail)<;>conv=>whnf)
 all_goals exact AI (by rw[←Nz q l 0])
def Z9 {g:FuncId} {fi ca:List V} {q:Int×Int→Bool} (hpf:NM g fi ca q) (l:List (Int×Int)) (b:Bool):Pure Tryz.prog 147 [.l (pP l) b,.f (.func g) fi ca] (.b (l.all q)):=by
 have c1:=Tp hpf l b;refine l6 kZ ?_;have hs:=Sn
 conv=>whnf
 repeat'((first|apply st|(apply sq;intro K U)|(apply si;intro A B Y Z)|(apply Y;clear Z B Y A)|(apply U;clear U K)|refine c1.use ?_|fail)<;>conv=>whnf)
 all_goals exact AI (by rw[Bool.not_not])
def Zk (w:AK) (hw:CH w) (c s:Int) (hc0:3≤c) (hc1:c<3+w.parents.length) (hs0:0≤s) (hs1:s<w.owner.length):Pure Tryz.prog 192 [.rp (wC w (B2 w.parents)),eI c,eI s] (.b (((B2 w.parents).getD c.toNat 0).testBit (CA w s).toNat)):=by
 have hM:=Mx;have hwp:=hw.1.1;have hol:=hw.2.1;have hu:m7 (B2 w.parents):=G5 _ _ (by have:=hw.1.1;omega);have hul:(B2 w.parents).length=3+w.parents.length:=Eb _ _;obtain⟨o,ho⟩: ∃o,w.owner[s.toNat]? =some o:=⟨_,DZ (by omega)⟩
 have hoi:CA w s=o:=by rw[CA,DS,ho];rfl
 have hor:=hw.2.2 o (Cg ho);generalize B2 w.parents=us at *
 have hup:(List.drop (c.toNat*1) (List.drop 2 (wC w us)))[0]? =some (eU (us.getD c.toNat 0)):=by
  rw[cQ,cQ,←Vf w us (i:=c.toNat) (by omega)];congr 1;omega
 rw[hoi]
 have c1:Pure Tryz.prog 152 [eU (us.getD c.toNat 0),eI o] (.b ((us.getD c.toNat 0).testBit o.toNat)):=by
  have:=NS (us.getD c.toNat 0) o.toNat (LK hu _) (by omega)
  rwa [Int.toNat_of_nonneg (by omega)]at this
 refine lA kZ ?_;have hs:=Sn
 conv=>whnf
 repeat'((first|apply st|(apply sq;intro K U)|(apply si;intro A B Y Z)|(apply Y;clear Z B Y A)|(apply U;clear U K)|apply dr|refine nE ?_|fail)<;>conv=>whnf)
 rw[hup]
 conv=>whnf
 repeat'((first|apply st|(apply Y;clear Z B Y A)|(apply U;clear U K)|apply dr|refine ID ?_|refine c1.use ?_|fail)<;>conv=>whnf)
 all_goals exact AI rfl
def WZ {w:AK} (hw:CH w) (hw2:Jy w) {c s:Int} (hc0:3≤c) (hc1:c<3+w.parents.length) (hs0:0≤s) (hs1:s<w.owner.length):hasB w c s=((B2 w.parents).getD c.toNat 0).testBit (CA w s).toNat:=by
 have ho:=NQ hw2 ⟨hs0,hs1⟩;rw[Na hw2.ord (by omega),hasB,decide_eq_true hc0,Ev,I9,decide_eq_true hc0,Ev];have e0:(CA w s==0)=false:=by rw[beq_eq_false_iff_ne];omega
 have e1:((CA w s).toNat==0)=false:=by rw[beq_eq_false_iff_ne];omega
 rw[e0,e1,Bool.false_or];by_cases h:c=CA w s
 ·rw[←h,FQ hw2.ord];simp
 ·rw[beq_eq_false_iff_ne.2 h,Bool.false_or]
def Sh (w:AK) (c:Int) (hw:CH w) (hw2:Jy w) (hc0:3≤c) (hc1:c<3+w.parents.length):Pure Tryz.prog 188 [.rp (wC w (B2 w.parents)),eI c] (.l (iL (CN w c)) false):=by
 have hM:=Mx;have hol:=hw2.gr;refine lE kZ ?_;have hs:=Sn
 conv=>whnf
 repeat'((first|apply st|(apply sq;intro K U)|(apply si;intro A B Y Z)|(apply Y;clear Z B Y A)|(apply U;clear U K)|fail)<;>conv=>whnf)
 refine CZ w.owner.length (fun k v=>[(5,v),(13,eI (BH k))]) (fun k v=>[.own v 1 (iL ((Bj k).filter (hasB w c)))]) (fun _ _=>True) (.l [] true) rfl trivial (Fl Sat.nil 1) ?_;clear hs;rintro k v σ hk - hs;have hfl:=Oy (hasB w c) (Bj k);rw[He]at hfl;rcases BM w.owner hk with⟨s,hso,hlt⟩|hke
 ·have hck:BH k=k:=AM (by omega)
  have c1:Pure Tryz.prog 192 [.rp (wC w (B2 w.parents)),eI c,eI (BH k)] (.b (hasB w c k)):=by rw[hck,WZ hw hw2 hc0 hc1 (by omega) (by omega)];exact Zk w hw c k hc0 hc1 (by omega) (by omega)
  have hst:(Bj (k+1)).filter (hasB w c)=if hasB w c k then(Bj k).filter (hasB w c)++[(k:Int)]else(Bj k).filter (hasB w c):=by
   rw[Gd,List.filter_append];cases hp:hasB w c k<;>simp[hp]
  generalize (Bj k).filter (hasB w c)=zs at *;have hll:zs.length<Ac∧(zs.length+1)*8≤140737488355328:=by omega
  cases hh:hasB w c k<;>rw[hh]at c1 hst
  ·conv=>whnf
   repeat'((first|apply st|(apply sq;intro K U)|(apply si;intro A B Y Z)|(apply Y;clear Z B Y A)|(apply U;clear U K)|refine⟨rfl,?_⟩|(refine Cv (fun hc=>?_)<;>(try rw[hc])<;>clear hc)|refine c1.use ?_|clear U K)<;>conv=>whnf)
   exact⟨hlt,_,rfl,trivial,by rw[hst];exact hs⟩
  ·conv=>whnf
   repeat'((first|apply st|(apply sq;intro K U)|(apply si;intro A B Y Z)|(apply Y;clear Z B Y A)|(apply U;clear U K)|refine⟨rfl,?_⟩|refine aq fun v σ hs hsl=>?_|(refine Cv (fun hc=>?_)<;>(try rw[hc])<;>clear hc)|refine c1.use ?_|clear U K)<;>conv=>whnf)
   exact⟨hlt,_,rfl,trivial,by rw[hst,←hck];exact hs⟩
 ·rw[hke]at hs
  conv=>whnf
  repeat'((first|apply st|(apply sq;intro K U)|(apply si;intro A B Y Z)|(apply Y;clear Z B Y A)|(apply U;clear U K)|refine⟨rfl,?_⟩|(refine EI (fun hc=>?_)<;>(try rw[hc])<;>clear hc)|clear U K)<;>conv=>whnf)
  exact Bu (hs.QU 0 rfl)
end Go.Gl
namespace Go.Gl
variable {P:Program} {σ:AH}
def BD.PK {f:FuncId} {args args':List V} {σ σ2:AH} {Q:R→AH→Prop} (h:BD P f args' σ2 Q) (hsub:Sub σ2 σ) (hf:C4 σ σ2 args args'):BD P f args σ Q:=by
 refine⟨h.1,fun Λ w cs G hv=>?_⟩;exact Calls.mono (h.2 Λ w cs (G.drop hsub) ⟨by rw[hf.length];exact hv.1,hf.rel G hsub (fun _ _ e=>e) hv.2⟩) fun e w' ⟨r,σ',hr,h1,h2,h3⟩=>⟨r,σ',hr,h1,h2,(Bw.drop w hsub).trans h3⟩
def Pure.arg {f:FuncId} {args args':List V} {v:V} (h:Pure P f args' v) (hf:C4 emp emp args args'):Pure P f args v:=BD.PK h (Sub.refl _) hf
def Own.nS {v:V} {sz:Nat} {es es':List (List V)} (h:Own σ v sz es) (G:E5 σ emp es es'):Fa σ emp v (.l es' false):=by
 rcases h with⟨rfl,_⟩|⟨n,cap,rfl,hn⟩
 ·exact .l (fun h=>(by cases h)) G
 ·exact .arr hn rfl rfl G
def Nr {α:Type} {e e':α→List V} (h: ∀x,C4 σ emp (e x) (e' x)): ∀xs:List α,E5 σ emp (xs.map e) (xs.map e')
 | []=> .nil
 | x::r=> .cons (h x) (Nr h r)
inductive UG (σ σ':AH):Env→Env→Prop
 | nil:UG σ σ' [] []
 | cons {k:Nat} {v v':V} {e e':Env}:Fa σ σ' v v'→UG σ σ' e e'→UG σ σ' ((k,v)::e) ((k,v')::e')
def UG.vG {σ σ':AH} {e e':Env} (h:UG σ σ' e e'):tU σ σ' e e':=by
 induction h with
 | nil=>intro j v2 hv;cases hv
 | cons h1 h2 ih=>
   rename_i k v v' e e';intro j v2 hv;simp only[get]at hv ⊢;cases hb:Nat.beq k j with
   | true=>
     rw[hb]at hv;simp only[cond_true,Hp]at hv ⊢;subst hv;exact⟨v,rfl,h1⟩
   | false=>
     rw[hb]at hv;simp only[cond_false]at hv ⊢;exact ih j v2 hv
def Mv {env:Env} {K:Env→AH→Prop} (h:K env σ):Fz env σ K:= .inl h
def ZJ {env env2:Env} {K:Env→AH→Prop} {l:List At} (hs:Sat σ l) (i j:Nat) {v:V} {sz n:Nat} {es:List (List V)} {vs vs2:List V} (hi:l[i]? =some (.own v sz es)) (hj:l[j]? =some (.box n vs))
    (hv: ∀σ2,Fa σ σ2 v (.l es false)→C4 σ σ2 vs vs2) (he: ∀σ2,Fa σ σ2 v (.l es false)→UG σ σ2 env env2) (hk: ∀σ2,Sat σ2 ((l.set j (.box n vs2)).eraseIdx i)→K env2 σ2):Fz env σ K:=by
 have hn:σ n=some (.cs vs):=hs.get hj;have hij:j≠i:=fun e=>by subst e;rw[hj]at hi;cases hi
 have hi2:(l.set j (.box n vs2))[i]? =some (.own v sz es):=by rw[List.getElem?_set_ne hij];exact hi
 obtain⟨σ2,h1,h2,h3⟩:=Ht (Y3 hs hj (.cs vs2)) i hi2
 have hf:Fa σ σ2 v (.l es false):=by
  rcases hs.get hi with⟨rfl,_⟩|⟨m,cap,rfl,hm⟩
  ·exact .l (fun h=>(by cases h)) (.refl _ _ _)
  ·have hmn:m≠n:=fun e=>by
    subst e;rw[hm]at hn;cases hn
   refine .arr hm ?_ rfl (.refl _ _ _);cases h2 with
   | arr _ q _ _=>exact q
 refine .inr ⟨env2,σ2,⟨fun m o2 ho=>?_⟩,(he σ2 hf).vG,hk σ2 h3⟩;have:=h1 m o2 ho;by_cases hmn:m=n
 ·subst hmn
  rw[DO]at this;cases this;exact .inr ⟨vs,vs2,hn,rfl,hv σ2 hf⟩
 ·rw[Ci _ _ hmn]at this
  exact .inl this
def Ou {l:List Nat} {a b:AJ} {Q:An→Env→AH→Prop} {env:Env} (h: ∀K:Env→AH→Prop,(∀env σ,(pk l env fun E=>Fz E σ (W P b Q))→K env σ)→W P a (An.andThen K Q) env σ):W P (.seq l a b) Q env σ:=mw h
end Go.Gl
namespace Go.Gl
open Go.Proofs
structure QW (w:AK) (os:List Ob):Prop where
 len:os.length≤40
 own: ∀o∈os,(3:Int)≤o.1∧o.1<3+(w.parents.length:Int)
 num: ∀o∈os,o.2.length=(CN w o.1).length
 val: ∀o∈os,∀v∈o.2,Bt os.length v=true
def WA {w:AK} {os:List Ob} (h:EY w os=true):QW w os:=by
 simp only[EY,BV,CL,EL,J4,O2,Du]at h;exact⟨h.1,fun o ho=>(h.2 o ho).1,fun o ho=>(h.2 o ho).2.1,fun o ho=>(h.2 o ho).2.2⟩
def Uh {w:AK} {c s:Int}:s∈CN w c↔(0≤s∧s<(w.owner.length:Int))∧hasB w c s=true:=by
 rw[CN,K9,Dq]
abbrev XE (os:List Ob) (v:Int×Int):Ob:=os.getD v.2.toNat (0,[])
def IL (w:AK) (os:List Ob) (s:Int) (v:Int×Int):Int×Int:=(XE os v).2.getD ((CN w (XE os v).1).idxOf s) (0,0)
def T2 (w:AK) (os:List Ob):List Int→Int×Int→Option (Int×Int)
 | [],v=>some v
 | s::r,v=>if v.1==3&&hasB w (XE os v).1 s then T2 w os r (IL w os s v)else none
def NZ {n:Int} {v:Int×Int} (h:Bt n v=true) (h3:v.1=3):0≤v.2∧v.2<n:=by
 rw[Bt,if_neg (by omega),if_neg (by omega),if_pos h3]at h;simpa using h
def KK {os:List Ob} {v:Int×Int} (hv:Bt os.length v=true) (h3:v.1=3): ∃o,os[v.2.toNat]? =some o∧XE os v=o∧o∈os:=by
 have:=NZ hv h3;have hl:v.2.toNat<os.length:=by omega
 exact⟨os[v.2.toNat],DZ hl,by rw[XE,DS,DZ hl];rfl,List.getElem_mem hl⟩
def Nd {w:AK} {os:List Ob} {s:Int} {v:Int×Int} {o:Ob} (hos:QW w os) (ho:XE os v=o) (hm:o∈os) (hs:0≤s∧s<(w.owner.length:Int)) (hh:hasB w o.1 s=true) :
    ∃i,i<(CN w o.1).length∧(CN w o.1).idxOf s=i∧(CN w o.1)[i]? =some s∧(∀j x,j<i→(CN w o.1)[j]? =some x→x≠s)∧o.2[i]? =some (IL w os s v)∧Bt os.length (IL w os s v)=true:=by
 have hmem:s∈CN w o.1:=Uh.2 ⟨hs,hh⟩;have hlt:=List.idxOf_lt_length_of_mem hmem;have hn:=hos.num o hm
 have hx:o.2[(CN w o.1).idxOf s]? =some (IL w os s v):=by
  rw[IL,ho,DS];rw[DZ (by omega)];rfl
 refine⟨_,hlt,rfl,?_,fun j x hj hjx e=>?_,hx,hos.val o hm _ (Cg hx)⟩
 ·rw[DZ hlt,List.getElem_idxOf hlt]
 ·have hjl:=(H4.1 hjx).1
  have:=List.not_of_lt_findIdx (p:=(· ==s)) (xs:=CN w o.1) (by simpa[List.idxOf]using hj);rw[DZ hjl]at hjx;have h2:=Option.some.inj hjx;rw[h2,e]at this;simp at this
def UZ {w:AK} {os:List Ob} (hos:QW w os): ∀ {l:List Int} {v u:Int×Int},(∀s∈l,0≤s∧s<(w.owner.length:Int))→Bt os.length v=true→T2 w os l v=some u→Bt os.length u=true
 | [],v,u,_,hv,h=>by cases h;exact hv
 | s ::r,v,u,hl,hv,h=>by
   rw[T2]at h;split at h
   ·rename_i hc
    simp only[BV,Du]at hc;obtain⟨o,h1,h2,h3⟩:=KK hv hc.1;obtain⟨i,q1,q2,q3,q4,q5,q6⟩:=Nd hos h2 h3 (hl s (.head _)) (h2 ▸ hc.2);exact UZ hos (fun s hs=>hl s (.tail _ hs)) q6 h
   ·cases h
def SL (w:AK) (os:List Ob) (args:List (Int×Int)) (f:Fact):Bool:=match T2 w os f.path (args.getD f.arg.toNat (0,0))with
 | none=>false
 | some v=>if f.op=2 then I9 w.parents (Qd os v) f.cls else v.1==1&&(if f.op=3 then decide (v.2<f.n)else v.2==f.n)
def G2 (w:AK) (os:List Ob) (args:List (Int×Int)) (f:Fact) (l:List Bool):Bool:=
 if f.op=1 then true else if f.op=5 then !l.getD 0 false else if f.op=6 then l.getD 0 false&&l.getD 1 false else if f.op=7 then l.getD 0 false||l.getD 1 false else SL w os args f
def DM (w:AK) (os:List Ob) (args:List (Int×Int)) (f:Fact):Bool:=f.Gw (G2 w os args)
def No (w:AK) (os:List Ob) (args:List (Int×Int)) (f:Fact):DM w os args f=G2 w os args f (f.kids.map (DM w os args)):=Fact.Df (G2 w os args) f
end Go.Gl
namespace Go.Gl
open Go.Proofs
attribute [local irreducible] BD Aw Ai AU AO Ah AV AW AN Ag AS AT Ay A9 Sat Ab A4 Aj W
abbrev vP (o:Option (Int×Int)):V:= .t [.a (pI (o.getD (0,0))),.b o.isSome]
def nN {α:Type} {l:List α} (h:l.length=2): ∃a b,l= [a,b]:=by
 match l,h with
 | [a,b],_=>exact⟨a,b,rfl⟩
def Hg {w:AK} {f:Fact} (h:BW w f=true) :
    f.op=1∨(f.op=5∧ ∃a,f.kids= [a]∧BW w a=true)∨(f.op=6∧ ∃a b,f.kids= [a,b]∧BW w a=true∧BW w b=true)∨(f.op=7∧ ∃a b,f.kids= [a,b]∧BW w a=true∧BW w b=true)∨
     ((f.op=2∨f.op=3∨f.op=4)∧Bm f=true∧(∀s∈f.path,0≤s∧s<(w.owner.length:Int))∧(f.op=2→0≤f.cls∧f.cls<3+(w.parents.length:Int))∧0≤f.arg):=by
 rw[CK]at h;simp only[C1,BV,EL,Du,CL]at h;obtain⟨⟨ho,hk,ha0,ha3,hp,-⟩,hks⟩:=h;simp only[EX,BV,EL,Gx,CL]at hp;by_cases h2:f.op=2
 ·rw[Rw,if_pos h2]at ho
  simp only[M4,BV,CL]at ho;exact .inr (.inr (.inr (.inr ⟨.inl h2,by simp[Bm,h2],hp.1,fun _=>ho.2,ha0⟩)))
 by_cases h34:f.op=3∨f.op=4
 ·exact .inr (.inr (.inr (.inr ⟨.inr h34,by rcases h34 with h|h<;>simp[Bm,h],hp.1,fun h=>absurd h h2,ha0⟩)))
 rw[Rw,if_neg h2,if_neg h34]at ho;simp only[Fj,Du]at ho;rcases ho with((h1|h5)|h6)|h7
 ·exact .inl h1
 ·rw[By,if_pos h5]at hk
  obtain⟨a,ha⟩:=List.length_eq_one_iff.1 hk;exact .inr (.inl ⟨h5,a,ha,hks a (by rw[ha];exact .head _)⟩)
 ·rw[By,if_neg (by omega),if_pos (.inl h6)]at hk
  obtain⟨a,b,ha⟩:=nN hk;exact .inr (.inr (.inl ⟨h6,a,b,ha,hks a (by rw[ha];exact .head _),hks b (by rw[ha];exact .tail _ (.head _))⟩))
 ·rw[By,if_neg (by omega),if_pos (.inr h7)]at hk
  obtain⟨a,b,ha⟩:=nN hk;exact .inr (.inr (.inr (.inl ⟨h7,a,b,ha,hks a (by rw[ha];exact .head _),hks b (by rw[ha];exact .tail _ (.head _))⟩)))
def Ij: ∀(l:List Int) (a:Int) {x:Int},x∈l→x≤l.foldl Gu a
 | y ::r,a,x,h=>by
   rcases FE.1 h with rfl|h
   ·refine Int.le_trans ?_ (FH r _)
    unfold Gu;split<;>omega
   ·exact Ij r _ h
def Fu {f a:Fact} (h:a∈f.kids):Cx a≤Cx f:=by
 rw[Dz f];exact Ij _ _ (List.mem_map_of_mem h)
def OD {f:Fact} (h:Bm f=true):f.arg+1≤Cx f:=by
 rw[Dz f,if_pos h];exact FH _ _
attribute [local irreducible] Fz
set_option maxHeartbeats 1000000 in
def VO (w:AK) (f:Fact):BW w f=true→Pure Tryz.prog 64 [.a (xF f)] (.a (xF f)):=by
 induction f using Fact.ind with
 | h f ih=>
   intro hn;refine Pure.fit (by kernel_rfl) fun hf=>?_
   have⟨h2,h3,h4⟩:=KB hf.1;have hM:=Mx;rw[CK]at hn;simp only[C1,BV,EL,Du,CL,EX]at hn;have hpl:=hn.1.2.2.2.2.1.2
   have hkl:f.kids.length≤2:=by
    rw[hn.1.2.1,By];split
    ·omega
    split<;>omega
   have hks:=hn.2;clear hn;refine pH kZ ?_;have hs:=Sn
   conv=>whnf
   repeat'((first|apply st|(apply sq;intro K U)|(apply si;intro A B Y Z)|(apply Y;clear Z B Y A)|(apply U;clear U K)|apply dr|refine DT fun σ hs=>?_|refine af ?_|(intro nn hnn;generalize hg:A7 _ nn _=σ;refine CY hg fun hs=>?_;clear hg)|fail)<;>conv=>whnf)
   rename_i n2 _ _ _ _ _;refine CZ f.kids.length (fun k (_:V)=>[(4,eI (BH k))]) (fun k v=>[.box nn [eI f.op,eI f.arg,.l (iL f.path) false,eI f.cls,eI f.n,v],.box n2 [eI 0,eI 0,.l [] true,eI 0,eI 0,.l [] true],.own v 6 (facts (f.kids.take k))]) (fun _ _=>True) (.l [] true) rfl trivial (Fl hs 6) ?_;clear hs;rintro k v σ hk - hs;rcases BM f.kids hk with⟨x,hx,hlt⟩|hke
   ·have hxm:=Cg hx
    have c1:=ih x hxm (hks x hxm);have htk:f.kids.take (k+1)=f.kids.take k++[x]:=AX hx;have htl:(f.kids.take k).length≤2:=by rw[K6];omega
    rw[htk];generalize f.kids.take k=zs at *;have hll:zs.length<Ac∧(zs.length+1)*80≤140737488355328:=by omega
    conv=>whnf
    repeat'((first|apply st|(apply sq;intro K U)|(apply si;intro A B Y Z)|(apply Y;clear Z B Y A)|(apply U;clear U K)|apply dr|refine rk ?_ ?_|exact fun s e=>by cases e;rfl|refine⟨rfl,?_⟩|refine⟨kZ,?_⟩|refine Ve ?_|refine ld ?_|refine EV fun σ hs=>?_|refine vR fun v σ hs hsl=>?_|(refine Cv (fun hc=>?_)<;>(try rw[hc])<;>clear hc)|refine c1.use ?_|clear U K)<;>conv=>whnf)
    exact⟨hlt,_,rfl,trivial,hs⟩
   ·rw[BC hke]at hs
    conv=>whnf
    repeat'((first|apply st|(apply sq;intro K U)|(apply si;intro A B Y Z)|(apply Y;clear Z B Y A)|(apply U;clear U K)|refine⟨rfl,?_⟩|refine⟨kZ,?_⟩|refine ld ?_|(refine EI (fun hc=>?_)<;>(try rw[hc])<;>clear hc)|clear U K)<;>conv=>whnf)
    have o1:=Fb hs 2 rfl;refine F5 hs 1 rfl rfl rfl (by simp[o1]) (by decide) fun σ hs=>?_
    clear o1
    conv=>whnf
    repeat'((first|apply st|(apply Y;clear Z B Y A)|(apply U;clear U K)|refine⟨kZ,?_⟩|refine ld ?_|fail)<;>conv=>whnf)
    exact Bu (.a (.cons (.refl _) (.cons (.refl _) (.cons (.refl _) (.cons (.refl _) (.cons (.refl _) (.cons (hs.QU 2 rfl) .nil)))))))
def bZ:EE E3 3:=fun x=>⟨rfl,fun v hv=>by
 simp only[E3,FE,List.not_mem_nil,or_false]at hv
 rcases hv with rfl|rfl|rfl<;>rfl⟩
def X8:EE Hw 9:=fun x=>⟨rfl,fun v hv=>by
 simp only[Hw,FE,List.not_mem_nil,or_false]at hv
 rcases hv with rfl|rfl|rfl|rfl|rfl|rfl|rfl|rfl|rfl<;>rfl⟩
def X7:EE Ea 3:=fun x=>⟨rfl,fun v hv=>by
 simp only[Ea,FE,List.not_mem_nil,or_false]at hv
 rcases hv with rfl|rfl|rfl<;>rfl⟩
def Pu {w:AK} {c n:Int}: ∀(l pre:List (Int×Int)),DG w c n pre l=true→(∀x∈l,(0≤x.1∧x.1<n)∧ ∀y∈pre,y.1≠x.1)∧(l.map (·.1)).Nodup
 | [],_,_=>⟨fun _ h=>(by cases h),.nil⟩
 | x ::r,pre,h=>by
   simp only[DG,BV,CL,EL,nC]at h;obtain⟨h1,h2,-,-,h3,h4⟩:=h;obtain⟨h5,h6⟩:=Pu r (pre++[x]) h4;refine⟨fun y hy=>?_,?_⟩
   ·rcases FE.1 hy with rfl|hy
    ·exact⟨⟨h1,h2⟩,h3⟩
    ·exact⟨(h5 y hy).1,fun z hz=>(h5 y hy).2 z (Mt _ hz)⟩
   ·rw[EA,List.nodup_cons]
    refine⟨fun hm=>?_,h6⟩;obtain⟨y,hy,e⟩:=Ls.1 hm;exact(h5 y hy).2 x (LA _ (.head _)) e.symm
def MO {w:AK} {n:Int}: ∀(i:Nat) (l:List Me),FN w n i l=true→ ∀c∈l,∃j:Int,DG w j n [] c.inits=true
 | _,[],_,_,h=>by cases h
 | i,x::r,h,c,hc=>by
   simp only[FN,BV]at h;rcases FE.1 hc with rfl|hc
   ·exact⟨_,h.2.1⟩
   ·exact MO (i+1) r h.2.2 c hc
def X4 {p:Prog} (h:(BA p).isSome=true) {c:Me} (hc:c∈p.AL):c.inits.length≤40:=by
 have hm:=ZF h;have hh:=(DA h).1;simp only[Cf,BV,CL,A2]at hh;obtain⟨j,hj⟩:=MO 0 p.AL hh.1.2.2.2.2 c hc;obtain⟨h1,h2⟩:=Pu _ _ hj
 have:=Nh (Bl p.AL) (c.inits.map (·.1)) h2 fun x hx=>by
  obtain⟨y,hy,rfl⟩:=Ls.1 hx;exact(h1 y hy).1
 rw[BR]at this;omega
def bc {p:Prog} (h:Eu (.a (BN p))) {x:Node} (hx:x∈p.nodes):x.kids.length≤Ac:=by
 simp only[BN,HS,DX,D7,HB]at h;have:=h.2.2.2.2.1.2 x hx;simp only[Ea,DX,D7,BR]at this;exact this.2.2.1.1
set_option maxHeartbeats 4000000 in
def me (p:Prog) (hk:(BA p).isSome=true):Bc Tryz.prog 25 [.a (BN p)] [] fun r post=> ∃v,r= .ret (.a [v,eI p.AP,.l (iL p.CM) false,.l (p.methods.map Hw) false,.l (p.nodes.map Ea) false,eI p.main])∧post= [.own v 3 (p.AL.map E3)]:=by
 refine Bc.fit (by kernel_rfl) fun hf=>?_
 intro σ hs;have⟨p1,p2,p3,p4⟩:=GQ hf.1;have hM:=Mx;have F:=KC hf.1;have hok:=look_ok hk;have hKd:=fun x hx=>bc hf.1 (x:=x) hx
 have hc10:=UW hk;have h16:=hok.many
 have h120:p.nodes.length≤120:=by
  have hh:=(DA hk).1;simp only[Cf,BV,CL]at hh;exact hh.2.2.2.2.1
 refine pZ kZ ?_
 conv=>whnf
 repeat'((first|apply st|(refine Ou ?_;intro K U)|(apply si;intro A B Y Z)|(apply Y;clear Z B Y A)|(apply U;clear U K)|apply dr|refine DT fun σ hs=>?_|refine af ?_|refine Mv ?_|(intro nn hnn;generalize hg:A7 _ nn _=σ;refine CY hg fun hs=>?_;clear hg)|fail)<;>conv=>whnf)
 rename_i n2 _ _ _ _ _;refine CZ p.AL.length (fun k (_:V)=>[(4,eI (BH k))]) (fun k v=>[.box nn [v,eI p.AP,.l (iL p.CM) false,.l [] true,.l [] true,eI p.main],.box n2 [.l [] true,eI 0,.l [] true,.l [] true,.l [] true,eI 0],.own v 3 ((p.AL.take k).map E3)]) (fun _ _=>True) (.l [] true) rfl trivial (Fl hs 3) ?_;clear hs;rintro k v σ hk1 - hs;rcases BM p.AL hk1 with⟨y,hy,hlt⟩|hke
 ·have hym:=Cg hy
  obtain⟨b1,b2,b3⟩:=F.2 y hym;have b4:=X4 hk hym;have htk:p.AL.take (k+1)=p.AL.take k++[y]:=AX hy;have htl:(p.AL.take k).length≤10:=by rw[K6];omega
  rw[htk];generalize p.AL.take k=zs at *;have hll:zs.length<Ac∧(zs.length+1)*72≤140737488355328:=by omega
  conv=>whnf
  repeat'((first|apply st|(refine Ou ?_;intro K U)|(apply si;intro A B Y Z)|(apply Y;clear Z B Y A)|(apply U;clear U K)|apply dr|refine⟨rfl,?_⟩|refine⟨kZ,?_⟩|refine ix ?_|refine ld ?_|refine EV fun σ hs=>?_|refine DT fun σ hs=>?_|refine af ?_|(refine Cv (fun hc=>?_)<;>(try rw[hc])<;>clear hc)|refine UP (enc:=pI) LP ⟨by omega,by omega⟩ ?_|refine aq (enc:=E3) (x:=y) (fun v σ hs hsl=>?_) (hg:=bZ)|refine Mv ?_|(intro nn hnn;generalize hg:A7 _ nn _=σ;refine CY hg fun hs=>?_;clear hg)|clear U K)<;>conv=>whnf)
  exact⟨hlt,_,rfl,trivial,hs.less (JR _ _)⟩
 ·rw [BC hke]at hs
  conv=>whnf
  repeat'((first|apply st|(refine Ou ?_;intro K U)|(apply si;intro A B Y Z)|(apply Y;clear Z B Y A)|(apply U;clear U K)|refine⟨rfl,?_⟩|(refine EI (fun hc=>?_)<;>(try rw[hc])<;>clear hc)|refine Mv ?_|clear U K)<;>conv=>whnf)
  clear hke hk1;refine CZ p.methods.length (fun k (_:V)=>[(6,eI (BH k))]) (fun k u=>[.box nn [v,eI p.AP,.l (iL p.CM) false,u,.l [] true,eI p.main],.box n2 [.l [] true,eI 0,.l [] true,.l [] true,.l [] true,eI 0],.own v 3 (p.AL.map E3),.own u 9 ((p.methods.take k).map Hw)]) (fun _ _=>True) (.l [] true) rfl trivial (Fl hs 9) ?_;clear hs;rintro k u σ hk1 - hs;rcases BM p.methods hk1 with⟨y,hy,hlt⟩|hke
  ·have hym:=Cg hy
   have c1:=VO (AR p) y.fact (hok.facts y hym).1;have htk:p.methods.take (k+1)=p.methods.take k++[y]:=AX hy;have htl:(p.methods.take k).length≤16:=by rw[K6];omega
   rw[htk];generalize p.methods.take k=zs at *;have hll:zs.length<Ac∧(zs.length+1)*104≤140737488355328:=by omega
   conv=>whnf
   repeat'((first|apply st|(refine Ou ?_;intro K U)|(apply si;intro A B Y Z)|(apply Y;clear Z B Y A)|(apply U;clear U K)|apply dr|refine rk ?_ ?_|exact fun s e=>by cases e;rfl|refine⟨rfl,?_⟩|refine⟨kZ,?_⟩|refine ix ?_|refine ld ?_|refine DT fun σ hs=>?_|(refine Cv (fun hc=>?_)<;>(try rw[hc])<;>clear hc)|refine c1.use ?_|refine aq (enc:=Hw) (x:=y) (fun v σ hs hsl=>?_) (hg:=X8)|refine HZ hs 1 rfl (Fb hs 4 rfl) (by simp) fun σ hs=>?_|refine Mv ?_|(intro nn hnn;generalize hg:A7 _ nn _=σ;refine CY hg fun hs=>?_;clear hg)|clear U K)<;>conv=>whnf)
   exact⟨hlt,_,rfl,trivial,hs.less (JR _ _)⟩
  ·rw[BC hke]at hs
   conv=>whnf
   repeat'((first|apply st|(refine Ou ?_;intro K U)|(apply si;intro A B Y Z)|(apply Y;clear Z B Y A)|(apply U;clear U K)|refine⟨rfl,?_⟩|fail)<;>conv=>whnf)
   refine Mv ?_
   conv=>whnf
   repeat'((first|apply st|(apply U;clear U K)|(refine EI (fun hc=>?_)<;>(try rw[hc])<;>clear hc)|clear U K)<;>conv=>whnf)
   refine ZJ hs 3 0 rfl rfl (fun σ2 h=> .cons (.refl _) (.cons (.refl _) (.cons (.refl _) (.cons h (.cons (.refl _) (.cons (.refl _) .nil)))))) (fun σ2 h=> .cons (.refl _) (.cons (.refl _) (.cons (.refl _) .nil))) fun σ hs=>?_
   clear hke hk1
   conv=>whnf
   repeat'((first|apply st|(refine Ou ?_;intro K U)|(apply si;intro A B Y Z)|(apply Y;clear Z B Y A)|(apply U;clear U K)|refine Mv ?_|fail)<;>conv=>whnf)
   refine CZ p.nodes.length (fun k (_:V)=>[(8,eI (BH k))]) (fun k u=>[.box nn [v,eI p.AP,.l (iL p.CM) false,.l (p.methods.map Hw) false,u,eI p.main],.box n2 [.l [] true,eI 0,.l [] true,.l [] true,.l [] true,eI 0],.own v 3 (p.AL.map E3),.own u 3 ((p.nodes.take k).map Ea)]) (fun _ _=>True) (.l [] true) rfl trivial (Fl hs 3) ?_;clear hs;rintro k u σ hk1 - hs;rcases BM p.nodes hk1 with⟨y,hy,hlt⟩|hke
   ·have hym:=Cg hy
    have b1:=hKd y hym;have htk:p.nodes.take (k+1)=p.nodes.take k++[y]:=AX hy;have htl:(p.nodes.take k).length≤120:=by rw[K6];omega
    rw[htk];generalize p.nodes.take k=zs at *;have hll:zs.length<Ac∧(zs.length+1)*40≤140737488355328:=by omega
    conv=>whnf
    repeat'((first|apply st|(refine Ou ?_;intro K U)|(apply si;intro A B Y Z)|(apply Y;clear Z B Y A)|(apply U;clear U K)|apply dr|refine⟨rfl,?_⟩|refine⟨kZ,?_⟩|refine ix ?_|refine ld ?_|refine DT fun σ hs=>?_|refine af ?_|(refine Cv (fun hc=>?_)<;>(try rw[hc])<;>clear hc)|refine aq (enc:=Ea) (x:=y) (fun v σ hs hsl=>?_) (hg:=X7)|refine HZ hs 1 rfl (Fb hs 4 rfl) (by simp) fun σ hs=>?_|refine Mv ?_|(intro nn hnn;generalize hg:A7 _ nn _=σ;refine CY hg fun hs=>?_;clear hg)|clear U K)<;>conv=>whnf)
    exact⟨hlt,_,rfl,trivial,hs.less (JR _ _)⟩
   ·rw[BC hke]at hs
    conv=>whnf
    repeat'((first|apply st|(refine Ou ?_;intro K U)|(apply si;intro A B Y Z)|(apply Y;clear Z B Y A)|(apply U;clear U K)|refine⟨rfl,?_⟩|fail)<;>conv=>whnf)
    refine Mv ?_
    conv=>whnf
    repeat'((first|apply st|(apply U;clear U K)|(refine EI (fun hc=>?_)<;>(try rw[hc])<;>clear hc)|clear U K)<;>conv=>whnf)
    refine ZJ hs 3 0 rfl rfl (fun σ2 h=> .cons (.refl _) (.cons (.refl _) (.cons (.refl _) (.cons (.refl _) (.cons h (.cons (.refl _) .nil)))))) (fun σ2 h=> .cons (.refl _) (.cons (.refl _) .nil)) fun σ hs=>?_
    conv=>whnf
    repeat'((first|(refine Ou ?_;intro K U)|(apply si;intro A B Y Z)|refine⟨kZ,?_⟩|refine ld ?_|fail)<;>conv=>whnf)
    have o1:=Fb hs 2 rfl;refine F5 hs 1 rfl rfl rfl (by simp[o1]) (by decide) fun σ hs=>?_
    clear o1
    conv=>whnf
    repeat'((first|apply st|(apply Y;clear Z B Y A)|(apply U;clear U K)|refine⟨kZ,?_⟩|refine ld ?_|refine Mv ?_|fail)<;>conv=>whnf)
    exact Aq (hs.front (j:=2) rfl) (.cons₂ _ (Lr _)) (.refl _) fun σ' hs'=>⟨_,⟨v,rfl,rfl⟩,hs'⟩
end Go.Gl
namespace Go.Gl
open Go.Proofs
end Go.Gl
namespace Go.Gl
open Go.Proofs
attribute [local irreducible] BD Aw Ai AU AO Ah AV AW AN Ag AS AT Ay A9 Sat Ab A4 Aj W
attribute [local irreducible] Fz
def oT (l:List Int) (f:Bool) (x:Int) (hl:l.length≤1000):Pure Tryz.prog 26 [.l (iL l) f,eI x] (.b (l.contains x)):=by
 have hM:=Mx;refine pY kZ ?_;have hs:=Sn
 conv=>whnf
 repeat'((first|apply st|(apply sq;intro K U)|(apply si;intro A B Y Z)|(apply Y;clear Z B Y A)|(apply U;clear U K)|fail)<;>conv=>whnf)
 refine CZ l.length (fun k (_:Unit)=>[(5,eI (BH k))]) (fun _ _=>[]) (fun k _=>l.contains x=(l.drop k).contains x) () rfl rfl hs ?_;clear hs;rintro k - σ hk hn hs;rcases BM l hk with⟨y,hy,hlt⟩|hke
 ·rw[drop_cons hy,List.contains_cons]at hn
  by_cases hxy:y=x
  ·conv=>whnf
   repeat'((first|apply st|(apply sq;intro K U)|(apply si;intro A B Y Z)|(apply Y;clear Z B Y A)|(apply U;clear U K)|refine⟨rfl,?_⟩|refine ix ?_|(refine Cv (fun hc=>?_)<;>(try rw[hc])<;>clear hc)|(constructor<;>intro hc<;>(try rw[hc])<;>(replace hc:=bp hc)<;>try(exfalso;omega))|clear U K)<;>conv=>whnf)
   exact AI (by rw[hn,hxy];simp)
  ·have e:(x==y)=false:=by simpa using fun e:x=y=>hxy e.symm
   rw[e,Bool.false_or]at hn
   conv=>whnf
   repeat'((first|apply st|(apply sq;intro K U)|(apply si;intro A B Y Z)|(apply Y;clear Z B Y A)|(apply U;clear U K)|refine⟨rfl,?_⟩|refine ix ?_|(refine Cv (fun hc=>?_)<;>(try rw[hc])<;>clear hc)|(constructor<;>intro hc<;>(try rw[hc])<;>(replace hc:=bp hc)<;>try(exfalso;omega))|clear U K)<;>conv=>whnf)
   exact⟨hlt,(),rfl,hn,hs⟩
 ·conv=>whnf
  repeat'((first|apply st|(apply sq;intro K U)|(apply si;intro A B Y Z)|(apply Y;clear Z B Y A)|(apply U;clear U K)|refine⟨rfl,?_⟩|(refine EI (fun hc=>?_)<;>(try rw[hc])<;>clear hc)|clear U K)<;>conv=>whnf)
  exact AI (by rw[hn,Ap hke];rfl)
end Go.Gl
namespace Go.Gl
open Go.Proofs
attribute [local irreducible] BD Aw Ai AU AO Ah AV AW AN Ag AS AT Ay A9 Sat Ab A4 Aj W
structure Ask (p:Prog) (os:List Ob) (gen:Int) (args:List (Int×Int)):Prop where
 look:(BA p).isSome=true
 gv:QW (AR p) os
 ZH:I8 p gen=true
 len:(args.length:Int)=p.CM.getD gen.toNat 0
 tX: ∀v∈args,Bt os.length v=true
def NW {p:Prog} {os:List Ob} {gen:Int} {args:List (Int×Int)} (h:B3 p os gen args=true):Ask p os gen args:=by
 simp only[B3,BV,CL,EL]at h;exact⟨h.1,WA h.2.1,h.2.2.1,h.2.2.2.1,h.2.2.2.2⟩
def Q5 {p:Prog} (h:(BA p).isSome=true) {x:MY} (hx:x∈p.methods):(1≤x.kind∧x.kind≤4)∧CW (AR p) x.fact=true∧BW (AR p) x.fact=true∧Cx x.fact≤p.CM.getD x.gen.toNat 0:=by
 have:=(DA h).2 x hx;simp only[Mu,BV,CL]at this;have hf:=this.2.2.2.2.1;simp only[CW,BV,CL]at hf;exact⟨⟨this.1,this.2.1⟩,this.2.2.2.2.1,hf.2.2,this.2.2.2.2.2⟩
def c9 (p:Prog) (os:List Ob) (gen:Int) (args:List (Int×Int)) (k:Nat):List Int:=(Bj k).filter fun m=>(BL p m).gen==gen&&DM (AR p) os args (BL p m).fact
def cH (p:Prog) (os:List Ob) (gen:Int) (args:List (Int×Int)) (k:Nat):(c9 p os gen args k).length≤k:=by
 have:=Oy (fun m=>(BL p m).gen==gen&&DM (AR p) os args (BL p m).fact) (Bj k)
 rwa [He]at this
def JV (p:Prog) (os:List Ob) (gen:Int) (args:List (Int×Int)):List Int:=c9 p os gen args p.methods.length
structure Pl where
 ar:List Int
 vQ:Bool
 be:List Int
 pr:List Int
 prt:Bool
 af:List Int
abbrev fV (x:Pl) (g h:Bool):List V:=[.l (iL x.ar) g,.b x.vQ,.l (iL x.be) g,.l (iL x.pr) g,.b x.prt,.l (iL x.af) h]
def DL (p:Prog) (l:List Int) (k:Int):List Int:=l.filter fun m=>(BL p m).kind==k
def gZ:Pl:=⟨[],false,[],[],false,[]⟩
def fj (A:Int→Int→Bool) (p:Prog) (l:List Int):Pl:=
 ⟨(CI A (DL p l 4).length (DL p l 4)).1,(CI A (DL p l 4).length (DL p l 4)).2,E4 A (DL p l 2).length (Hq (DL p l 2)),(CI A (DL p l 1).length (DL p l 1)).1,(CI A (DL p l 1).length (DL p l 1)).2,(E4 A (DL p l 3).length (Hq (DL p l 3))).reverse⟩
def GN (A:Int→Int→Bool) (p:Prog) (l:List Int):Pl×Bool:=if(DL p l 1).isEmpty then(gZ,false)else(fj A p l,true)
end Go.Gl
namespace Go.Gl
open Go.Proofs
structure SK (p:Prog) (l:List Int):Prop where
 Ly: ∀x∈l,A5 p x=true
 gen: ∀x∈l,∀y∈l,(BL p x).gen=(BL p y).gen
 nodup:l.Nodup
 many:l.length≤16
def HX {p:Prog} {l:List Int} {k x:Int} (h:x∈DL p l k):x∈l∧(BL p x).kind=k:=by
 have:=K9.1 h;exact⟨this.1,by simpa using this.2⟩
def dj {p:Prog} {l:List Int} {k:Int}:(DL p l k).length≤l.length:=Oy _ _
def SK.of {p:Prog} {l:List Int} (h:SK p l) (k:Int):NR p (DL p l k)∧(DL p l k).Nodup:=by
 refine⟨⟨fun x hx=>h.Ly x (HX hx).1,fun x hx y hy=>?_,Nat.le_trans dj h.many⟩,h.nodup.sublist (List.filter_sublist ..)⟩;rw[Cq,h.gen x (HX hx).1 y (HX hy).1,(HX hx).2,(HX hy).2];simp
def TU {p:Prog} {l:List Int} {A B:Int→Int→Bool} (h:SK p l) (hq: ∀x∈l,∀y∈l,Cq p x y=true→A x y=B x y):GN A p l=GN B p l:=by
 have hk: ∀k,∀x∈DL p l k,∀y∈DL p l k,A x y=B x y:=fun k x hx y hy=>hq x (HX hx).1 y (HX hy).1 ((h.of k).1.alike x hx y hy)
 have hc: ∀k,CI A (DL p l k).length (DL p l k)=CI B (DL p l k).length (DL p l k):=fun k=>K1 _ _ (hk k)
 have hb: ∀k,E4 A (DL p l k).length (Hq (DL p l k))=E4 B (DL p l k).length (Hq (DL p l k)):=fun k=>Om _ _ fun x hx y hy=>hk k x (La.1 hx) y (La.1 hy)
 unfold GN fj;rw[hc 4,hc 1,hb 2,hb 3]
def XA.sub {T:List (List Bool)} {l l':List Int} (h:XA T l) (hs: ∀x∈l',x∈l) (hl:l'.length≤l.length):XA T l':=⟨h.len,h.sq,fun x hx=>h.ins x (hs x hx),Nat.le_trans hl h.many⟩
attribute [local irreducible] BD Aw Ai AU AO Ah AV AW AN Ag AS AT Ay A9 Sat Ab A4 Aj W
end Go.Gl
namespace Go.Gl
open Go.Proofs
attribute [local irreducible] BD Aw Ai AU AO Ah AV AW AN Ag AS AT Ay A9 Sat Ab A4 Aj W
def a6 {p:Prog} {l:List Int} {k:Nat} {x:Int} (hx:l[k]? =some x) (kd:Int):DL p (l.take (k+1)) kd=if(BL p x).kind==kd then DL p (l.take k) kd++[x]else DL p (l.take k) kd:=by
 rw[AX hx,DL,List.filter_append];cases hp:(BL p x).kind==kd<;>simp[DL,hp]
def Kb {p:Prog} {l:List Int} {k:Nat} {kd:Int} (h:l.length≤16):(DL p (l.take k) kd).length≤16:=by
 have:=Oy (fun m=>(BL p m).kind==kd) (l.take k);rw[K6]at this;simp only[DL];omega
set_option maxHeartbeats 4000000 in
def iW (p:Prog) (L:Nat) (l:List Int) (f:Bool) (h:(BA p).isSome=true) (hG:SK p l) (M:List (Int×Int)) :
    Bc Tryz.prog 57 [Ff p L,.l (iL l) f] [.map L (E2 p M)] fun r post=>r= .ret (.t [.a (fV (GN (Al p) p l).1 true (!(GN (Al p) p l).2)),.b (GN (Al p) p l).2])∧ ∃M',post= [.map L (E2 p M')]:=by
 intro σ hs;have hM:=Mx;have hok:=look_ok h;have hgw:=NG h;have hfm:=KM h;have h16:=hG.many;have hm16:=hok.many;generalize hX:GN (Al p) p l=X;refine pO kZ ?_
 conv=>whnf
 repeat'((first|apply st|(apply sq;intro K U)|(apply si;intro A B Y Z)|(apply Y;clear Z B Y A)|(apply U;clear U K)|(intro nn hnn;generalize hg:A7 _ nn _=σ;refine CY hg fun hs=>?_;clear hg)|fail)<;>conv=>whnf)
 rename_i n4 _ _ _;clear hnn;refine CZ l.length (fun k (_:V×V×V×V)=>[(13,eI (BH k))]) (fun k x=>[.own x.1 1 (iL (DL p (l.take k) 1)),.own x.2.1 1 (iL (DL p (l.take k) 2)),.own x.2.2.1 1 (iL (DL p (l.take k) 3)),.own x.2.2.2 1 (iL (DL p (l.take k) 4)),.box nn [.l [] true,x.1,x.2.1,x.2.2.1,x.2.2.2],.box n4 [.l [] true,.b false,.l [] true,.l [] true,.b false,.l [] true],.map L (E2 p M)]) (fun _ _=>True) (.l [] true,.l [] true,.l [] true,.l [] true) rfl trivial (DN (DN (DN (DN hs 1) 1) 1) 1) ?_;clear hs;rintro k ⟨v1,v2,v3,v4⟩ σ hk - hs;dsimp only at hs;dsimp only;rcases BM l hk with⟨x,hx,hlt⟩|hke
 ·have hmx:=hG.Ly x (Cg hx)
  have hxm:=B7 hmx;obtain⟨hkr,-⟩:=Q5 h (Cg hxm);have hst:=a6 (p:=p) hx;simp only[A5,BV,CL]at hmx;have l1:(DL p (l.take k) 1).length≤16:=Kb h16;have l2:(DL p (l.take k) 2).length≤16:=Kb h16;have l3:(DL p (l.take k) 3).length≤16:=Kb h16;have l4:(DL p (l.take k) 4).length≤16:=Kb h16;have s1:=hst 1;have s2:=hst 2;have s3:=hst 3;have s4:=hst 4;clear hst;generalize BL p x=y at *;generalize DL p (l.take k) 1=z1 at *;generalize DL p (l.take k) 2=z2 at *;generalize DL p (l.take k) 3=z3 at *;generalize DL p (l.take k) 4=z4 at *;obtain⟨kd,gn,fc,nd⟩:=y;dsimp only at hkr s1 s2 s3 s4;rcases(show kd=1∨kd=2∨kd=3∨kd=4 by omega)with rfl|rfl|rfl|rfl
  ·rw[if_pos (beq_self_eq_true _)]at s1
   rw[if_neg (by decide)]at s2 s3 s4;have hll:z1.length<Ac∧(z1.length+1)*8≤140737488355328:=by omega
   clear l1 l2 l3 l4
   conv=>whnf
   repeat'((first|apply st|(apply sq;intro K U)|(apply si;intro A B Y Z)|(apply Y;clear Z B Y A)|(apply U;clear U K)|refine⟨rfl,?_⟩|refine ix ?_|refine ID ?_|refine ld ?_|refine EV fun σ hs=>?_|refine aq fun v σ hs hsl=>?_|(refine Cv (fun hc=>?_)<;>(try rw[hc])<;>clear hc)|refine Tx (j:=1) ?_ (by decide) (by decide)|clear U K)<;>conv=>whnf)
   exact⟨hlt,(v,v2,v3,v4),rfl,trivial,by rw[s1,s2,s3,s4];exact hs⟩
  ·rw[if_pos (beq_self_eq_true _)]at s2
   rw[if_neg (by decide)]at s1 s3 s4;have hll:z2.length<Ac∧(z2.length+1)*8≤140737488355328:=by omega
   clear l1 l2 l3 l4
   conv=>whnf
   repeat'((first|apply st|(apply sq;intro K U)|(apply si;intro A B Y Z)|(apply Y;clear Z B Y A)|(apply U;clear U K)|refine⟨rfl,?_⟩|refine ix ?_|refine ID ?_|refine ld ?_|refine EV fun σ hs=>?_|refine aq fun v σ hs hsl=>?_|(refine Cv (fun hc=>?_)<;>(try rw[hc])<;>clear hc)|refine Tx (j:=2) ?_ (by decide) (by decide)|clear U K)<;>conv=>whnf)
   exact⟨hlt,(v1,v,v3,v4),rfl,trivial,by rw[s1,s2,s3,s4];exact hs⟩
  ·rw[if_pos (beq_self_eq_true _)]at s3
   rw[if_neg (by decide)]at s1 s2 s4;have hll:z3.length<Ac∧(z3.length+1)*8≤140737488355328:=by omega
   clear l1 l2 l3 l4
   conv=>whnf
   repeat'((first|apply st|(apply sq;intro K U)|(apply si;intro A B Y Z)|(apply Y;clear Z B Y A)|(apply U;clear U K)|refine⟨rfl,?_⟩|refine ix ?_|refine ID ?_|refine ld ?_|refine EV fun σ hs=>?_|refine aq fun v σ hs hsl=>?_|(refine Cv (fun hc=>?_)<;>(try rw[hc])<;>clear hc)|refine Tx (j:=3) ?_ (by decide) (by decide)|clear U K)<;>conv=>whnf)
   exact⟨hlt,(v1,v2,v,v4),rfl,trivial,by rw[s1,s2,s3,s4];exact hs⟩
  ·rw[if_pos (beq_self_eq_true _)]at s4
   rw[if_neg (by decide)]at s1 s2 s3;have hll:z4.length<Ac∧(z4.length+1)*8≤140737488355328:=by omega
   clear l1 l2 l3 l4
   conv=>whnf
   repeat'((first|apply st|(apply sq;intro K U)|(apply si;intro A B Y Z)|(apply Y;clear Z B Y A)|(apply U;clear U K)|refine⟨rfl,?_⟩|refine ix ?_|refine ID ?_|refine ld ?_|refine EV fun σ hs=>?_|refine aq fun v σ hs hsl=>?_|(refine Cv (fun hc=>?_)<;>(try rw[hc])<;>clear hc)|refine Tx (j:=4) ?_ (by decide) (by decide)|clear U K)<;>conv=>whnf)
   exact⟨hlt,(v1,v2,v3,v),rfl,trivial,by rw[s1,s2,s3,s4];exact hs⟩
 ·rw [BC hke]at hs
  obtain⟨o1,d1⟩:=hG.of 1;obtain⟨o2,d2⟩:=hG.of 2;obtain⟨o3,d3⟩:=hG.of 3;obtain⟨o4,d4⟩:=hG.of 4;have hpl:GN (Al p) p l=if(DL p l 1).isEmpty then(gZ,false)else(⟨(CI (Al p) (DL p l 4).length (DL p l 4)).1,(CI (Al p) (DL p l 4).length (DL p l 4)).2,E4 (Al p) (DL p l 2).length (Hq (DL p l 2)),(CI (Al p) (DL p l 1).length (DL p l 1)).1,(CI (Al p) (DL p l 1).length (DL p l 1)).2,(E4 (Al p) (DL p l 3).length (Hq (DL p l 3))).reverse⟩,true):=rfl
  rw[hpl]at hX;clear hpl;have e4:=fun M=>RJ p L (DL p l 4) false hok hgw hfm o4 d4 M
  have e2:=fun M=>Yc p L (DL p l 2) false hok hgw hfm o2 d2 M
  have e1:=fun M=>RJ p L (DL p l 1) false hok hgw hfm o1 d1 M
  have e3:=fun M=>VY p L (DL p l 3) false hok hgw hfm o3 d3 M
  rw[PW d2]at e2;rw[PW d3]at e3;have hl1:=o1.many
  have hbl:(E4 (Al p) (DL p l 3).length (Hq (DL p l 3))).length≤16:=by
   have: ∀k l,(E4 (Al p) k l).length=k:=fun k=>by
    induction k with
    | zero=>intro l;rfl
    | succ k ih=>intro l;simp only[E4,Lt,ih]
   rw[this];exact o3.many
  clear o1 o2 o3 o4 d1 d2 d3 d4 hG;generalize E4 (Al p) (DL p l 3).length (Hq (DL p l 3))=xs at *;generalize E4 (Al p) (DL p l 2).length (Hq (DL p l 2))=bs at *;generalize CI (Al p) (DL p l 4).length (DL p l 4)=q4 at *;generalize CI (Al p) (DL p l 1).length (DL p l 1)=q1 at *;generalize DL p l 1=l1 at *;generalize DL p l 2=l2 at *;generalize DL p l 3=l3 at *;generalize DL p l 4=l4 at *;obtain⟨r4,t4⟩:=q4;obtain⟨r1,t1⟩:=q1;dsimp only at e1 e4;by_cases hz:l1.length=0
  ·have he:l1.isEmpty=true:=by simpa using hz
   rw[he,if_pos rfl]at hX;subst hX
   conv=>whnf
   repeat'((first|apply st|(apply sq;intro K U)|(apply si;intro A B Y Z)|(apply Y;clear Z B Y A)|(apply U;clear U K)|refine⟨rfl,?_⟩|refine⟨kZ,?_⟩|refine Tx ?_|refine lo ?_|refine ld ?_|(refine EI (fun hc=>?_)<;>(try rw[hc])<;>clear hc)|(constructor<;>intro hc<;>(try rw[hc])<;>(replace hc:=bp hc)<;>(try simp(disch:=omega) only[BR,wrap64,AM]at hc)<;>try(exfalso;omega))|(intro nn hnn;generalize hg:A7 _ nn _=σ;refine CY hg fun hs=>?_;clear hg)|clear U K)<;>conv=>whnf)
   refine F5 hs 6 rfl rfl rfl (by simp) (by decide) fun σ hs=>?_
   conv=>whnf
   repeat'((first|apply st|(apply Y;clear Z B Y A)|(apply U;clear U K)|clear U K)<;>conv=>whnf)
   refine SN hs 6 rfl ?_
   conv=>whnf
   repeat'((first|refine⟨kZ,?_⟩|fail)<;>conv=>whnf)
   exact Aq (hs.front (j:=7) rfl) (.cons₂ _ (Lr _)) (.refl _) fun σ' hs'=>⟨_,⟨rfl,M,rfl⟩,hs'⟩
  ·have he:l1.isEmpty=false:=by cases l1 with
    | nil=>simp at hz
    | cons=>rfl
   rw[he,if_neg (by decide)]at hX;subst hX
   conv=>whnf
   repeat'((first|apply st|(apply sq;intro K U)|(apply si;intro A B Y Z)|(apply Y;clear Z B Y A)|(apply U;clear U K)|refine⟨rfl,?_⟩|refine Tx ?_|refine lo ?_|refine ld ?_|(refine EI (fun hc=>?_)<;>(try rw[hc])<;>clear hc)|(constructor<;>intro hc<;>(try rw[hc])<;>(replace hc:=bp hc)<;>(try simp(disch:=omega) only[BR,wrap64,AM]at hc)<;>try(exfalso;omega))|(intro nn hnn;generalize hg:A7 _ nn _=σ;refine CY hg fun hs=>?_;clear hg)|clear U K)<;>conv=>whnf)
   obtain⟨σ2,g1,g2,g3⟩:=Ht hs 4 rfl;refine BD.PK ((e4 M).use (rest:=_) (g3.front (j:=6) rfl) ?_) g1 (.cons (.refl _) (.cons g2 .nil));clear hs g1 g2 g3;rintro r post σ ⟨rfl,M,rfl⟩ hs
   conv=>whnf
   repeat'((first|(apply sq;intro K U)|(apply si;intro A B Y Z)|(apply Y;clear Z B Y A)|(apply U;clear U K)|refine Tx ?_|refine ld ?_|refine EV fun σ hs=>?_|fail)<;>conv=>whnf)
   obtain⟨σ2,g1,g2,g3⟩:=Ht hs 3 rfl;refine BD.PK ((e2 M).use (rest:=_) g3 ?_) g1 (.cons (.refl _) (.cons g2 .nil));clear hs g1 g2 g3;rintro r post σ ⟨rfl,M,rfl⟩ hs
   conv=>whnf
   repeat'((first|(apply sq;intro K U)|(apply si;intro A B Y Z)|(apply Y;clear Z B Y A)|(apply U;clear U K)|refine Tx ?_|refine ld ?_|refine EV fun σ hs=>?_|fail)<;>conv=>whnf)
   obtain⟨σ2,g1,g2,g3⟩:=Ht hs 2 rfl;refine BD.PK ((e1 M).use (rest:=_) g3 ?_) g1 (.cons (.refl _) (.cons g2 .nil));clear hs g1 g2 g3;rintro r post σ ⟨rfl,M,rfl⟩ hs
   conv=>whnf
   repeat'((first|(apply sq;intro K U)|(apply si;intro A B Y Z)|(apply Y;clear Z B Y A)|(apply U;clear U K)|refine Tx ?_|refine ld ?_|refine EV fun σ hs=>?_|fail)<;>conv=>whnf)
   obtain⟨σ2,g1,g2,g3⟩:=Ht hs 2 rfl;refine BD.PK ((e3 M).use (rest:=_) g3 ?_) g1 (.cons (.refl _) (.cons g2 .nil));clear hs g1 g2 g3;rintro r post σ ⟨v,M,rfl,rfl,hv⟩ hs
   conv=>whnf
   repeat'((first|(apply sq;intro K U)|(apply si;intro A B Y Z)|(apply Y;clear Z B Y A)|(apply U;clear U K)|refine ld ?_|refine EV fun σ hs=>?_|fail)<;>conv=>whnf)
   refine(Xa xs v (by omega) hv).use (rest:=_) hs ?_;clear hs;rintro r post σ ⟨rfl,rfl⟩ hs
   conv=>whnf
   repeat'((first|(apply sq;intro K U)|(apply si;intro A B Y Z)|(apply Y;clear Z B Y A)|(apply U;clear U K)|refine⟨kZ,?_⟩|refine ld ?_|fail)<;>conv=>whnf)
   have o1:=Fb hs 0 rfl;refine F5 hs 4 rfl rfl rfl (by simp[o1]) (by decide) fun σ hs=>?_
   clear o1
   conv=>whnf
   repeat'((first|apply st|(apply Y;clear Z B Y A)|(apply U;clear U K)|refine⟨kZ,?_⟩|refine ld ?_|fail)<;>conv=>whnf)
   obtain⟨σ2,g1,g2,g3⟩:=Ht hs 0 rfl;exact Gb g1 (.t (.cons (.a (.cons (.refl _) (.cons (.refl _) (.cons (.refl _) (.cons (.refl _) (.cons (.refl _) (.cons g2 .nil))))))) (.cons (.refl _) .nil))) ⟨_,⟨rfl,M,rfl⟩,g3.less (.cons₂ _ (Lr _))⟩
end Go.Gl
