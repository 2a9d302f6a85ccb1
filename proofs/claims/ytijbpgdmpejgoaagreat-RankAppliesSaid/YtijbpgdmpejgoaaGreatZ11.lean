import Derived.Shelf.Sort.Plain
import Derived.Test.YtijbpgdmpejgoaaGreatProg
import Derived.Test.YtijbpgdmpejgoaaGreatZ10
set_option linter.all false
set_option linter.defProp false
noncomputable section
namespace Go.Gl
open Go.Proofs
attribute [local irreducible] BC Ax Ai AU AO Ag AV AW AM Af AR AT A0 A9 Sat Ab A6 Ak W
def aM (xs:List Int) (f:Bool):Pure Tryz.prog 175 [.l (iL xs) f] (.l (iL xs) false):=by
 refine Pure.fit (by kernel_rfl) fun hf=>?_
 have hxl:=QF hf.1;have hM:=Mx;refine Yz kZ ?_;have hs:=Sn
 conv=>whnf
 repeat'((first|(apply sq;intro K U)|(apply si;intro A B Y Z)|(apply Y;clear Z B Y A)|(apply U;clear U K)|fail)<;>conv=>whnf)
 refine⟨fun e t=>?_,fun _=>?_⟩
 ·have hx:xs= []:=List.map_eq_nil_iff.1 e
  subst hx
  conv=>whnf
  repeat'((first|apply st|(apply sq;intro K U)|(apply si;intro A B Y Z)|(apply Y;clear Z B Y A)|(apply U;clear U K)|(constructor<;>intro hc<;>(try rw[hc])<;>(replace hc:=bp hc))|clear U K)<;>conv=>whnf)
  ·exact Bu Cg
  ·replace hs:=DK hs 1
   refine Mj hs 0 (xs:=[]) (ys:=[]) rfl (by simp) Co fun v σ hs=>?_
   conv=>whnf
   repeat'((first|apply st|(apply Y;clear Z B Y A)|(apply U;clear U K)|fail)<;>conv=>whnf)
   exact Fw hs 0 rfl rfl
 ·conv=>whnf
  repeat'((first|apply st|(apply sq;intro K U)|(apply si;intro A B Y Z)|(apply Y;clear Z B Y A)|(apply U;clear U K)|fail)<;>conv=>whnf)
  replace hs:=DK hs 1;refine Mj hs 0 (xs:=[]) (ys:=xs) rfl (by simp;omega) Co fun v σ hs=>?_
  conv=>whnf
  repeat'((first|apply st|(apply Y;clear Z B Y A)|(apply U;clear U K)|fail)<;>conv=>whnf)
  exact Fw hs 0 rfl rfl
def gA (c:ON):Pure Tryz.prog 174 [.a (OU c)] (.l (iL c.parents) false):=by
 refine jl kZ ?_;have hs:=Sn
 conv=>whnf
 repeat'((first|apply st|(apply sq;intro K U)|(apply si;intro A B Y Z)|(apply Y;clear Z B Y A)|(apply U;clear U K)|refine Pure.use (aM _ _) ?_|fail)<;>conv=>whnf)
 exact AI rfl
def dJ (xs:List (List Int)) (v:V) (hl:xs.length≤Ae):Bd Tryz.prog 216 [v] [.own v 1 (EZ xs)] fun r post=>r= .ret (.l (EZ xs) true)∧post= []:=by
 intro σ hs;have hg:=DQ DM xs;refine jM kZ ?_
 conv=>whnf
 repeat'((first|(apply sq;intro K U)|(apply si;intro A B Y Z)|(apply Y;clear Z B Y A)|(apply U;clear U K)|refine lo ?_|fail)<;>conv=>whnf)
 refine U9 (i:=0) hs rfl hg.1 (by simpa using hl) fun σ hs=>?_
 conv=>whnf
 repeat'((first|apply st|(apply Y;clear Z B Y A)|(apply U;clear U K)|fail)<;>conv=>whnf)
 exact Ar hs (List.Sublist.refl _) (.refl _) fun σ' hs'=>⟨_,⟨rfl,rfl⟩,hs'⟩
def M3 (xs:List Int) (v:V) (hl:xs.length≤Ae):Bd Tryz.prog 99 [v] [.own v 1 (iL xs)] fun r post=>r= .ret (.l (iL xs) true)∧post= []:=by
 intro σ hs;have hg:=DQ Co xs;refine eH kZ ?_
 conv=>whnf
 repeat'((first|(apply sq;intro K U)|(apply si;intro A B Y Z)|(apply Y;clear Z B Y A)|(apply U;clear U K)|refine lo ?_|fail)<;>conv=>whnf)
 refine U9 (i:=0) hs rfl hg.1 (by simpa using hl) fun σ hs=>?_
 conv=>whnf
 repeat'((first|apply st|(apply Y;clear Z B Y A)|(apply U;clear U K)|fail)<;>conv=>whnf)
 exact Ar hs (List.Sublist.refl _) (.refl _) fun σ' hs'=>⟨_,⟨rfl,rfl⟩,hs'⟩
def dA (cs:List ON) (hl:cs.length≤1000000):Pure Tryz.prog 173 [.l (cs.map OU) false,.f (.func 174) [] []] (.l (EZ (cs.map (·.parents))) false):=by
 have hM:=Mx;refine jm kZ ?_;have hs:=Sn
 conv=>whnf
 repeat'((first|apply st|(apply sq;intro K U)|(apply si;intro A B Y Z)|(apply Y;clear Z B Y A)|(apply U;clear U K)|fail)<;>conv=>whnf)
 refine CZ cs.length (fun k v=>[(5,v),(10,eI (BL k))]) (fun k v=>[.own v 1 (EZ ((cs.take k).map (·.parents)))]) (fun _ _=>True) (.l [] true) rfl trivial (DK hs 1) ?_;clear hs;rintro k v σ hk - hs;rcases BS cs hk with⟨c,hc,hlt⟩|hke
 ·conv=>whnf
  repeat'((first|apply st|(apply sq;intro K U)|(apply si;intro A B Y Z)|(apply Y;clear Z B Y A)|(apply U;clear U K)|refine⟨rfl,?_⟩|refine⟨kZ,?_⟩|refine ix ?_|refine ld ?_|refine DJ fun σ hs=>?_|(refine Cs (fun hc=>?_)<;>(try rw[hc])<;>clear hc)|(intro nn hnn;generalize hg:A8 _ nn _=σ;refine CW hg fun hs=>?_;clear hg)|fail)<;>conv=>whnf)
  refine Bl ((gA c).use ?_)
  conv=>whnf
  repeat'((first|(apply si;intro A B Y Z)|(apply Y;clear Z B Y A)|(apply U;clear U K)|refine⟨rfl,?_⟩|refine aq fun v σ hs hsl=>?_|clear U K)<;>conv=>whnf)
  exact⟨hlt,_,rfl,trivial,by rw[AX hc,TN];exact hs.less (Kh _ _)⟩
 ·rw[BK hke]at hs
  conv=>whnf
  repeat'((first|apply st|(apply sq;intro K U)|(apply si;intro A B Y Z)|(apply Y;clear Z B Y A)|(apply U;clear U K)|refine⟨rfl,?_⟩|(refine EV (fun hc=>?_)<;>(try rw[hc])<;>clear hc)|clear U K)<;>conv=>whnf)
  refine(dJ (cs.map (·.parents)) v (by simp;omega)).use (rest:=[]) hs ?_;clear hs;rintro r post σ ⟨rfl,rfl⟩ hs
  conv=>whnf
  repeat'((first|apply st|(apply Y;clear Z B Y A)|(apply U;clear U K)|fail)<;>conv=>whnf)
  exact Bu Ml
def KH (p:Prog) (hk0:p.AN.length≤1000):Pure Tryz.prog 138 [.a (BU p)] (.l (EZ (Ay p)) false):=by
 refine Pure.fit (by kernel_rfl) fun hf=>?_
 have F:=Jn hf.1;refine kK kZ ?_;have hs:=Sn
 conv=>whnf
 repeat'((first|apply st|(apply sq;intro K U)|(apply si;intro A B Y Z)|(apply Y;clear Z B Y A)|(apply U;clear U K)|fail)<;>conv=>whnf)
 refine(dA p.AN (by omega)).use ?_
 conv=>whnf
 repeat'((first|apply st|(apply Y;clear Z B Y A)|(apply U;clear U K)|fail)<;>conv=>whnf)
 exact AI rfl
def Rt (p:Prog) (hk0:p.AN.length≤1000) (hm:Bp p.AN≤Ae):Pure Tryz.prog 108 [.a (BU p)] (.a (A2 (AQ p))):=by
 refine Pure.fit (by kernel_rfl) fun hf=>?_
 have F:=Jn hf.1;have hcl:=F.1;have hM:=Mx;refine ky kZ ?_;have hs:=Sn
 conv=>whnf
 repeat'((first|apply st|(apply sq;intro K U)|(apply si;intro A B Y Z)|(apply Y;clear Z B Y A)|(apply U;clear U K)|refine⟨kZ,?_⟩|refine DJ fun σ hs=>?_|refine Pure.use (KH _ hk0) ?_|(intro nn hnn;generalize hg:A8 _ nn _=σ;refine CW hg fun hs=>?_;clear hg)|fail)<;>conv=>whnf)
 rename_i n2 _ _ _ _ _
 rename Nat=>n3
 replace hs:Sat σ [.box n3 [.l (EZ (Ay p)) false,.l [] true],.box n2 [.l [] true,.l [] true]]:=hs;refine CZ p.AN.length (fun k (_:V)=>[(12,eI (BL k))]) (fun k v=>[.own v 1 (iL (BT 0 (p.AN.take k))),.box n3 [.l (EZ (Ay p)) false,v],.box n2 [.l [] true,.l [] true]]) (fun _ _=>True) (.l [] true) rfl trivial (DK hs 1) ?_;clear hs;rintro k v σ hk - hs;rcases BS p.AN hk with⟨c,hc,hlt⟩|hke
 ·have hcm:=F.2 c (Cj hc)
  have htk:=Nz hc;have hck:BL k=k:=AL (by omega)
  have hap:BT 0 (p.AN.take (k+1))=BT 0 (p.AN.take k)++List.replicate c.AS.length ((k:Int)+3):=by
   rw[AX hc,Hf];have:(p.AN.take k).length=k:=by simp;omega
   rw[this];simp[BT]
  have hol:=CL 0 (p.AN.take k);have hw3:IntKind.i64.wrap (BL k+3)=(k:Int)+3:=by rw[hck,wrap64 (by omega) (by omega)]
  have hcs:=hcm.2.1;generalize BT 0 (p.AN.take k)=os at *
  conv=>whnf
  repeat'((first|apply st|(apply sq;intro K U)|(apply si;intro A B Y Z)|(apply Y;clear Z B Y A)|(apply U;clear U K)|refine⟨rfl,?_⟩|refine⟨kZ,?_⟩|refine ix ?_|refine ld ?_|refine DJ fun σ hs=>?_|(refine Cs (fun hc=>?_)<;>(try rw[hc])<;>clear hc)|(intro nn hnn;generalize hg:A8 _ nn _=σ;refine CW hg fun hs=>?_;clear hg)|fail)<;>conv=>whnf)
  refine CZ c.AS.length (fun j (_:V)=>[(20,eI (BL j))]) (fun j v=>[.own v 1 (iL (os++List.replicate j ((k:Int)+3))),.box n3 [.l (EZ (Ay p)) false,v],.box n2 [.l [] true,.l [] true]]) (fun _ _=>True) v rfl trivial (by simpa using hs.less (Kh _ _)) ?_;clear hs;rintro j v σ hj - hs;rcases BS c.AS hj with⟨s,hsl,hjlt⟩|hje
  ·have hsv0:=Ge hs 0 rfl
   conv=>whnf
   repeat'((first|apply st|(apply sq;intro K U)|(apply si;intro A B Y Z)|(apply Y;clear Z B Y A)|(apply U;clear U K)|refine⟨rfl,?_⟩|refine ld ?_|refine El fun σ hs=>?_|refine aq fun v σ hs hsl=>?_|(refine Cs (fun hc=>?_)<;>(try rw[hc])<;>clear hc)|clear U K)<;>conv=>whnf)
   have hsv:=Ge hs 0 rfl
   conv=>whnf
   refine⟨hjlt,v,rfl,trivial,?_⟩;rw[List.replicate_succ',←TW];rw[hw3]at hs;exact hs
  ·conv=>whnf
   repeat'((first|apply st|(apply sq;intro K U)|(apply si;intro A B Y Z)|(apply Y;clear Z B Y A)|(apply U;clear U K)|refine⟨rfl,?_⟩|(refine EV (fun hc=>?_)<;>(try rw[hc])<;>clear hc)|clear U K)<;>conv=>whnf)
   exact⟨hlt,v,rfl,trivial,by rw[hap,←hje];exact hs⟩
 ·rw[BK hke]at hs
  have hsv:=Ge hs 0 rfl
  conv=>whnf
  repeat'((first|apply st|(apply sq;intro K U)|(apply si;intro A B Y Z)|(apply Y;clear Z B Y A)|(apply U;clear U K)|refine⟨rfl,?_⟩|refine⟨kZ,?_⟩|refine ld ?_|refine DJ fun σ hs=>?_|(refine EV (fun hc=>?_)<;>(try rw[hc])<;>clear hc)|clear U K)<;>conv=>whnf)
  exact Bu (.a (.cons (.refl _) (.cons (hs.RL 0 rfl) .nil)))
end Go.Gl
namespace Go.Proofs
open Go.Shelf
def Tryz.S1:Go.Shelf.Ren:=⟨fun|189=>135|125=>160|257=>159|128=>205|129=>206|294=>196|295=>197|296=>198|297=>199|298=>200|299=>201|216=>202|300=>203|301=>204|328=>243|329=>244|330=>245|331=>246|332=>247|215=>248|343=>268|n=>n,fun|28=>23|3=>3|46=>193|0=>0|51=>240|53=>182|4=>4|183=>233|182=>232|131=>237|5=>5|9=>9|218=>267|222=>215|228=>300|229=>301|n=>n,fun|n=>n⟩
def Tryz.cN:Go.Proofs.Lays.n189 Tryz.prog Tryz.S1:={
 mixed:=by kernel_rfl
 f125:=Tryz.func160.trans (congrArg some (by kernel_rfl))
 f128:=Tryz.func205.trans (congrArg some (by kernel_rfl))
 f129:=Tryz.func206.trans (congrArg some (by kernel_rfl))
 f189:=Tryz.func135.trans (congrArg some (by kernel_rfl))
 f215:=Tryz.func248.trans (congrArg some (by kernel_rfl))
 f216:=Tryz.func202.trans (congrArg some (by kernel_rfl))
 f257:=Tryz.func159.trans (congrArg some (by kernel_rfl))
 f294:=Tryz.func196.trans (congrArg some (by kernel_rfl))
 f295:=Tryz.func197.trans (congrArg some (by kernel_rfl))
 f296:=Tryz.func198.trans (congrArg some (by kernel_rfl))
 f297:=Tryz.func199.trans (congrArg some (by kernel_rfl))
 f298:=Tryz.func200.trans (congrArg some (by kernel_rfl))
 f299:=Tryz.func201.trans (congrArg some (by kernel_rfl))
 f300:=Tryz.func203.trans (congrArg some (by kernel_rfl))
 f301:=Tryz.func204.trans (congrArg some (by kernel_rfl))
 f328:=Tryz.func243.trans (congrArg some (by kernel_rfl))
 f329:=Tryz.func244.trans (congrArg some (by kernel_rfl))
 f330:=Tryz.func245.trans (congrArg some (by kernel_rfl))
 f331:=Tryz.func246.trans (congrArg some (by kernel_rfl))
 f332:=Tryz.func247.trans (congrArg some (by kernel_rfl))
 f343:=Tryz.func268.trans (congrArg some (by kernel_rfl))
 t0:=Tryz.underlying0
 a0:=Tryz.isAgg0
 z0:=Tryz.sizeOf0
 v0:=Tryz.zeroValue0
 t3:=Tryz.underlying3
 a3:=Tryz.isAgg3
 z3:=Tryz.sizeOf3
 v3:=Tryz.zeroValue3
 t4:=Tryz.underlying4
 a4:=Tryz.isAgg4
 z4:=Tryz.sizeOf4
 v4:=Tryz.zeroValue4
 t5:=Tryz.underlying5
 a5:=Tryz.isAgg5
 z5:=Tryz.sizeOf5
 v5:=Tryz.zeroValue5
 t9:=Tryz.underlying9
 a9:=Tryz.isAgg9
 z9:=Tryz.sizeOf9
 v9:=Tryz.zeroValue9
 t28:=Tryz.underlying23
 a28:=Tryz.isAgg23
 z28:=Tryz.sizeOf23
 v28:=Tryz.zeroValue23
 t46:=Tryz.underlying193
 a46:=Tryz.isAgg193
 z46:=Tryz.sizeOf193
 v46:=Tryz.zeroValue193
 t51:=Tryz.underlying240
 a51:=Tryz.isAgg240
 z51:=Tryz.sizeOf240
 v51:=Tryz.zeroValue240
 t53:=Tryz.underlying182
 a53:=Tryz.isAgg182
 z53:=Tryz.sizeOf182
 v53:=Tryz.zeroValue182
 t131:=Tryz.underlying237
 a131:=Tryz.isAgg237
 z131:=Tryz.sizeOf237
 v131:=Tryz.zeroValue237
 t182:=Tryz.underlying232
 a182:=Tryz.isAgg232
 z182:=Tryz.sizeOf232
 v182:=Tryz.zeroValue232
 t183:=Tryz.underlying233
 a183:=Tryz.isAgg233
 z183:=Tryz.sizeOf233
 v183:=Tryz.zeroValue233
 t218:=Tryz.underlying267
 a218:=Tryz.isAgg267
 z218:=Tryz.sizeOf267
 v218:=Tryz.zeroValue267
 t222:=Tryz.underlying215
 a222:=Tryz.isAgg215
 z222:=Tryz.sizeOf215
 v222:=Tryz.zeroValue215
 t228:=Tryz.underlying300
 a228:=Tryz.isAgg300
 z228:=Tryz.sizeOf300
 v228:=Tryz.zeroValue300
 t229:=Tryz.underlying301
 a229:=Tryz.isAgg301
 z229:=Tryz.sizeOf301
 v229:=Tryz.zeroValue301}
end Go.Proofs
namespace Go.Gl
open Go.Proofs Go.Shelf
abbrev Ga (x y:Int):Bool:=decide (x≤y)
def Za {P:Program} {f:FuncId} (hok:okF P f=true)
    (hc: ∀(blk cap:Nat) (zs:List Int) (w:World),Sort.Holds (Value.int .i64) w blk 0 zs.toArray→blk<w.heap.size→zs.length<4611686018427387904→
     Calls P f #[.slice (some ⟨blk,0,none⟩) zs.length cap] w fun e w'=>e= .returned (.tuple #[])∧ ∃n os,w'=Sort.grow (Sort.putRow (Value.int .i64) (Sort.ahead w n) blk 0 (zs.mergeSort fun x y=>decide (x≤y)).toArray) os)
    (xs:List Int) (n len cap:Nat):Bd P f [.sl n len cap] [.own (.sl n len cap) 1 (iL xs)] fun r post=>r= .ret (.t [])∧post= [.own (.sl n len cap) 1 (iL (xs.mergeSort Ga))]:=by
 intro σ hs;refine⟨hok,fun Λ w cs G hv=>?_⟩;rcases hs.get (i:=0) rfl with⟨h,_⟩|⟨n',cap',h,hn⟩
 ·cases h
 cases h;rw[BQ]at hv;obtain⟨c,e,hb,h1,h2,h3,h4⟩:=Ef G hn;rw[BQ]at h2 h3;have hM:Ae=17592186044416:=rfl;rw[BG]at h4
 have hcell: ∀j x,xs[j]? =some x→c[j]? =some (Value.int .i64 x)∧IntKind.i64.min≤x∧x≤IntKind.i64.max:=fun j x hx=>by
  have:=(h4 j [.i .i64 x] (by rw[Pw,hx];rfl)).2;simp only[BZ,Nat.mul_one,Gb]at this;obtain⟨⟨d,hd,hr⟩,_⟩:=this;simp only[Aa]at hr;obtain⟨rfl,hr⟩:=hr;exact⟨hd,hr⟩
 have hcs:cs= #[.slice (some ⟨n,0,none⟩) xs.length cap]:=by
  obtain⟨hsz,hv⟩:=hv;simp only[BZ,Aa]at hv;obtain⟨⟨d,hd,rfl,_⟩,_⟩:=hv;simp at hsz;apply Array.ext_getElem?;intro i;rcases i with _|i
  ·simpa using hd
  ·rw[Array.getElem?_eq_none (by omega),Array.getElem?_eq_none (by simp)]
 subst hcs
 have hH:Sort.Holds (Value.int .i64) w n 0 xs.toArray:=fun j hj=>by
  have hj':j<xs.length:=by simpa using hj
  obtain⟨h5,_⟩:=hcell j xs[j] (Da hj');refine⟨?_,?_⟩
  ·rw[Gb,DN hb,h5]
   simp[getElem!_pos,hj']
  ·rw[Gb];exact N3 hb
 refine(hc n cap xs w hH (G.lt hn) (by omega)).mono fun e' w' ⟨he,k,os,hw⟩=>?_
 subst he;have hlen:(xs.mergeSort Ga).length=xs.length:=List.length_mergeSort _
 have hheap: ∀m,m<w.heap.size→w'.heap[m]? =if m=n then some (.cells (Sort.putCells (Value.int .i64) 0 (xs.mergeSort Ga).toArray c) e (0,0))else w.heap[m]? :=fun m hm=>by
  rw[hw];simp only[Sort.grow,Sort.putRow,Sort.mapBlock,Sort.ahead];rw[Array.getElem?_append_left (by simpa using hm),Array.getElem?_modify];by_cases e1:n=m
  ·subst e1
   rw[if_pos rfl,if_pos rfl,hb];rfl
  ·rw[if_neg e1,if_neg (Ne.symm e1)]
 have hadv:B7 Λ σ w (A8 σ n (.arr 1 (iL (xs.mergeSort Ga)) cap)) w':=by
  refine⟨fun m hm h0=>?_,?_,by rw[hw];rfl,by rw[hw];rfl,by rw[hw];rfl,fun m h0 _=>?_⟩
  ·rw[hheap m hm,if_neg]
   intro e1;subst e1;rw[hn]at h0;cases h0
  ·rw[hw];simp[Sort.grow]
  ·rw[Ct _ _ (fun e1=>by subst e1;rw[hn]at h0;cases h0)];exact h0
 refine⟨.ret (.t []),A8 σ n (.arr 1 (iL (xs.mergeSort Ga)) cap),⟨_,⟨rfl,rfl⟩,?_⟩,?_,?_,hadv⟩
 ·refine⟨fun a ha=>?_,List.pairwise_singleton _ _⟩
  rw[Kj.1 ha];exact .inr ⟨n,cap,by simp[hlen],D7 _ _ _⟩
 ·exact⟨_,rfl,by simp[Aa,BZ]⟩
 ·refine G.step hadv fun m o ho=>?_
  by_cases e1:m=n
  ·subst e1
   rw[D7]at ho;cases ho;refine .inr ⟨(G.own _ _ hn).1,_,(hheap m (G.lt hn)).trans (if_pos rfl),_,_,rfl,by simpa[Sort.putCells]using h1,by simpa[hlen]using h2,by simpa[hlen]using h3,?_⟩;rw[BG];intro i r hi;rw[Pw]at hi;cases hx:(xs.mergeSort Ga)[i]? with
   | none=>rw[hx]at hi;cases hi
   | some x=>
     rw[hx]at hi;cases hi;have hil:i<xs.length:=by have:=(Hr.1 hx).1;omega
     have hxm:x∈xs:=(List.mergeSort_perm xs Ga).mem_iff.1 (Cj hx);obtain⟨j,hj⟩:=List.getElem?_of_mem hxm;have hbd:=(hcell j x hj).2;obtain⟨hci,_⟩:=hcell i xs[i] (Da hil);have hcl:i<c.size:=(eg.1 hci).1;refine⟨rfl,?_⟩;simp only[BZ,Nat.mul_one,Gb,Aa,and_true];refine⟨_,?_,rfl,hbd⟩;simp only[Sort.putCells,Array.getElem?_mapIdx];rw[hci];have hxe:=(Hr.1 hx).2;simp[hlen,hil,getElem!_pos,hxe]
  ·rw[Ct _ _ e1]at ho
   exact .inl ⟨ho,(hheap m (G.lt ho)).trans (if_neg e1)⟩
def bg (xs:List Int) (n len cap:Nat):Bd Tryz.prog 135 [.sl n len cap] [.own (.sl n len cap) 1 (iL xs)] fun r post=>r= .ret (.t [])∧post= [.own (.sl n len cap) 1 (iL (xs.mergeSort Ga))]:=
 Za (by kernel_rfl) (fun blk cap zs w h1 h2 h3=>Any.slices_Sort_int Tryz.cN blk 0 cap zs w h1 h2 h3) xs n len cap
end Go.Gl
namespace Go.Gl
open Go.Proofs
attribute [local irreducible] BC Ax Ai AU AO Ag AV AW AM Af AR AT A0 A9 Sat Ab A6 Ak W
def gh:Pure Tryz.prog 206 [.i .u64 0] (eI 0):=by
 refine jU kZ ?_;have hs:=Sn
 conv=>whnf
 repeat'((first|apply st|(apply sq;intro K U)|(apply si;intro A B Y Z)|(apply Y;clear Z B Y A)|(apply U;clear U K)|refine⟨rfl,?_⟩|(constructor<;>intro hc<;>(try rw[hc])<;>(replace hc:=bp hc)<;>try(exfalso;omega))|fail)<;>conv=>whnf)
 refine⟨by decide,?_⟩
 conv=>whnf
 repeat'((first|apply st|(apply Y;clear Z B Y A)|(apply U;clear U K)|refine⟨rfl,?_⟩|fail)<;>conv=>whnf)
 all_goals exact AI rfl
def gi:Pure Tryz.prog 160 [.i .u64 0] (eI 0):=by
 refine jz kZ ?_;have hs:=Sn
 conv=>whnf
 repeat'((first|apply st|(apply sq;intro K U)|(apply si;intro A B Y Z)|(apply Y;clear Z B Y A)|(apply U;clear U K)|refine gh.use ?_|fail)<;>conv=>whnf)
 all_goals exact AI rfl
def gp:Pure Tryz.prog 196 [.l [] true,eI 0,eI 0] (.t []):=by
 refine jV kZ ?_;have hs:=Sn
 conv=>whnf
 repeat'((first|apply st|(apply sq;intro K U)|(apply si;intro A B Y Z)|(apply Y;clear Z B Y A)|(apply U;clear U K)|refine⟨rfl,?_⟩|fail)<;>conv=>whnf)
 refine GS (fun(_:Unit)=>0) (fun _=>[(6,eI 1)]) (fun _=>[]) (fun _=>True) () rfl trivial hs ?_;clear hs;rintro - σ - hs
 conv=>whnf
 repeat'((first|apply st|(apply sq;intro K U)|(apply si;intro A B Y Z)|(apply Y;clear Z B Y A)|(apply U;clear U K)|refine⟨rfl,?_⟩|(constructor<;>intro hc<;>(try rw[hc])<;>(replace hc:=bp hc)<;>try(exfalso;omega))|clear U K)<;>conv=>whnf)
 all_goals exact AI rfl
def fv:Pure Tryz.prog 159 [.l [] true,eI 0,eI 0,eI 0] (.t []):=by
 refine j0 kZ ?_;have hs:=Sn
 conv=>whnf
 repeat'((first|apply st|(apply sq;intro K U)|(apply si;intro A B Y Z)|(apply Y;clear Z B Y A)|(apply U;clear U K)|fail)<;>conv=>whnf)
 refine GS (fun(_:Unit)=>0) (fun _=>[]) (fun _=>[]) (fun _=>True) () rfl trivial hs ?_;clear hs;rintro - σ - hs
 conv=>whnf
 repeat'((first|apply st|(apply sq;intro K U)|(apply si;intro A B Y Z)|(apply Y;clear Z B Y A)|(apply U;clear U K)|refine⟨rfl,?_⟩|refine gp.use ?_|(constructor<;>intro hc<;>(try rw[hc])<;>(replace hc:=bp hc)<;>(try simp(disch:=omega) only[BQ,wrap64,AL]at hc)<;>try(exfalso;omega))|clear U K)<;>conv=>whnf)
 all_goals exact AI rfl
def Zb:Pure Tryz.prog 135 [.l [] true] (.t []):=by
 refine kO kZ ?_;have hs:=Sn
 conv=>whnf
 repeat'((first|apply st|(apply sq;intro K U)|(apply si;intro A B Y Z)|(apply Y;clear Z B Y A)|(apply U;clear U K)|refine gi.use ?_|refine fv.use ?_|fail)<;>conv=>whnf)
 all_goals exact AI rfl
def YJ {xs:List Int} {v:V} (hv:(Cc v).isSome=true∨(v= .l [] true∧xs= [])):Bd Tryz.prog 135 [v] [.own v 1 (iL xs)] fun r post=>r= .ret (.t [])∧post= [.own v 1 (iL (xs.mergeSort Ga))]:=by
 rcases hv with hv|⟨rfl,rfl⟩
 ·obtain⟨n,l,c,rfl⟩:=mA hv
  exact bg xs n l c
 ·intro σ hs
  have:=Zb.use (σ:=σ) (k:=fun v σ'=>v= .t []∧σ'=σ) (kp:=fun _ _=>False) ⟨rfl,rfl⟩;refine BC.mono this ?_;rintro(u|u) σ' hq
  ·obtain⟨rfl,rfl⟩:=hq
   exact⟨_,⟨rfl,rfl⟩,by simpa using hs⟩
  ·exact hq.elim
def S6 {b:Nat} {σ:AH} {sz:Nat} {v:V} {ys:List (List V)} {f:Bool} {K:V→AH→Prop} (h:AO b σ sz v (.l ys f) fun v' σ'=>((Cc v').isSome=true∨(v'=v∧ys= []))→K v' σ'):AO b σ sz v (.l ys f) K:=by
 unfold AO at *;obtain⟨h1,h2,h3⟩:=h;refine⟨h1,h2,?_⟩;cases v with
 | l es full=>exact⟨h3.1,h3.2.1,fun e=>h3.2.2.1 e (.inr ⟨rfl,e⟩),fun e=>⟨(h3.2.2.2 e).1,fun n cap hn hc=>(h3.2.2.2 e).2 n cap hn hc (.inl rfl)⟩⟩
 | sl n len cap=>
   simp only at h3 ⊢;split at h3
   ·exact⟨h3.1,h3.2.1,h3.2.2.1,h3.2.2.2.1,fun n' cap' hn hc=>h3.2.2.2.2 n' cap' hn hc (.inl rfl)⟩
   ·exact h3.elim
 | _=>exact h3.elim
def Px (M:List Int):List (V×V):=M.map fun k=>(eI k,.b true)
def MX (M:List Int) (k:Int):List Int:=if M.contains k then M else M++[k]
def SF (M:List Int) (k b:Int):(MX M k).contains b=(M.contains b||b==k):=by
 unfold MX;split
 ·rename_i h
  by_cases hb:b=k
  ·subst hb;simpa using h
  ·have:(b==k)=false:=by simpa using hb
   rw[this,Bool.or_false]
 ·simp[List.contains_append]
  rfl
def Vd (M:List Int) (k:Int):D5 (eI k) (.b true) (Px M)=Px (MX M k):=by
 induction M with
 | nil=>rfl
 | cons x r ih=>
   simp only[Px,Et,D5]at *;have he:D6 (eI k) (eI x)=(k==x):=rfl;rw[he];cases hx:k==x
   ·rw[cond_false,ih]
    unfold MX;have:(x::r).contains k=r.contains k:=by rw[List.contains_cons,hx,Bool.false_or]
    rw[this];split<;>simp
   ·rw[cond_true]
    have hk:k=x:=by simpa using hx
    subst hk;unfold MX;simp
def KE (M:List Int) (k:Int):found (.b false) false (C6 (eI k) (Px M))= .b (M.contains k):=by
 induction M with
 | nil=>rfl
 | cons x r ih=>
   simp only[Px,Et,C6]at *;have he:D6 (eI k) (eI x)=(k==x):=rfl;rw[he,List.contains_cons];cases k==x
   ·simpa using ih
   ·rfl
def G0 (M:List Int): ∀kv∈Px M,Bo (.i .i64) kv.1=true:=by
 intro kv h;obtain⟨e,_,rfl⟩:=MT.1 h;rfl
def uC {σ:AH} {l:List At} {i mm:Nat} {M:List Int} {k:Int} {K:V→Prop} (hk:K (.b (M.contains k))) (h:Sat σ l:=by assumption)
    (hi:l[i]? =some (.map mm (Px M)):=by first|exact RK|exact RJ|exact RI|exact RH|exact RG|exact RF):AR σ (.i .i64) (.b false) false (.m mm) (eI k) K:=
 IQ h i hi rfl (G0 M) (by rw[KE];exact hk)
def ry {σ:AH} {l:List At} {i mm:Nat} {M:List Int} {k:Int} {K:AH→Prop} (hk: ∀σ',Sat σ' (l.set i (.map mm (Px (MX M k))))→K σ') (h:Sat σ l:=by assumption)
    (hi:l[i]? =some (.map mm (Px M)):=by first|exact RK|exact RJ|exact RI|exact RH|exact RG|exact RF):AT σ (.i .i64) (.m mm) (eI k) (.b true) K:=
 HL h i hi rfl (G0 M) (fun σ' hs=>hk σ' (by rw[Vd]at hs;exact hs))
def H6 (p:Prog) (c:Nat):ON:=p.AN.getD (c - 3) default
def Dz (p:Prog) (c:Nat):Nat→List Int
 | 0=>[]
 | k+1=>if Ik (Ay p) c (c - k)then Dz p c k++(H6 p (c - k)).AS else Dz p c k
def fw {ps:List (List Int)} (ho:ordered ps) {n c:Nat} (hc:c<n) (k:Nat): ∀p∈par ps (c - k),0≤p∧p.toNat<(Gc ps n c k).length∧p.toNat<c - k:=fun p hp=>by
 have:=ho _ _ hp;rw[Jv];omega
def Rz {ps:List (List Int)} (ho:ordered ps) {n c:Nat} (hc:c<n) (k b:Nat):(Gc ps n c (k+1)).getD b false=((Gc ps n c k).getD b false||((Gc ps n c k).getD (c - k) false&&(par ps (c - k)).contains (b:Int))):=by
 rw[Gc,LJ _ _ (fw ho hc k)]
def R0 {ps:List (List Int)} (ho:ordered ps) {n c:Nat} (hc:c<n) (k:Nat): ∀(m:Nat) (b:Nat),c - k≤b→(Gc ps n c (k+m)).getD b false=(Gc ps n c k).getD b false
 | 0,_,_=>rfl
 | m + 1,b,h=>by
   rw[←Nat.add_assoc,Rz ho hc,R0 ho hc k m b h]
   have:(par ps (c - (k+m))).contains (b:Int)=false:=by
    cases hb:(par ps (c - (k+m))).contains (b:Int)
    ·rfl
    ·have:=ho _ _ (List.contains_iff_mem.1 hb)
     omega
   rw[this,Bool.and_false,Bool.or_false]
def YZ {ps:List (List Int)} (ho:ordered ps) {n c:Nat} (hc:c<n) {k:Nat} (hk:k≤c - 2):(Gc ps n c k).getD (c - k) false=Ik ps c (c - k):=by
 rw[←VF ho hc (c - k),←R0 ho hc k (c - 2 - k) (c - k) (Ja _)];congr 2;omega
def N4 (b:Int): ∀(l M:List Int),(l.foldl MX M).contains b=(M.contains b||l.contains b)
 | [],M=>by simp
 | x::r,M=>by
   rw[List.foldl_cons,N4 b r,SF,List.contains_cons,Bool.or_assoc]
def fL {σ:AH} {l:List At} {i mm:Nat} {M:List Int} {k:Int} {b:Bool} {K:V→Prop} (e:M.contains k=b) (hk:K (.b b)) (h:Sat σ l:=by assumption)
    (hi:l[i]? =some (.map mm (Px M)):=by first|exact RK|exact RJ|exact RI|exact RH|exact RG|exact RF):AR σ (.i .i64) (.b false) false (.m mm) (eI k) K:=uC (e ▸ hk) h hi
def gr (p : Prog) (c:Nat) (h10:p.AN.length≤10) (hsl:Cb 0 p.AN=true) (hg:Df (Ay p)=true) (hc3:3≤c) (hc:c<3+p.AN.length) :
    Pure Tryz.prog 210 [.a (BU p),eI c] (.l (iL ((Dz p c (c - 2)).mergeSort Ga)) false):=by
 refine Pure.fit (by kernel_rfl) fun hf=>?_
 have F:=Jn hf.1;have hM:=Mx;have hG:=Dk hg;have ho:=Ib hG;have hgl:(Ay p).length=p.AN.length:=by simp[Ay]
 refine jR kZ ?_;have hs:=Sn
 conv=>whnf
 repeat'((first|(apply sq;intro K U)|(apply si;intro A B Y Z)|(apply Y;clear Z B Y A)|(apply U;clear U K)|(intro nn hnn;generalize hg:A8 _ nn _=σ;refine CW hg fun hs=>?_;clear hg)|fail)<;>conv=>whnf)
 replace hs:Sat σ [.map nn (Px [])]:=hs
 conv=>whnf
 repeat'((first|apply st|(apply sq;intro K U)|(apply si;intro A B Y Z)|(apply Y;clear Z B Y A)|(apply U;clear U K)|refine ry (fun σ hs=>?_)|fail)<;>conv=>whnf)
 generalize nn=mm at *;replace hs:Sat σ [.map mm (Px [(c:Int)])]:=hs
 refine CZ (c - 2) (fun k (x:List Int×V)=>[(6,x.2),(7,eI ((c:Int) - k))]) (fun k x=>[.own x.2 1 (iL (Dz p c k)),.map mm (Px x.1)])
  (fun k x=>(∀b:Nat,b<3+(Ay p).length→x.1.contains (b:Int)=(Gc (Ay p) (3+(Ay p).length) c k).getD b false)∧((Cc x.2).isSome=true∨(x.2= .l [] true∧Dz p c k= []))∧(Dz p c k).length≤4*k) ([(c:Int)],.l [] true) ?_ ⟨?_,.inr ⟨rfl,rfl⟩,by simp[Dz]⟩ (DK hs 1) ?_
 ·simp[MW,get]
  exact⟨rfl,rfl,rfl⟩
 ·intro b hb
  simp only[Gc];rw[Eg (by simp;omega)];by_cases hbc:b=c
  ·subst hbc;simp
  ·rw[if_neg hbc]
   have:((c:Int)==(b:Int))=false:=by simp;omega
   simp[Dc,List.getElem?_replicate];split<;>simp<;>omega
 clear hs;rintro k ⟨M,v⟩ σ hk ⟨hMb,hv,hml⟩ hs;dsimp only at hMb hv hs;rcases Nat.lt_or_ge k (c - 2)with hlt|hge
 ·have hkc:M.contains ((c:Int) - k)=Ik (Ay p) c (c - k):=by
   have:=hMb (c - k) (by omega);rw[YZ ho (by omega) (by omega)]at this;rw[←this];congr 1;omega
  have hcl:p.AN[(IntKind.i64.wrap ((c:Int) - k - 3)).toNat]? =some (H6 p (c - k)):=by
   rw[wrap64 (by omega) (by omega),show((c:Int) - k - 3).toNat=c - k - 3 by omega,H6,Dc,Da (by omega)];rfl
  have hwi:0≤IntKind.i64.wrap ((c:Int) - k - 3):=by rw[wrap64 (by omega) (by omega)];omega
  have hw1:IntKind.i64.wrap ((c:Int) - k - 1)=(c:Int) - (k+1:Nat):=by rw[wrap64 (by omega) (by omega)];omega
  have hmt:Dz p c (k+1)=if Ik (Ay p) c (c - k)then Dz p c k++(H6 p (c - k)).AS else Dz p c k:=rfl
  have hpar:(H6 p (c - k)).parents=par (Ay p) (c - k):=by
   unfold par H6 Ay;rw[if_neg (by omega),Dc,Dc,Pw,Da (by omega)];rfl
  have hcm:=F.2 _ (Cj hcl);have hs4:=((Ey _ _ hsl).2 _ (Cj hcl)).2;have hst:=fun b=>Rz ho (show c<3+(Ay p).length by omega) k b
  rw[YZ ho (by omega) (by omega),←hpar]at hst;generalize H6 p (c - k)=cl at *;cases hb:Ik (Ay p) c (c - k)
  ·rw[hb]at hkc hmt hst
   rw[if_neg (by decide)]at hmt
   conv=>whnf
   repeat'((first|apply st|(apply sq;intro K U)|(apply si;intro A B Y Z)|(apply Y;clear Z B Y A)|(apply U;clear U K)|refine⟨rfl,?_⟩|refine fL hkc ?_|(constructor<;>intro hc<;>(try rw[hc])<;>(replace hc:=bp hc)<;>try(exfalso;omega))|clear U K)<;>conv=>whnf)
   all_goals try(exfalso;omega)
   rw[hw1];exact⟨hlt,(M,v),rfl,⟨fun b hb=>by rw[hMb b hb,hst b];simp,by rw[hmt];exact hv,by rw[hmt];omega⟩,by rw[hmt];exact hs⟩
  ·rw [hb] at hkc hmt hst
   rw[if_pos rfl]at hmt
   conv=>whnf
   repeat'((first|apply st|(apply sq;intro K U)|(apply si;intro A B Y Z)|(apply Y;clear Z B Y A)|(apply U;clear U K)|refine⟨rfl,?_⟩|refine F8 ?_|refine fL hkc ?_|(constructor<;>intro hc<;>(try rw[hc])<;>(replace hc:=bp hc)<;>try(exfalso;omega))|fail)<;>conv=>whnf)
   all_goals try(exfalso;omega)
   refine S6 (Mj hs 0 rfl (by omega) Co fun v' σ hs hv'=>?_);rw[←hmt]at hs
   conv=>whnf
   repeat'((first|apply st|(apply sq;intro K U)|(apply si;intro A B Y Z)|(apply Y;clear Z B Y A)|(apply U;clear U K)|refine⟨rfl,?_⟩|refine F8 ?_|fail)<;>conv=>whnf)
   refine CZ cl.parents.length (fun j (_:List Int)=>[(38,eI (BL j))]) (fun _ M=>[.own v' 1 (iL (Dz p c (k+1))),.map mm (Px M)]) (fun j M'=>M'=(cl.parents.take j).foldl MX M) M rfl rfl hs ?_;clear hs;rintro j M' σ hj hM' hs;rcases BS cl.parents hj with⟨q,hq,hjlt⟩|hje
   ·conv=>whnf
    repeat'((first|apply st|(apply sq;intro K U)|(apply si;intro A B Y Z)|(apply Y;clear Z B Y A)|(apply U;clear U K)|refine⟨rfl,?_⟩|refine ix ?_|(refine Cs (fun hc=>?_)<;>(try rw[hc])<;>clear hc)|refine ry (fun σ hs=>?_)|clear U K)<;>conv=>whnf)
    exact⟨hjlt,_,rfl,by rw[AX hq,List.foldl_append,←hM'];rfl,hs⟩
   ·rw [BK hje]at hM'
    conv=>whnf
    repeat'((first|apply st|(apply sq;intro K U)|(apply si;intro A B Y Z)|(apply Y;clear Z B Y A)|(apply U;clear U K)|refine⟨rfl,?_⟩|(refine EV (fun hc=>?_)<;>(try rw[hc])<;>clear hc)|clear U K)<;>conv=>whnf)
    rw[hw1];refine⟨hlt,(M',v'),rfl,⟨fun b hb=>?_,?_,?_⟩,hs⟩
    ·rw[hM',N4,hMb b hb,hst b,EW]
    ·rcases hv' with hv'|⟨rfl,he⟩
     ·exact .inl hv'
     ·rcases hv with hv|⟨hv,hm0⟩
      ·exact .inl hv
      ·refine .inr ⟨hv,?_⟩
       rw[hmt,hm0,List.map_eq_nil_iff.1 he];rfl
    ·rw[hmt,RA];omega
 ·have hkk:k=c - 2:=by omega
  rw[hkk]at hs hv hml;clear hMb
  conv=>whnf
  repeat'((first|apply st|(apply sq;intro K U)|(apply si;intro A B Y Z)|(apply Y;clear Z B Y A)|(apply U;clear U K)|refine⟨rfl,?_⟩|(constructor<;>intro hc<;>(try rw[hc])<;>(replace hc:=bp hc)<;>try(exfalso;omega))|clear U K)<;>conv=>whnf)
  all_goals try(exfalso;omega)
  refine(YJ hv).use (rest:=[_]) hs ?_;clear hs;rintro r post σ ⟨rfl,rfl⟩ hs
  conv=>whnf
  repeat'((first|(apply sq;intro K U)|(apply si;intro A B Y Z)|(apply Y;clear Z B Y A)|(apply U;clear U K)|fail)<;>conv=>whnf)
  refine(M3 _ v (by rw[List.length_mergeSort];omega)).use (rest:=[_]) hs ?_;clear hs;rintro r post σ ⟨rfl,rfl⟩ hs
  conv=>whnf
  repeat'((first|apply st|(apply Y;clear Z B Y A)|(apply U;clear U K)|fail)<;>conv=>whnf)
  exact Bu Ml
def Nu {p : Prog} {c:Nat} (s:Int): ∀k,s∈Dz p c k↔ ∃j,j<k∧Ik (Ay p) c (c - j)=true∧s∈(H6 p (c - j)).AS
 | 0=>by simp[Dz]
 | k + 1 =>by
   rw[Dz];have ih:=Nu (p:=p) (c:=c) s k;constructor
   ·intro h
    split at h
    ·rename_i hu
     rcases FQ.1 h with h|h
     ·obtain⟨j,h1,h2⟩:=ih.1 h
      exact⟨j,by omega,h2⟩
     ·exact⟨k,by omega,hu,h⟩
    ·obtain⟨j,h1,h2⟩:=ih.1 h
     exact⟨j,by omega,h2⟩
   ·rintro⟨j,h1,h2,h3⟩
    by_cases hj:j=k
    ·subst hj
     rw[if_pos h2];exact FQ.2 (.inr h3)
    ·have:=ih.2 ⟨j,by omega,h2,h3⟩
     split
     ·exact FQ.2 (.inl this)
     ·exact this
def R9: ∀(l:List Int) (n s:Int),Je n l=true→(s∈l↔n≤s∧s<n+l.length)
 | [],n,s,_=>by simp<;>omega
 | x::r,n,s,h=>by
   simp only[Je,BY,Dn]at h;obtain⟨rfl,h⟩:=h;have:=R9 r (x+1) s h;rw[Fh,this,MC];omega
def PF: ∀(cs:List ON) (i:Nat) (n s:Int),Cb n cs=true→0≤n→ ∀(j:Nat) (c:ON),cs[j]? =some c→(s∈c.AS↔n≤s∧s<n+(Bp cs:Int)∧(BT i cs).getD (s - n).toNat 0=((i+j:Nat):Int)+3)
 | [],_,_,_,_,_,_,_,h=>by cases h
 | d ::r,i,n,s,h,h0,j,c,hj=>by
   simp only[Cb,BY,CY]at h;obtain⟨-,-,hq,hr⟩:=h;have hm:=R9 d.AS n s hq;have hml:(Bp (d::r):Int)=d.AS.length+Bp r:=by simp[Bp]
   have hgd:n≤s→(BT i (d::r)).getD (s - n).toNat 0=if s<n+d.AS.length then(i:Int)+3 else(BT (i+1) r).getD (s - (n+d.AS.length)).toNat 0:=fun hns=>by
    simp only[BT,Dc];split
    ·rw[ei (by simp;omega),List.getElem?_replicate,if_pos (by omega)]
     rfl
    ·rw[List.getElem?_append_right (by simp;omega)]
     congr 2;simp;omega
   have hout: ∀q,q∈BT (i+1) r→(3:Int)+((i+1:Nat):Int)≤q:=fun q hq=>(Fa hq).1
   cases j with
   | zero=>
     simp at hj;subst hj;rw[hm,hml];constructor
     ·rintro⟨h1,h2⟩
      refine⟨h1,by omega,?_⟩;rw[hgd h1,if_pos h2];simp
     ·rintro⟨h1,h2,h3⟩
      refine⟨h1,?_⟩;rw[hgd h1]at h3;by_cases hlt:s<n+d.AS.length
      ·exact hlt
      ·rw[if_neg hlt,Dc]at h3
       have hlen:(s - (n+d.AS.length)).toNat<(BT (i+1) r).length:=by rw[CL];omega
       rw[Da hlen]at h3;have:=hout _ (List.getElem_mem hlen);simp at h3;omega
   | succ j=>
     simp at hj;have ih:=PF r (i+1) (n+d.AS.length) s hr (by omega) j c hj;rw[ih,hml];constructor
     ·rintro⟨h1,h2,h3⟩
      refine⟨by omega,by omega,?_⟩;rw[hgd (by omega),if_neg (by omega),h3];omega
     ·rintro⟨h1,h2,h3⟩
      rw[hgd h1]at h3;by_cases hlt:s<n+d.AS.length
      ·rw[if_pos hlt]at h3;omega
      ·rw[if_neg hlt]at h3
       exact⟨by omega,by omega,by rw[h3];omega⟩
def Zs {p:Prog} {c:Nat} (hsl:Cb 0 p.AN=true) (ho:ordered (Ay p)) (hc3:3≤c) (hc:c<3+p.AN.length) (s:Int) :
    ((Dz p c (c - 2)).mergeSort Ga).contains s=(decide (0≤s)&&(decide (s<(Bp p.AN:Int))&&hasB (AQ p) (c:Int) s)):=by
 rw[Kk,List.contains_iff_mem,(List.mergeSort_perm _ Ga).mem_iff,Nu];simp only[BY,CY,hasB]
 have hown: ∀j,j<c - 2→(s∈(H6 p (c - j)).AS↔0≤s∧s<(Bp p.AN:Int)∧CX (AQ p) s=((c - j:Nat):Int)):=fun j hj=>by
  have hcl:p.AN[c - j - 3]? =some (H6 p (c - j)):=by
   rw[H6,Dc,Da (by omega)];rfl
  have:=PF p.AN 0 0 s hsl (by omega) (c - j - 3) _ hcl;rw[this];simp only[Int.sub_zero,Int.zero_add,CX,AQ];constructor
  ·rintro⟨h1,h2,h3⟩;exact⟨h1,h2,by rw[h3];omega⟩
  ·rintro⟨h1,h2,h3⟩;exact⟨h1,h2,by rw[h3];omega⟩
 constructor
 ·rintro⟨j,h1,h2,h3⟩
  obtain⟨h4,h5,h6⟩:=(hown j h1).1 h3;refine⟨h4,h5,by omega,?_⟩;rw[h6];simp only[L5,FU,BY,CY];exact .inr (.inr ⟨by omega,by simpa[AQ]using h2⟩)
 ·rintro⟨h1,h2,h3,h4⟩
  have hmem:CX (AQ p) s∈BT 0 p.AN:=by
   have hlen:s.toNat<(BT 0 p.AN).length:=by rw[CL];omega
   have:CX (AQ p) s=(BT 0 p.AN)[s.toNat]:=by
    simp only[CX,AQ,Dc,Da hlen];rfl
   rw[this];exact List.getElem_mem hlen
  have hb:=Fa hmem
  have hup:Ik (Ay p) c (CX (AQ p) s).toNat=true:=by
   simp only[L5,FU,BY,CY,Dn]at h4;rcases h4 with h4|h4|⟨_,h4⟩
   ·rw[←h4,Jb];exact FI ho c
   ·omega
   ·simpa[AQ]using h4
  have hle:=Ya ho _ _ hup;refine⟨c - (CX (AQ p) s).toNat,by omega,?_,?_⟩
  ·rw[show c - (c - (CX (AQ p) s).toNat)=(CX (AQ p) s).toNat by omega]
   exact hup
  ·refine(hown _ (by omega)).2 ⟨h1,h2,by omega⟩
def Zr {σ:AH}:BC Tryz.prog 164 [.b false] σ fun r σ'=>r= .Cy Di∧σ'=σ:=by
 refine Y0 kZ ?_
 conv=>whnf
 repeat'((first|apply st|(apply sq;intro K U)|(apply si;intro A B Y Z)|(apply Y;clear Z B Y A)|(refine Z _ _ _ ?_;clear Z B Y A)|(apply U;clear U K)|refine E7 ?_|fail)<;>conv=>whnf)
 exact DG ⟨rfl,rfl⟩
def Cf {x:Bool} {σ:AH} {k kp:V→AH→Prop} (h1:x=true→k (.t []) σ) (h2:x=false→kp Di σ):BC Tryz.prog 164 [.b x] σ (qk k kp):=by
 cases x
 ·refine BC.mono Zr ?_
  rintro r σ' ⟨rfl,rfl⟩;exact h2 rfl
 ·exact Zq.use (h1 rfl)
def FP:Int→List ON→Bool
 | _,[]=>true
 | n,c::r=>decide (c.AS.length≤4)&&(Je n c.AS&&FP (n+c.AS.length) r)
def NA: ∀(cs:List ON) (n:Int),Cb n cs=(FP n cs&&cs.all fun c=>decide (c.parents.length≤3))
 | [],_=>rfl
 | c::r,n=>by
   simp only[Cb,FP,TV];rw[NA r];cases decide (c.AS.length≤4)<;>cases decide (c.parents.length≤3)<;>cases Je n c.AS<;>simp
def O7: ∀(cs:List ON) (n:Int),FP n cs=true→Bp cs≤4*cs.length
 | [],_,_=>Ja _
 | c::r,n,h=>by
   simp only[FP,BY,CY]at h;have:=O7 r _ h.2.2;simp only[Bp,Et,List.sum_cons,MC]at *;omega
def SV {p:Prog} (h:Df (Ay p)=true):(p.AN.all fun c=>decide (c.parents.length≤3))=true:=by
 rw[EY];intro c hc;obtain⟨i,hi⟩:=List.getElem?_of_mem hc;have:=(Dk h).2 i c.parents (by rw[Ay,Pw,hi];rfl);exact decide_eq_true this.1
def OD (p:Prog):A7 p=(decide (p.AN.length≤10)&&(FP 0 p.AN&&((Bp p.AN:Int)==p.AS&&(Df (Ay p)&&Fp (AQ p) (Bp p.AN) 0 p.AN)))):=by
 rw[A7,NA];cases hg:Df (Ay p)
 ·simp
 ·rw[SV hg,Bool.and_true]
abbrev ly (p:Prog):R→AH→Prop:=fun r σ'=> ∃post:List At,(r=(if A7 p then R.ret (.t [])else R.Cy Di)∧post= [])∧Sat σ' post
def Tf {p:Prog} {σ:AH} (h:A7 p=false):Ai σ Di (ly p):=DG ⟨_,⟨by rw[h];rfl,rfl⟩,Sat.nil⟩
def sP {p:Prog} {σ:AH} {l:List At} (hs:Sat σ l) (h:A7 p=true):Ax σ (.t []) (ly p):=Ar hs (Lx _) (.refl _) fun σ' hs'=>⟨_,⟨by rw[h];rfl,rfl⟩,hs'⟩
set_option maxHeartbeats 4000000 in
def Ur (p : Prog):Bd Tryz.prog 163 [.a (BU p)] [] fun r post=>r=(if A7 p then R.ret (.t [])else R.Cy Di)∧post= []:=by
 intro σ hs;refine BC.fit (by kernel_rfl) fun hf=>?_
 have F:=Jn hf.1;have hcl:=F.1;have hM:=Mx;refine jw kZ ?_;have hcb:=OD p;by_cases h10:p.AN.length≤10
 rotate_left
 ·conv=>whnf
  repeat'((first|apply st|(apply sq;intro K U)|(apply si;intro A B Y Z)|(apply Y;clear Z B Y A)|(refine Z _ _ _ ?_;clear Z B Y A)|(apply U;clear U K)|refine⟨rfl,?_⟩|(refine Cf (fun hc=>?_) (fun hc=>?_)<;>(replace hc:=bp hc)<;>(try simp(disch:=omega) only[BQ,wrap64,AL]at hc)<;>(try(exfalso;omega)))|clear U K)<;>conv=>whnf)
  all_goals try(exfalso;omega)
  exact Tf (by rw[hcb];simp[h10])
 rw[decide_eq_true h10,EW]at hcb
 conv=>whnf
 repeat'((first|apply st|(apply sq;intro K U)|(apply si;intro A B Y Z)|(apply Y;clear Z B Y A)|(apply U;clear U K)|refine⟨rfl,?_⟩|(refine Cf (fun hc=>?_) (fun hc=>?_)<;>(replace hc:=bp hc)<;>(try simp(disch:=omega) only[BQ,wrap64,AL]at hc)<;>(try(exfalso;omega)))|fail)<;>conv=>whnf)
 all_goals try(exfalso;omega)
 refine CZ p.AN.length (fun k (n:Int)=>[(2,eI n),(24,eI (BL k))]) (fun _ _=>[]) (fun k n=>FP 0 p.AN=FP n (p.AN.drop k)∧0≤n∧n+Bp (p.AN.drop k)=Bp p.AN∧n≤4*k) 0 rfl (by simp) hs ?_;clear hs;rintro k n σ hk ⟨hn,hn0,hn1,hn2⟩ hs;rcases BS p.AN hk with⟨c,hc,hlt⟩|hke
 ·have hcm:=(F.2 c (Cj hc)).2.1
  have hms:n+(c.AS.length:Int)+Bp (p.AN.drop (k+1))=Bp p.AN:=by
   rw[drop_cons hc]at hn1;simp only[Bp,Et,List.sum_cons]at hn1 ⊢;omega
  rw[drop_cons hc,FP]at hn;by_cases h4:c.AS.length≤4
  ·rw [decide_eq_true h4,EW]at hn
   conv=>whnf
   repeat'((first|apply st|(apply sq;intro K U)|(apply si;intro A B Y Z)|(apply Y;clear Z B Y A)|(apply U;clear U K)|refine⟨rfl,?_⟩|refine⟨kZ,?_⟩|refine ix ?_|refine ld ?_|refine DJ fun σ hs=>?_|(refine Cs (fun hc=>?_)<;>(try rw[hc])<;>clear hc)|(refine Cf (fun hc=>?_) (fun hc=>?_)<;>(replace hc:=bp hc)<;>(try simp(disch:=omega) only[BQ,wrap64,AL]at hc)<;>(try(exfalso;omega)))|(intro nn hnn;generalize hg:A8 _ nn _=σ;refine CW hg fun hs=>?_;clear hg)|fail)<;>conv=>whnf)
   all_goals try(exfalso;omega)
   refine CZ c.AS.length (fun j (m:Int)=>[(2,eI m),(36,eI (BL j))]) (fun _ _=>[]) (fun j m=>FP 0 p.AN=(Je m (c.AS.drop j)&&FP (n+c.AS.length) (p.AN.drop (k+1)))∧m=n+j) n rfl ⟨hn,by simp⟩ (hs.take 0) ?_;clear hs hn;rintro j m σ hj ⟨hm,he⟩ hs;rcases BS c.AS hj with⟨x,hx,hjlt⟩|hje
   ·rw[drop_cons hx,Je]at hm
    conv=>whnf
    repeat'((first|apply st|(apply sq;intro K U)|(apply si;intro A B Y Z)|(apply Y;clear Z B Y A)|(refine Z _ _ _ ?_;clear Z B Y A)|(apply U;clear U K)|refine⟨rfl,?_⟩|refine ix ?_|(refine Cs (fun hc=>?_)<;>(try rw[hc])<;>clear hc)|(refine Cf (fun hc=>?_) (fun hc=>?_)<;>(replace hc:=bp hc))|clear U K)<;>conv=>whnf)
    ·rw[wrap64 (by omega) (by omega)]
     rw[hc,beq_self_eq_true,EW]at hm;exact⟨hjlt,_,rfl,⟨by rw[←hc];rw[←hc]at hm;exact hm,by omega⟩,hs⟩
    ·exact Tf (by rw[hcb,hm];simp[hc])
   ·rw[An hje,Je,EW]at hm
    conv=>whnf
    repeat'((first|apply st|(apply sq;intro K U)|(apply si;intro A B Y Z)|(apply Y;clear Z B Y A)|(apply U;clear U K)|refine⟨rfl,?_⟩|(refine EV (fun hc=>?_)<;>(try rw[hc])<;>clear hc)|clear U K)<;>conv=>whnf)
    exact⟨hlt,m,rfl,⟨by rw[hm];congr 1;omega,by omega,by omega,by omega⟩,hs⟩
  ·conv=>whnf
   repeat'((first|apply st|(apply sq;intro K U)|(apply si;intro A B Y Z)|(apply Y;clear Z B Y A)|(refine Z _ _ _ ?_;clear Z B Y A)|(apply U;clear U K)|refine⟨rfl,?_⟩|refine⟨kZ,?_⟩|refine ix ?_|refine ld ?_|refine DJ fun σ hs=>?_|(refine Cs (fun hc=>?_)<;>(try rw[hc])<;>clear hc)|(refine Cf (fun hc=>?_) (fun hc=>?_)<;>(replace hc:=bp hc)<;>(try simp(disch:=omega) only[BQ,wrap64,AL]at hc)<;>(try(exfalso;omega)))|(intro nn hnn;generalize hg:A8 _ nn _=σ;refine CW hg fun hs=>?_;clear hg)|clear U K)<;>conv=>whnf)
   all_goals try(exfalso;omega)
   exact Tf (by rw[hcb,hn];simp[h4])
 ·have hne:n=Bp p.AN:=by rw[An hke]at hn1;simpa[Bp]using hn1
  rw[An hke]at hn;have hsp:FP 0 p.AN=true:=hn;have hml:=O7 _ _ hsp;rw[hsp,EW,←hne]at hcb;cases hgd:Df (Ay p)
  ·rw[hgd]at hcb
   have hck:=Sd (Ay p) false;rw[hgd,if_neg (by decide)]at hck;have hcF:A7 p=false:=by rw[hcb];simp
   conv=>whnf
   repeat'((first|apply st|(apply sq;intro K U)|(apply si;intro A B Y Z)|(apply Y;clear Z B Y A)|(refine Z _ _ _ ?_;clear Z B Y A)|(apply U;clear U K)|refine⟨rfl,?_⟩|refine⟨kZ,?_⟩|(refine EV (fun hc=>?_)<;>(try rw[hc])<;>clear hc)|(refine Cf (fun hc=>?_) (fun hc=>?_)<;>(replace hc:=bp hc)<;>(try simp(disch:=omega) only[BQ,wrap64,AL]at hc)<;>(try(exfalso;omega))<;>(try(cases hc;done)))|refine Pure.use (KH _ (by omega)) ?_|(constructor<;>intro hc<;>(try rw[hc])<;>(replace hc:=bp hc))|refine Pure.use (by assumption) ?_|clear U K)<;>conv=>whnf)
   all_goals exact Tf hcF
  ·have hck:=Sd (Ay p) false
   rw[hgd,if_pos rfl]at hck;rw[hgd,EW]at hcb;by_cases hps:n=p.AS
   ·rw [hps,beq_self_eq_true,EW,←hps]at hcb
    have hslB:Cb 0 p.AN=true:=by rw[NA,hsp,SV hgd];rfl
    have hG:=Dk hgd;have ho:=Ib hG;have hgl:(Ay p).length=p.AN.length:=by simp[Ay]
    conv=>whnf
    repeat'((first|apply st|(apply sq;intro K U)|(apply si;intro A B Y Z)|(apply Y;clear Z B Y A)|(apply U;clear U K)|refine⟨rfl,?_⟩|refine⟨kZ,?_⟩|(refine EV (fun hc=>?_)<;>(try rw[hc])<;>clear hc)|(refine Cf (fun hc=>?_) (fun hc=>?_)<;>(replace hc:=bp hc)<;>(try simp(disch:=omega) only[BQ,wrap64,AL]at hc)<;>(try(exfalso;omega)))|refine Pure.use (KH _ (by omega)) ?_|(constructor<;>intro hc<;>(try rw[hc])<;>(replace hc:=bp hc)<;>try(exfalso;omega))|refine Pure.use (by assumption) ?_|clear U K)<;>conv=>whnf)
    refine CZ p.AN.length (fun k (_:Unit)=>[(63,eI (BL k))]) (fun _ _=>[]) (fun k _=>A7 p=Fp (AQ p) n k (p.AN.drop k)) () rfl hcb hs ?_;clear hs;rintro i - σ hi hn' hs;rcases BS p.AN hi with⟨c,hc,hilt⟩|hie
    ·rw [drop_cons hc,Fp]at hn'
     have hci:BL i=i:=AL (by omega);have hw3:IntKind.i64.wrap (BL i+3)=(i:Int)+3:=by rw[hci,wrap64 (by omega) (by omega)]
     have hlin:=gb (Ay p) false ((i:Int)+3) hgd (by omega) (by omega);have hinl:=(F.2 c (Cj hc)).2.2;have hlb:bO (AQ p).parents ((i:Int)+3)= !((Bx (Ay p)).getD ((i:Int)+3).toNat []).isEmpty:=rfl;cases hem:((Bx (Ay p)).getD ((i:Int)+3).toNat []).isEmpty
     ·rw [hem]at hlb
      rw[hlb,Bool.not_false,EW]at hn';rw[hem,if_neg (by decide),←hw3]at hlin;have hhas:=gr p (i+3) h10 hslB hgd (by omega) (by omega);have hmh:=Zs hslB ho (show 3≤i+3 by omega) (show i+3<3+p.AN.length by omega);have ei3:((i+3:Nat):Int)=(i:Int)+3:=by omega
      rw[ei3,←hw3]at hhas;rw[ei3]at hmh;generalize (Dz p (i+3) (i+3 - 2)).mergeSort Ga=mine at *
      conv=>whnf
      repeat'((first|apply st|(apply sq;intro K U)|(apply si;intro A B Y Z)|(apply Y;clear Z B Y A)|(apply U;clear U K)|refine⟨rfl,?_⟩|refine⟨kZ,?_⟩|refine ix ?_|refine ld ?_|refine DJ fun σ hs=>?_|(refine Cs (fun hc=>?_)<;>(try rw[hc])<;>clear hc)|(refine Cf (fun hc=>?_) (fun hc=>?_)<;>(replace hc:=bp hc)<;>(try simp(disch:=omega) only[BQ,wrap64,AL]at hc)<;>(try(exfalso;omega)))|(intro nn hnn;generalize hg:A8 _ nn _=σ;refine CW hg fun hs=>?_;clear hg)|refine Pure.use (by assumption) ?_|fail)<;>conv=>whnf)
      generalize nn=mm at *;replace hs:Sat σ [.map mm (Px [])]:=hs.take 1;refine CZ c.inits.length (fun j (_:List Int)=>[(86,eI (BL j))]) (fun _ M=>[.map mm (Px M)]) (fun j M=>A7 p=(D1 (AQ p) ((i:Int)+3) n (c.inits.take j) (c.inits.drop j)&&Fp (AQ p) n (i+1) (p.AN.drop (i+1)))∧ ∀s,M.contains s=(c.inits.take j).any fun y=>y.1==s) [] rfl ⟨hn',fun s=>rfl⟩ hs ?_;clear hs;rintro j M σ hj ⟨hm,hMs⟩ hs;rcases BS c.inits hj with⟨x,hx,hjlt⟩|hje
      ·have hpa:((c.inits.take j).all fun y=>y.1 != x.1)= !M.contains x.1:=by
        rw[hMs,List.all_eq_not_any_not];congr 2;funext y;simp[bne]
       have hst:A7 p=((mine.contains x.1&&(!M.contains x.1&&P6 x.2))&&(D1 (AQ p) ((i:Int)+3) n (c.inits.take (j+1)) (c.inits.drop (j+1))&&Fp (AQ p) n (i+1) (p.AN.drop (i+1)))):=by
        rw[hm,drop_cons hx,D1,hpa,hmh,←hne,AX hx];cases decide (0≤x.1)<;>cases decide (x.1<n)<;>cases hasB (AQ p) ((i:Int)+3) x.1<;>cases P6 x.2<;>cases M.contains x.1<;>simp
       have hMs': ∀s,(MX M x.1).contains s=(c.inits.take (j+1)).any fun y=>y.1==s:=fun s=>by
        rw[SF,hMs,AX hx,List.any_append];simp only[Q7,List.any_nil,Bool.or_false];congr 1;rw[Kk];simp;exact eq_comm
       have hct:=Dl mine false x.1;have hbt:=OE x.2;clear hmh hpa hMs hm;cases eA:mine.contains x.1<;>cases eB:M.contains x.1<;>cases eD:P6 x.2<;>rw[eA]at hct<;>rw[eD]at hbt<;>rw[eA,eB,eD]at hst
       all_goals
        conv=>whnf
        repeat'((first|apply st|(apply sq;intro K U)|(apply si;intro A B Y Z)|(apply Y;clear Z B Y A)|(refine Z _ _ _ ?_;clear Z B Y A)|(apply U;clear U K)|refine⟨rfl,?_⟩|refine⟨kZ,?_⟩|refine ix ?_|refine ld ?_|refine DJ fun σ hs=>?_|refine E7 ?_|refine EA ?_|(refine Cs (fun hc=>?_)<;>(try rw[hc])<;>clear hc)|(refine Cf (fun hc=>?_) (fun hc=>?_)<;>(replace hc:=bp hc)<;>(try simp(disch:=omega) only[BQ,wrap64,AL]at hc)<;>(try(cases hc;done)))|refine fL eB ?_|refine ry (fun σ hs=>?_)|(intro nn hnn;generalize hg:A8 _ nn _=σ;refine CW hg fun hs=>?_;clear hg)|refine Pure.use (by assumption) ?_|clear U K)<;>conv=>whnf)
       all_goals first
        | exact⟨hjlt,_,rfl,⟨hst,hMs'⟩,hs.less (Kh _ _)⟩
        | exact Tf (by rw[hst];rfl)
      ·rw[An hje,D1,EW]at hm
       conv=>whnf
       repeat'((first|apply st|(apply sq;intro K U)|(apply si;intro A B Y Z)|(apply Y;clear Z B Y A)|(apply U;clear U K)|refine⟨rfl,?_⟩|(refine EV (fun hc=>?_)<;>(try rw[hc])<;>clear hc)|clear U K)<;>conv=>whnf)
       exact⟨hilt,(),rfl,hm,hs.take 0⟩
     ·rw[hem]at hlb
      rw[hem,if_pos rfl,←hw3]at hlin;have hcF:A7 p=false:=by rw[hn',hlb];rfl
      conv=>whnf
      repeat'((first|apply st|(apply sq;intro K U)|(apply si;intro A B Y Z)|(apply Y;clear Z B Y A)|(refine Z _ _ _ ?_;clear Z B Y A)|(apply U;clear U K)|refine⟨rfl,?_⟩|refine⟨kZ,?_⟩|refine ix ?_|refine DJ fun σ hs=>?_|(refine Cs (fun hc=>?_)<;>(try rw[hc])<;>clear hc)|(refine Cf (fun hc=>?_) (fun hc=>?_)<;>(replace hc:=bp hc)<;>(try(exfalso;omega)))|(intro nn hnn;generalize hg:A8 _ nn _=σ;refine CW hg fun hs=>?_;clear hg)|refine Pure.use (by assumption) ?_|clear U K)<;>conv=>whnf)
      all_goals exact Tf hcF
    ·conv=>whnf
     repeat'((first|apply st|(apply sq;intro K U)|(apply si;intro A B Y Z)|(apply Y;clear Z B Y A)|(apply U;clear U K)|refine⟨rfl,?_⟩|(refine EV (fun hc=>?_)<;>(try rw[hc])<;>clear hc)|clear U K)<;>conv=>whnf)
     exact sP hs (by rw[hn',An hie];rfl)
   ·have hcF:A7 p=false:=by rw[hcb];simp[hps]
    conv=>whnf
    repeat'((first|apply st|(apply sq;intro K U)|(apply si;intro A B Y Z)|(apply Y;clear Z B Y A)|(refine Z _ _ _ ?_;clear Z B Y A)|(apply U;clear U K)|refine⟨rfl,?_⟩|refine⟨kZ,?_⟩|(refine EV (fun hc=>?_)<;>(try rw[hc])<;>clear hc)|(refine Cf (fun hc=>?_) (fun hc=>?_)<;>(replace hc:=bp hc)<;>(try simp(disch:=omega) only[BQ,wrap64,AL]at hc)<;>(try(cases hc;done)))|refine Pure.use (KH _ (by omega)) ?_|(constructor<;>intro hc<;>(try rw[hc])<;>(replace hc:=bp hc)<;>try(exfalso;omega))|clear U K)<;>conv=>whnf)
    all_goals exact Tf hcF
def Wg (f : Fact):Mq f=true→Pure Tryz.prog 171 [.a (xF f)] (eI (C4 f)):=by
 induction f using Fact.ind with
 | h f ih=>
   intro ha;refine Pure.fit (by kernel_rfl) fun hf=>?_
   have⟨h2,h3,h4⟩:=Jm hf.1;have hM:=Mx;rw[KO]at ha;simp only[BY,CY,List.all_map,EY]at ha;refine jo kZ ?_;have hs:=Sn;by_cases hlf:Bm f=true
   ·have hlo:=FX hlf
    have hw:IntKind.i64.wrap (f.arg+1)=f.arg+1:=wrap64 (by omega) (by omega)
    conv=>whnf
    repeat'((first|apply st|(apply sq;intro K U)|(apply si;intro A B Y Z)|(apply Y;clear Z B Y A)|(apply U;clear U K)|refine⟨rfl,?_⟩|(constructor<;>intro hc<;>(try rw[hc])<;>(replace hc:=bp hc)<;>try(exfalso;omega))|fail)<;>conv=>whnf)
    all_goals try(exfalso;omega)
    all_goals
     refine CZ f.kids.length (fun k (_:Unit)=>[(3,eI (((f.kids.take k).map C4).foldl Gf (if Bm f then f.arg+1 else 0))),(25,eI (BL k))]) (fun _ _=>[]) (fun _ _=>True) () (by rw[hw,if_pos hlf];rfl) trivial hs ?_;clear hs;rintro k - σ hk - hs;rcases BS f.kids hk with⟨x,hx,hlt⟩|hke
     ·have hxs:=ih x (Cj hx) (ha.2 x (Cj hx))
      conv=>whnf
      repeat'((first|apply st|(apply sq;intro K U)|(apply si;intro A B Y Z)|(apply Y;clear Z B Y A)|(apply U;clear U K)|refine⟨rfl,?_⟩|refine⟨kZ,?_⟩|refine TP ?_|refine ld ?_|refine DJ fun σ hs=>?_|(refine Cs (fun hc=>?_)<;>(try rw[hc])<;>clear hc)|(intro nn hnn;generalize hg:A8 _ nn _=σ;refine CW hg fun hs=>?_;clear hg)|refine Pure.use (by assumption) ?_|clear U K)<;>conv=>whnf)
      exact⟨hlt,(),by rw[EF _ _ _ hx];rfl,trivial,hs.take 0⟩
     ·conv=>whnf
      repeat'((first|apply st|(apply sq;intro K U)|(apply si;intro A B Y Z)|(apply Y;clear Z B Y A)|(apply U;clear U K)|refine⟨rfl,?_⟩|(refine EV (fun hc=>?_)<;>(try rw[hc])<;>clear hc)|clear U K)<;>conv=>whnf)
      exact AI (by rw[BK hke,←Ds])
   ·have hlo:f.op≠2∧f.op≠3∧f.op≠4:=by
     simp only[Bm,FU,Dn]at hlf;omega
    conv=>whnf
    repeat'((first|apply st|(apply sq;intro K U)|(apply si;intro A B Y Z)|(apply Y;clear Z B Y A)|(apply U;clear U K)|refine⟨rfl,?_⟩|(constructor<;>intro hc<;>(try rw[hc])<;>(replace hc:=bp hc)<;>try(exfalso;omega))|fail)<;>conv=>whnf)
    all_goals try(exfalso;omega)
    all_goals
     refine CZ f.kids.length (fun k (_:Unit)=>[(3,eI (((f.kids.take k).map C4).foldl Gf (if Bm f then f.arg+1 else 0))),(25,eI (BL k))]) (fun _ _=>[]) (fun _ _=>True) () (by rw[if_neg hlf];rfl) trivial hs ?_;clear hs;rintro k - σ hk - hs;rcases BS f.kids hk with⟨x,hx,hlt⟩|hke
     ·have hxs:=ih x (Cj hx) (ha.2 x (Cj hx))
      conv=>whnf
      repeat'((first|apply st|(apply sq;intro K U)|(apply si;intro A B Y Z)|(apply Y;clear Z B Y A)|(apply U;clear U K)|refine⟨rfl,?_⟩|refine⟨kZ,?_⟩|refine TP ?_|refine ld ?_|refine DJ fun σ hs=>?_|(refine Cs (fun hc=>?_)<;>(try rw[hc])<;>clear hc)|(intro nn hnn;generalize hg:A8 _ nn _=σ;refine CW hg fun hs=>?_;clear hg)|refine Pure.use (by assumption) ?_|clear U K)<;>conv=>whnf)
      exact⟨hlt,(),by rw[EF _ _ _ hx];rfl,trivial,hs.take 0⟩
     ·conv=>whnf
      repeat'((first|apply st|(apply sq;intro K U)|(apply si;intro A B Y Z)|(apply Y;clear Z B Y A)|(apply U;clear U K)|refine⟨rfl,?_⟩|(refine EV (fun hc=>?_)<;>(try rw[hc])<;>clear hc)|clear U K)<;>conv=>whnf)
      exact AI (by rw[BK hke,←Ds])
def Wz (p:Prog) (x:Node) (size:Int):Pure Tryz.prog 168 [.a (BU p),.a (H5 x),eI size] (.b (Ks p x size)):=by
 refine Pure.fit (by kernel_rfl) fun hf=>?_
 have⟨p1,p2,p3,p4⟩:=Gq hf.1;have hM:=Mx;have hw:IntKind.i64.wrap (3+((p.AN.map OU).length:Nat))=3+(p.AN.length:Int):=by rw[BQ,wrap64 (by omega) (by omega)]
 refine js kZ ?_;have hs:=Sn
 conv=>whnf
 repeat'((first|apply st|(apply sq;intro K U)|(apply si;intro A B Y Z)|(apply Y;clear Z B Y A)|(apply U;clear U K)|refine⟨rfl,?_⟩|refine Pure.use (OE _) ?_|(constructor<;>intro hc<;>(try rw[hc])<;>(replace hc:=bp hc))|clear U K)<;>conv=>whnf)
 all_goals first
  | (refine AI ?_;simp[Ks, *];done)
  | (refine AI ?_;simp[Ks, *];omega)
  | (refine AI ?_;rw[hw];simp[Ks, *];done)
  | (refine AI ?_;congr 1;rw[Kk];simp[Ks, *];omega)
def gU (n:Nat) (hn:n≤120):Pure Tryz.prog 252 [.i .u64 1,eU n] (.t [.i .u64 0,eU n]):=by
 refine ij kZ ?_;have hs:=Sn
 conv=>whnf
 repeat'((first|apply st|(apply sq;intro K U)|(apply si;intro A B Y Z)|(apply Y;clear Z B Y A)|(apply U;clear U K)|refine⟨rfl,?_⟩|refine⟨(by decide:(0:Int)≤_),?_⟩|fail)<;>conv=>whnf)
 have ea: ∀m:Nat,m≤120→bits .and .u64 (m:Int) 4294967295=(m:Int):=fun m hm=>by
  have:=KK (a:=m) (b:=4294967295) (by omega) (by decide)
  have e:m&&&4294967295=m:=by
   have:=Nat.and_two_pow_sub_one_eq_mod m 32;rw[show 2 ^ 32 - 1=4294967295 from rfl]at this;rw[this];omega
  rw[e]at this;exact this
 have e0:=ea 0 (by omega);have e1:=ea 1 (by omega);have en:=ea n hn
 have ef: ∀m:Nat,m≤120→(m:Int).fdiv (2 ^ min (Int.toNat 32) IntKind.u64.bits)=0:=fun m hm=>by
  have:=VI (a:=m) (c:=32) (by decide);rw[show(Int.toNat 32)=32 from rfl,this,Nat.shiftRight_eq_div_pow];have:m / 2 ^ 32=0:=Nat.div_eq_of_lt (by omega);rw[this];rfl
 have f0:=ef 0 (by omega);have f1:=ef 1 (by omega);have fn:=ef n hn;have w0:IntKind.u64.wrap 0=0:=rfl;have wn:IntKind.u64.wrap (n:Int)=n:=Gv (by omega);simp only[Int.natCast_zero,Int.natCast_one,Int.cast_ofNat_Int]at e0 e1 f0 f1;simp only[e0,e1,en,f0,f1,fn,w0,wn,Int.zero_mul,Int.mul_zero,Int.zero_add,Int.add_zero,Int.one_mul];exact AI rfl
def gV (n:Nat) (hn:n≤120):Pure Tryz.prog 212 [.i .u64 1,eU n] (.t [.i .u64 0,eU n]):=by
 refine jP kZ ?_;have hs:=Sn
 conv=>whnf
 repeat'((first|apply st|(apply sq;intro K U)|(apply si;intro A B Y Z)|(apply Y;clear Z B Y A)|(apply U;clear U K)|refine Pure.use (gU n hn) ?_|fail)<;>conv=>whnf)
 all_goals exact AI rfl
end Go.Gl
namespace Go.Gl
variable {P:Program} {σ:AH}
def sD {n sz len cap:Nat} {ki:IntKind} {j:Int} {K:V→AH→Prop} (h:K (.sv n sz j.toNat ((len:Int) - j).toNat) σ) (h0:0≤j:=by omega) (h1:j≤(len:Int):=by omega):AV σ sz (.sl n len cap) (some (.i ki j)) none none K:=by
 unfold AV;simp only[OM];exact⟨h0,h1,Int.le_refl _,h⟩
def sE {n sz len cap:Nat} {ki:IntKind} {j:Int} {K:V→AH→Prop} (h:K (.sv n sz 0 j.toNat) σ) (h0:0≤j:=by omega) (h1:j≤(len:Int):=by omega):AV σ sz (.sl n len cap) none (some (.i ki j)) none K:=by
 unfold AV;simp only[OM];refine⟨Int.le_refl _,h0,h1,?_⟩;simpa using h
def mY {l:List At} (h:Sat σ l) (i:Nat) {n len cap sz:Nat} {es ys:List (List V)} {f:Bool} {K:V→AH→Prop} (hi:l[i]? =some (.own (.sl n len cap) sz es)) (hle:ys.length≤es.length) (hys: ∀e∈ys,e.length=sz) (ho: ∀e∈ys,∀v∈e,Db v=true)
    (hk: ∀σ',Sat σ' (l.set i (.own (.sl n len cap) sz (ys++es.drop ys.length)))→K (.i .i64 (ys.length:Nat)) σ'):Af σ sz (.sl n len cap) (.l ys f) K:=by
 rcases h.get hi with⟨h1,_⟩|⟨n',cap',h1,hn⟩
 ·cases h1
 cases h1;unfold Af;refine⟨hys,ho,?_⟩;simp only[P3,hn];have hm:min ys.length es.length=ys.length:=Nat.min_eq_left hle;refine⟨trivial,by omega,?_⟩;rw[hm];refine hk _ ?_;simp only[List.take_zero,List.nil_append,List.take_length,Gb];refine h.change hi (fun b hb ha=>Em hb fun m hm=>?_) (fun b hb ha m hm=>ha m hm) (.inr ⟨n,cap,by simp;omega,by simp[A8]⟩);rw[Ct];intro e;subst e;exact ha m rfl hm
def mX {l:List At} (h:Sat σ l) (i:Nat) {n len cap sz a b c:Nat} {es:List (List V)} {K:V→AH→Prop} (hi:l[i]? =some (.own (.sl n len cap) sz es)) (hbc:a+b≤es.length) (hc:c≤es.length) (hys: ∀e∈es,e.length=sz) (ho: ∀e∈es,∀v∈e,Db v=true)
    (hk: ∀σ',Sat σ' (l.set i (.own (.sl n len cap) sz (es.take a++((es.take c).take (min c b)++es.drop (a+min c b)))))→K (.i .i64 (min c b:Nat)) σ'):Af σ sz (.sv n sz a b) (.sv n sz 0 c) K:=by
 rcases h.get hi with⟨h1,_⟩|⟨n',cap',h1,hn⟩
 ·cases h1
 cases h1;unfold Af;simp only[rowsOf,hn];have hl:((es.drop 0).take c).length=c:=by simp;omega
 refine⟨trivial,trivial,by omega,fun e he v hv=>ho e (List.mem_of_mem_take (by simpa using he)) v hv,trivial,?_⟩;simp only[P3,hn,List.drop_zero];refine⟨trivial,by omega,?_⟩;have hl2:(es.take c).length=c:=by simp;omega
 rw[hl2];refine hk _ ?_;refine h.change hi (fun b hb ha=>Em hb fun m hm=>?_) (fun b hb ha m hm=>ha m hm) (.inr ⟨n,cap,by simp;omega,by simp[A8]⟩);rw[Ct];intro e;subst e;exact ha m rfl hm
end Go.Gl
namespace Go.Gl
open Go.Proofs
attribute [local irreducible] BC Ax Ai AU AO Ag AV AW AM Af AR AT A0 A9 Sat Ab A6 Ak W
def Wo (n:Nat) (h1:1≤n) (hn:n≤120):Bd Tryz.prog 165 [.l [[eI (-1)]] true,eI n] [] fun r post=> ∃v,r= .ret v∧post= [.own v 1 (iL (List.replicate n (-1)))]∧(Cc v).isSome=true:=by
 intro σ hs;have hM:=Mx;have hw1:IntKind.u64.wrap 1=1:=rfl;have hwn:IntKind.u64.wrap (n:Int)=n:=Gv (by omega);have hwi:IntKind.i64.wrap (n:Int)=n:=wrap64 (by omega) (by omega);refine jv kZ ?_
 conv=>whnf
 repeat'((first|apply st|(apply sq;intro K U)|(apply si;intro A B Y Z)|(apply Y;clear Z B Y A)|(apply U;clear U K)|refine⟨rfl,?_⟩|(constructor<;>intro hc<;>(try rw[hc])<;>(replace hc:=bp hc)<;>try(exfalso;omega))|fail)<;>conv=>whnf)
 rw[show IntKind.u64.wrap (([[eI (-1)]]:List (List V)).length:Nat)=1 from rfl,hwn];refine(gV n hn).use ?_
 conv=>whnf
 repeat'((first|apply st|(apply sq;intro K U)|(apply si;intro A B Y Z)|(apply Y;clear Z B Y A)|(apply U;clear U K)|refine⟨rfl,?_⟩|(constructor<;>intro hc<;>(try rw[hc])<;>(replace hc:=bp hc)<;>try(exfalso;omega))|fail)<;>conv=>whnf)
 all_goals try(exfalso;omega)
 rw[hwi];refine ln hs (Ja n) (by omega) fun v σ hs hv=>?_
 obtain⟨id,rfl⟩:=hv
 conv=>whnf
 repeat'((first|(apply sq;intro K U)|(apply si;intro A B Y Z)|(apply Y;clear Z B Y A)|(apply U;clear U K)|fail)<;>conv=>whnf)
 refine mY hs 0 (ys:=[[eI (-1)]]) rfl (by simp;omega) (fun e he=>by simp at he;subst he;rfl) (fun e he v hv=>by simp at he;subst he;simp at hv;subst hv;rfl) fun σ hs=>?_
 have hst:([[eI (-1)]]:List (List V))++(List.replicate n [V.i .i64 0]).drop ([[eI (-1)]]:List (List V)).length=List.replicate 1 [eI (-1)]++List.replicate (n - 1) [eI 0]:=by simp[List.drop_replicate]
 rw[hst]at hs
 conv=>whnf
 repeat'((first|apply st|(apply sq;intro K U)|(apply Y;clear Z B Y A)|(apply U;clear U K)|fail)<;>conv=>whnf)
 refine GS (fun m:Nat=>n - m) (fun m=>[(8,eI m)]) (fun m=>[.own (.sl id n n) 1 (List.replicate m [eI (-1)]++List.replicate (n - m) [eI 0])]) (fun m=>1≤m∧m≤n) 1 rfl ⟨by omega,h1⟩ hs ?_;clear hs hst;rintro m σ ⟨hm1,hmn⟩ hs
 have hgl: ∀e∈(List.replicate m [eI (-1)]++List.replicate (n - m) [eI 0]:List (List V)),e.length=1∧ ∀v∈e,Db v=true:=fun e he=>by
  rcases FQ.1 he with he|he
  ·rw[(List.mem_replicate.1 he).2];exact⟨rfl,fun v hv=>by simp at hv;subst hv;rfl⟩
  ·rw[(List.mem_replicate.1 he).2];exact⟨rfl,fun v hv=>by simp at hv;subst hv;rfl⟩
 have hlen:(List.replicate m [eI (-1)]++List.replicate (n - m) [eI 0]:List (List V)).length=n:=by simp;omega
 rcases Nat.lt_or_ge m n with hlt|hge
 ·have hcpy:(List.replicate m [eI (-1)]++List.replicate (n - m) [eI 0]:List (List V)).take m++(((List.replicate m [eI (-1)]++List.replicate (n - m) [eI 0]:List (List V)).take m).take (min m (n - m))++(List.replicate m [eI (-1)]++List.replicate (n - m) [eI 0]:List (List V)).drop (m+min m (n - m)))=List.replicate (m+min m (n - m)) [eI (-1)]++List.replicate (n - (m+min m (n - m))) [eI 0]:=by
   have e1:(List.replicate m [eI (-1)]++List.replicate (n - m) [eI 0]:List (List V)).take m=List.replicate m [eI (-1)]:=by
    rw[List.take_append_of_le_length (by simp)];simp
   rw[e1,List.take_replicate,List.drop_append,List.drop_replicate,List.drop_replicate,List.length_replicate,←TW,List.replicate_append_replicate];have e2:m - (m+min m (n - m))=0:=by omega
   have e3:n - m - (m+min m (n - m) - m)=n - (m+min m (n - m)):=by omega
   rw[e2,e3,List.replicate_zero,List.nil_append];congr 2;omega
  conv=>whnf
  repeat'((first|apply st|(apply sq;intro K U)|(apply si;intro A B Y Z)|(apply Y;clear Z B Y A)|(apply U;clear U K)|apply dr|refine⟨rfl,?_⟩|refine lo ?_|(constructor<;>intro hc<;>(try rw[hc])<;>(replace hc:=bp hc)<;>try(exfalso;omega))|fail)<;>conv=>whnf)
  all_goals try(exfalso;omega)
  refine sD ?_
  conv=>whnf
  repeat'((first|apply dr|fail)<;>conv=>whnf)
  refine sE ?_
  conv=>whnf
  repeat'((first|apply dr|fail)<;>conv=>whnf)
  rw[Jb,show((n:Int) - m).toNat=n - m by omega];refine mX hs 0 rfl (by rw[hlen];omega) (by rw[hlen];omega) (fun e he=>(hgl e he).1) (fun e he=>(hgl e he).2) fun σ hs=>?_
  rw[hcpy]at hs
  conv=>whnf
  repeat'((first|(apply Y;clear Z B Y A)|apply dr|refine⟨rfl,?_⟩|clear U K)<;>conv=>whnf)
  refine⟨m+min m (n - m),by omega,?_,⟨by omega,by omega⟩,hs⟩;rw[wrap64 (by omega) (by omega)];rfl
 ·have hme:m=n:=by omega
  subst hme
  conv=>whnf
  repeat'((first|apply st|(apply sq;intro K U)|(apply si;intro A B Y Z)|(apply Y;clear Z B Y A)|(apply U;clear U K)|refine⟨rfl,?_⟩|refine lo ?_|(constructor<;>intro hc<;>(try rw[hc])<;>(replace hc:=bp hc)<;>try(exfalso;omega))|clear U K)<;>conv=>whnf)
  all_goals try(exfalso;omega)
  refine Ar hs (List.Sublist.refl _) (.refl _) fun σ' hs'=>⟨_,⟨_,rfl,?_,rfl⟩,hs'⟩
  simp[iL]
def Ot (op:Int):V:=
 if op=5 then .Jd 207 (.a [])else
 if op=1∨op=2∨op=3∨op=6∨op=18 then .Jd 205 (eI 0)else
 if op=4∨op=8∨op=17 then .Jd 205 (eI 1)else
 if op=7∨op=9∨op=11∨op=12∨op=13∨op=14∨op=15∨op=16 then .Jd 205 (eI 2)else
 if op=10 then .Jd 205 (eI 3)else .Hq
def XD (op:Int):Pure Tryz.prog 169 [eI op] (Ot op):=by
 refine jr kZ ?_;have hs:=Sn
 conv=>whnf
 repeat'((first|apply st|(apply sq;intro K U)|(apply si;intro A B Y Z)|(apply Y;clear Z B Y A)|(apply U;clear U K)|refine⟨rfl,?_⟩|(constructor<;>intro hc<;>(try rw[hc])<;>(replace hc:=bp hc))|clear U K)<;>conv=>whnf)
 all_goals exact AI (by simp[Ot, *])
def l9 (n:Int) (p:Prog) (x:Node):Pure Tryz.prog 306 [eI n,.a (BU p),.a (H5 x)] (eI n):=by
 refine iC kZ ?_;have hs:=Sn
 conv=>whnf
 repeat'((first|apply st|(apply sq;intro K U)|(apply si;intro A B Y Z)|(apply Y;clear Z B Y A)|(apply U;clear U K)|fail)<;>conv=>whnf)
 all_goals exact AI rfl
def dS (p:Prog) (x:Node) (h0:0≤x.n) (h1:x.n<p.Cl.length):Pure Tryz.prog 307 [.a [],.a (BU p),.a (H5 x)] (eI (p.Cl.getD x.n.toNat 0)):=by
 refine Pure.fit (by kernel_rfl) fun hf=>?_
 have⟨p1,p2,p3,p4⟩:=Gq hf.2.1
 have hx:p.Cl[x.n.toNat]? =some (p.Cl.getD x.n.toNat 0):=by
  rw[Dc,Da (by omega)];rfl
 refine iB kZ ?_;have hs:=Sn
 conv=>whnf
 repeat'((first|apply st|(apply sq;intro K U)|(apply si;intro A B Y Z)|(apply Y;clear Z B Y A)|(apply U;clear U K)|refine F8 ?_|fail)<;>conv=>whnf)
 all_goals exact AI rfl
end Go.Gl
namespace Go.Gl
variable {P:Program} {σ:AH}
def Sat.up {σ':AH} {l:List At} (h:Sat σ l) (hs:Sub σ σ'):Sat σ' l:=by
 refine⟨fun a ha=>?_,h.2⟩;have:=h.1 a ha;cases a with
 | obj n o=>exact hs n o this
 | own v sz es=>
   rcases this with h|⟨n,cap,e,hn⟩
   ·exact .inl h
   ·exact .inr ⟨n,cap,e,hs n _ hn⟩
def Sat.del {l:List At} {n:Nat} {o:O} (h:Sat σ (.obj n o::l)):Sat (del σ n) l:=by
 refine⟨fun b hb=>Em (h.1 b (.tail _ hb)) fun m hm=>?_,(List.pairwise_cons.1 h.2).2⟩;rw[GX];intro e;subst e;exact(List.pairwise_cons.1 h.2).1 b hb m rfl hm
def Sat.JA {l:List At} {n:Nat} {o:O} (h:Sat σ l) (hn:σ n=none):Sat (A8 σ n o) (.obj n o::l):=(YE h hn).lW
def Sat.new {l:List At} {n:Nat} {o o':O} (h:Sat σ (.obj n o::l)):Sat (A8 σ n o') (.obj n o'::l):=fN (i:=0) h rfl o'
def AP {v:V} {Q:R→AH→Prop} (h:Q (.ret v) σ):Ax σ v Q:=⟨v,σ,fun _ _ h=>h,.refl v,h⟩
inductive Rd (S:Type) where
 | go (s:S)
 | stop (st:la) (s:S)
 | Cy (v:V)
def bG {S:Type} (L:Nat) (E:Env) (ok:FuncId→Array Tmp→Code→Code→Nat→Prop) (H:S→List At) (J:S→Prop) (rest:List At) (yes no:V):Rd S→R→AH→Prop
 | .go s,r,σ=>r= .ret yes∧Sat σ (.obj L (.loop .ready E ok)::(H s++rest))
 | .stop st s,r,σ=>r= .ret no∧Sat σ (.obj L (.loop st E ok)::(H s++rest))
 | .Cy v,r,σ=>r= .Cy v∧ ∃s,J s∧Sat (del σ L) (H s++rest)
def K6 {α S:Type} (P:Program) (L:Nat) (E:Env) (ok:FuncId→Array Tmp→Code→Code→Nat→Prop) (ea:α→List V) (H:S→List At) (J:S→Prop) (stp:α→S→Rd S) (D:α→S→Prop):Prop:=
 ∀y s,D y s→ ∀(rest:List At) (σ:AH),Sat σ (.obj L (.loop .ready E ok)::(H s++rest))→Me P L (ea y) σ (bG L E ok H J rest (.b true) (.b false) (stp y s))
def K6.use {α S:Type} {L:Nat} {E:Env} {ok:FuncId→Array Tmp→Code→Code→Nat→Prop} {ea:α→List V} {H:S→List At} {J:S→Prop} {stp:α→S→Rd S} {D:α→S→Prop} (h:K6 P L E ok ea H J stp D) {y:α} {s:S} (hd:D y s) {rest:List At} (hs:Sat σ (.obj L (.loop .ready E ok)::(H s++rest)))
    {Q:R→AH→Prop} (hk: ∀r σ',bG L E ok H J rest (.b true) (.b false) (stp y s) r σ'→Q r σ'):A0 P (.f (.yield L) [] []) (ea y) σ Q:=(h y s hd rest σ hs).mono hk
def OB {L:Nat} {env:Env} {ps:List Nat} {a b:AJ} (hσ:σ L=some (.loop .ready env (Bw P ps a b))) {args:List V} (hl:args.length=ps.length) {Q:R→AH→Prop}
    (h:W P a (C8 (W P b fun ex env' σ'=>σ' L=none→QK L env (Bw P ps a b) Q ex env' σ')) (JH ps args env) (del σ L)):Me P L args σ Q:=
 Ui hσ hl (T1 h (I1 fun _ _ h=>e8 h))
def Lj {α S:Type} {L:Nat} {E:Env} {ps:List Nat} {a b:AJ} {ea:α→List V} {H:S→List At} {J:S→Prop} {stp:α→S→Rd S} {D:α→S→Prop} (hl: ∀y,(ea y).length=ps.length)
    (h: ∀y s,D y s→ ∀(rest:List At) (σ:AH),Sat σ (H s++rest)→W P a (C8 (W P b fun ex env' σ'=>σ' L=none→QK L E (Bw P ps a b) (bG L E (Bw P ps a b) H J rest (.b true) (.b false) (stp y s)) ex env' σ')) (JH ps (ea y) E) σ):K6 P L E (Bw P ps a b) ea H J stp D:=
 fun y s hd rest σ hs=>OB (hs.get (i:=0) rfl) (hl y) (h y s hd rest _ hs.del)
def SD {S:Type} {L:Nat} {E:Env} {ok:FuncId→Array Tmp→Code→Code→Nat→Prop} {H:S→List At} {J:S→Prop} {rest:List At} {o:Rd S} {s:S} (h:o= .go s) (hs:Sat σ (H s++rest)) (hn:σ L=none) :
    bG L E ok H J rest (.b true) (.b false) o (.ret (.b true)) (A8 σ L (.loop .ready E ok)):=by
 subst h;exact⟨rfl,hs.JA hn⟩
def T9 {S:Type} {L:Nat} {E:Env} {ok:FuncId→Array Tmp→Code→Code→Nat→Prop} {H:S→List At} {J:S→Prop} {rest:List At} {o:Rd S} {s:S} {st:la} (h:o= .stop st s) (hs:Sat σ (H s++rest)) (hn:σ L=none) :
    bG L E ok H J rest (.b true) (.b false) o (.ret (.b false)) (A8 σ L (.loop st E ok)):=by
 subst h;exact⟨rfl,hs.JA hn⟩
def PB {S:Type} {L:Nat} {E:Env} {ok:FuncId→Array Tmp→Code→Code→Nat→Prop} {H:S→List At} {J:S→Prop} {rest:List At} {o:Rd S} {s:S} {v:V} (h:o= .Cy v) (hj:J s) (hs:Sat σ (H s++rest)) (hn:σ L=none) :
    bG L E ok H J rest (.b true) (.b false) o (.Cy v) σ:=by
 subst h;refine⟨rfl,s,hj,fun a ha=>Em (hs.1 a ha) fun n hd=>?_,hs.2⟩;obtain⟨o,ho⟩:=Cq (hs.1 a ha) hd;rw[GX];intro e;subst e;rw[hn]at ho;cases ho
def FJ {L:Nat} {E env:Env} {ok:FuncId→Array Tmp→Code→Code→Nat→Prop} {Q:Aq→Env→AH→Prop} {l:List At} {v:V} (hs:Sat σ (.obj L (.loop .ready E ok)::l)) (hk: ∀σ',Sat σ' l→Q .normal env σ'):JI L Q env (.ret v) σ:=
 ⟨_,_,_,hs.get (i:=0) rfl,hk _ hs.del⟩
def UC {L id:Nat} {E env:Env} {ok:FuncId→Array Tmp→Code→Code→Nat→Prop} {Q:Aq→Env→AH→Prop} {l:List At} {v:V} (hs:Sat σ (.obj L (.loop (.exit id) E ok)::l)) (hk: ∀σ',Sat σ' l→Q (.exit id) env σ'):JI L Q env (.ret v) σ:=
 ⟨_,_,_,hs.get (i:=0) rfl,hk _ hs.del⟩
end Go.Gl
namespace Go.Gl
open Go.Proofs
attribute [local irreducible] BC Ax Ai AU AO Ag AV AW AM Af AR AT A0 A9 Sat Ab A6 Ak W
def Ew (p:Prog) (next:Bool) (n size depth:Int) (s:List Int):Option (List Int):=
 if n<0∨(p.nodes.length:Int)≤n∨0≤s.getD n.toNat 0∨12<depth then none else
 match p.nodes[n.toNat]? with
 | none=>none
 | some x=>if Dy p next size x then some (s.set n.toNat size)else none
def YB {S:Type}:Option S→Rd S
 | some s=> .go s
 | none=> .Cy Di
abbrev r5 (y:Int×Int×Int):List V:=[eI y.1,.a [eI y.2.1,eI y.2.2]]
abbrev hOut (nO:Nat) (v:V) (s:List Int):List At:=[.box nO [v],.own v 1 (iL s)]
abbrev dP (p:Prog) (y:Int×Int×Int) (s:List Int):Prop:=0≤y.2.1∧y.2.1≤100∧1≤y.2.2∧y.2.2≤13∧s.length=p.nodes.length
abbrev Ti (p:Prog) (L nW:Nat):V:= .f (.func 214) [] [.rp [.f (.yield L) [] []],.rp (BU p),.p nW 0]
def T3 {p:Prog} {next:Bool} {n size depth:Int} {s s':List Int} (h:Ew p next n size depth s=some s'):0≤n∧n<(p.nodes.length:Int)∧s.getD n.toNat 0<0∧depth≤12∧ ∃x,p.nodes[n.toNat]? =some x∧Dy p next size x=true∧s'=s.set n.toNat size:=by
 unfold Ew at h;split at h
 ·cases h
 ·rename_i hc
  split at h
  ·cases h
  ·rename_i x hx
   split at h
   ·rename_i hok
    simp only[Hg]at h;exact⟨by omega,by omega,by omega,by omega,x,hx,hok,h.symm⟩
   ·cases h
def T2 {p:Prog} {next:Bool} {d:Nat} {n size depth:Int} {s:List Int} (hd:depth=13 - (d+1:Nat)) (hd1:1≤depth):CD p next (d+1) n size s=match Ew p next n size depth s with
    | none=>none
    | some s'=>match p.nodes[n.toNat]? with
      | none=>none
      | some x=>FF (CD p next d) x.op size 0 x.kids s':=by
 unfold Ew;simp only[CD];by_cases h:n<0∨(p.nodes.length:Int)≤n∨0≤s.getD n.toNat 0
 ·rw[if_pos h,if_pos (by omega)]
 ·rw[if_neg h,if_neg (by omega)]
  cases hx:p.nodes[n.toNat]? with
  | none=>rfl
  | some x=>
    simp only;split
    ·rfl
    ·rfl
def T4 {p:Prog} {next:Bool} {n size depth:Int} {s:List Int} (hd:12<depth):Ew p next n size depth s=none:=by
 unfold Ew;rw[if_pos (by omega)]
def PK {f:Int→Int→List Int→Option (List Int)} (hf: ∀ {a b s s'},f a b s=some s'→s'.length=s.length) {op size:Int}: ∀(i:Nat) (l:List Int) {s s':List Int},FF f op size i l s=some s'→s'.length=s.length
 | _,[],s,s',h=>by cases h;rfl
 | i,k::r,s,s',h=>by
   simp only[FF]at h;split at h
   ·cases h
   ·rename_i s1 h1
    exact(PK hf (i+1) r h).trans (hf h1)
def IX {p:Prog} {next:Bool}: ∀(d:Nat) {n size:Int} {s s':List Int},CD p next d n size s=some s'→s'.length=s.length
 | 0,_,_,_,_,h=>by cases h
 | d + 1,n,size,s,s',h=>by
   simp only[CD]at h;split at h
   ·cases h
   ·split at h
    ·cases h
    ·split at h
     ·exact(PK (fun h=>IX d h) 0 _ h).trans (by simp)
     ·cases h
set_option maxHeartbeats 4000000 in
def bV (p : Prog) (next:Bool) {L:Nat} {E:Env} {ok:FuncId→Array Tmp→Code→Code→Nat→Prop} {v:V} {nO:Nat}
    (hY:K6 Tryz.prog L E ok r5 (hOut nO v) (fun s=>s.length=p.nodes.length) (fun y s=>YB (Ew p next y.1 y.2.1 y.2.2 s)) (dP p)) :
    ∀ d : Nat,d≤12→ ∀(n size depth:Int) (s:List Int),depth=13 - d→0≤size→size+d≤100→s.length=p.nodes.length→ ∀(nW:Nat) (rest:List At) (σ:AH),
      Sat σ (.obj L (.loop .ready E ok)::(hOut nO v s++(.box nW [Ti p L nW]::rest)))→
      BC Tryz.prog 214 [eI n,.a [eI size,eI depth],.rp [.f (.yield L) [] []],.rp (BU p),.p nW 0] σ
       (bG L E ok (hOut nO v) (fun s=>s.length=p.nodes.length) (.box nW [Ti p L nW]::rest) (.b true) (.b false) (YB (CD p next d n size s))):=by
 intro d
 induction d with
 | zero=>
   intro _ n size depth s hd h0 h1 hl nW rest σ hs;refine Yw kZ ?_
   conv=>whnf
   repeat'((first|apply st|(apply sq;intro K U)|(apply si;intro A B Y Z)|(apply Y;clear Z B Y A)|(apply U;clear U K)|refine⟨kZ,?_⟩|fail)<;>conv=>whnf)
   refine hY.use (y:=(n,size,depth)) (s:=s) ⟨h0,(by dsimp only;omega),(by dsimp only;omega),(by dsimp only;omega),hl⟩ hs ?_;rw[T4 (by dsimp only;omega)];rintro r σ' ⟨rfl,s',hj,hs'⟩
   conv=>whnf
   repeat'((first|(refine Z _ _ _ ?_;clear Z B Y A)|clear U K)<;>conv=>whnf)
   exact DG ⟨rfl,s',hj,hs'⟩
 | succ d ih =>
   intro hd12 n size depth s hd h0 h1 hl nW rest σ hs;refine BC.fit (by kernel_rfl) fun hf=>?_
   have hM:=Mx
   have hfp:Ev (.a (BU p)):=by
    have:=hf.2.2.2.1;simp only[Qh]at this;simpa only[IC]using this
   have⟨p1,p2,p3,p4⟩:=Gq hfp;refine Yw kZ ?_
   conv=>whnf
   repeat'((first|apply st|(apply sq;intro K U)|(apply si;intro A B Y Z)|(apply Y;clear Z B Y A)|(apply U;clear U K)|refine⟨kZ,?_⟩|fail)<;>conv=>whnf)
   refine hY.use (y:=(n,size,depth)) (s:=s) ⟨h0,(by dsimp only;omega),(by dsimp only;omega),(by dsimp only;omega),hl⟩ hs ?_;have hw:=T2 (p:=p) (next:=next) (n:=n) (size:=size) (s:=s) hd (by omega);cases hv:Ew p next n size depth s with
   | none=>
     rw[hv]at hw;rintro r σ' ⟨rfl,s',hj,hs'⟩
     conv=>whnf
     repeat'((first|(refine Z _ _ _ ?_;clear Z B Y A)|clear U K)<;>conv=>whnf)
     refine DG ?_;rw[hw];exact⟨rfl,s',hj,hs'⟩
   | some s1 =>
     obtain⟨g0,g1,g2,g3,x,hx,hok,hs1⟩:=T3 hv;rw[hv]at hw;simp only[hx]at hw;have hl1:s1.length=p.nodes.length:=by rw[hs1];simpa using hl
     have hkm:=Yr hfp (Cj hx);clear hv hs1;rintro r σ1 ⟨rfl,hs⟩
     conv=>whnf
     repeat'((first|apply st|(apply sq;intro K U)|(apply si;intro A B Y Z)|(apply Y;clear Z B Y A)|(apply U;clear U K)|refine F8 ?_|refine EA ?_|fail)<;>conv=>whnf)
     refine CZ x.kids.length (fun k (_:List Int)=>[(23,eI (BL k))]) (fun _ s'=> .obj L (.loop .ready E ok)::(hOut nO v s'++(.box nW [Ti p L nW]::rest))) (fun k s'=>s'.length=p.nodes.length∧CD p next (d+1) n size s=FF (CD p next d) x.op size k (x.kids.drop k) s') s1 rfl ⟨hl1,by simpa using hw⟩ hs ?_;clear hs hw;rintro k s' σ hk ⟨hl',hkids⟩ hs;rcases BS x.kids hk with⟨kid,hkid,hlt⟩|hke
     ·have hck:BL k=k:=AL (by omega)
      rw[drop_cons hkid,FF]at hkids;have e0:IntKind.i64.wrap (depth+1)=depth+1:=wrap64 (by omega) (by omega);have e1:IntKind.i64.wrap (size+1)=size+1:=wrap64 (by omega) (by omega)
      have hrec: ∀(sz:Int) (σ:AH) (l:List At),0≤sz→sz+d≤100→Sat σ (l++(.obj L (.loop .ready E ok)::(hOut nO v s'++(.box nW [Ti p L nW]::rest))))→A0 Tryz.prog (Ti p L nW) [eI kid,.a [eI sz,eI (depth+1)]] σ
       (bG L E ok (hOut nO v) (fun s=>s.length=p.nodes.length) (.box nW [Ti p L nW]::rest) (.b true) (.b false) (YB (CD p next d kid sz s'))):=fun sz σ l h0 h1 hs=>
       Bl (ih (by omega) kid sz (depth+1) s' (by omega) h0 h1 hl' nW rest σ (hs.less (List.sublist_append_right _ _)))
      conv=>whnf
      repeat'((first|apply st|(apply sq;intro K U)|(apply si;intro A B Y Z)|(apply Y;clear Z B Y A)|(apply U;clear U K)|refine⟨rfl,?_⟩|refine⟨kZ,?_⟩|refine ix ?_|refine F8 ?_|refine ld ?_|refine El fun σ hs=>?_|refine DJ fun σ hs=>?_|(refine Cs (fun hc=>?_)<;>(try rw[hc])<;>clear hc)|(constructor<;>intro hc<;>(try rw[hc])<;>(replace hc:=bp hc)<;>(try simp(disch:=omega) only[BQ,wrap64,AL]at hc))|(intro nn hnn;generalize hg:A8 _ nn _=σ;refine CW hg fun hs=>?_;clear hg)|fail)<;>conv=>whnf)
      all_goals
       simp only[e0,e1]
       first
        | rw[if_pos (by omega)]at hkids
          refine(hrec (size+1) _ [_] (by omega) (by omega) hs).mono ?_
        | rw[if_neg (by omega)]at hkids
          refine(hrec size _ [_] (by omega) (by omega) hs).mono ?_
       cases hw:CD p next d kid _ s' with
       | none=>
         rw[hw]at hkids;rintro r σ' ⟨rfl,s',hj,hs'⟩
         conv=>whnf
         repeat'((first|(refine Z _ _ _ ?_;clear Z B Y A)|clear U K)<;>conv=>whnf)
         refine DG ?_;rw[hkids];exact⟨rfl,s',hj,hs'⟩
       | some s2=>
         rw[hw]at hkids;rintro r σ' ⟨rfl,hs'⟩
         conv=>whnf
         repeat'((first|apply st|(apply si;intro A B Y Z)|(apply Y;clear Z B Y A)|(apply U;clear U K)|refine⟨rfl,?_⟩|refine EA ?_|clear U K)<;>conv=>whnf)
         exact⟨hlt,s2,rfl,⟨(IX _ hw).trans hl',hkids⟩,hs'⟩
     ·rw[An hke,FF]at hkids
      conv=>whnf
      repeat'((first|apply st|(apply sq;intro K U)|(apply si;intro A B Y Z)|(apply Y;clear Z B Y A)|(apply U;clear U K)|refine⟨rfl,?_⟩|(refine EV (fun hc=>?_)<;>(try rw[hc])<;>clear hc)|clear U K)<;>conv=>whnf)
      refine AP ?_;rw[hkids];exact⟨rfl,hs⟩
end Go.Gl
