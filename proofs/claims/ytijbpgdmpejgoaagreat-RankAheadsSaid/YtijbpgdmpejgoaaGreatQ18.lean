import Derived.Test.YtijbpgdmpejgoaaGreatQ17
set_option linter.all false
set_option linter.unusedVariables false
set_option linter.unusedSimpArgs false
namespace Go.Gl
open Go.Proofs
attribute [local irreducible] Bj Bf Ba Al Aa BS Ao Aq Ac BO Ah Ap Bz CA Sat A7 B8 Be W
def FZ (w:AP):Prop:=IK w.parents∧w.owner.length≤40∧ ∀o∈w.owner,(3:Int)≤o∧o<3+(w.parents.length:Int)
def U5 (us:List Nat) (l:List Int) (s:Nat):Nat:=l.foldl (fun s c=>s|||us.getD c.toNat 0) s
def Cv (g:List (List Int)):Nat→List Nat
 | 0=>[1,3,5]
 | k+1=>Cv g k++[U5 (Cv g k) (g.getD k []) (1|||2 ^ (3+k))]
def Eu (g:List (List Int)):List Nat:=Cv g g.length
def dg (us:List Nat):List V:=us.map eU++List.replicate (63 - us.length) (eU 0)
def wC (w:AP) (us:List Nat):List V:=BQ w++dg us
theorem Fz (g:List (List Int)): ∀k,(Cv g k).length=3+k
 | 0=>rfl
 | k+1=>by simp[Cv,Fz g k];omega
theorem Z8 (w:AP) {us:List Nat} (h:us.length≤63):(wC w us).length=65:=by
 simp only[wC,BQ,dg,Sl,NW,List.length_nil,B2,List.length_replicate];omega
theorem Z7 (w:AP) (us:List Nat) (s:Nat) (h:us.length<63):(wC w us).set (2+us.length) (eU s)=wC w (us++[s]):=by
 simp only[wC,dg];rw[List.set_append_right _ _ (by simp[BQ])];congr 1;have e:2+us.length - (BQ w).length=us.length:=by simp[BQ]
 rw[e,List.set_append_right _ _ (by simp)];rw[B2,Nat.sub_self,List.map_append,WU];congr 1;rw[show 63 - us.length=(63 - (us++[s]).length)+1 by simp;omega,List.replicate_succ];rfl
theorem lJ (w:AP) (us:List Nat) {i:Nat} (h:i<us.length):(wC w us)[2+i]? =some (eU (us.getD i 0)):=by
 simp only[wC,dg];rw[List.getElem?_append_right (by simp[BQ]),show 2+i - (BQ w).length=i by simp[BQ],rZ (by simpa using h),Pu,E4 h,E9,E4 h];rfl
def x3 (us:List Nat):Prop:= ∀u∈us,u<18446744073709551616
theorem Ra {us:List Nat} (h:x3 us) (i:Nat):us.getD i 0<18446744073709551616:=by
 rw[E9];cases hx:us[i]? with
 | none=>simp
 | some x=>exact h x (DL hx)
theorem R0 {us:List Nat} (h:x3 us): ∀(l:List Int) (s:Nat),s<18446744073709551616→U5 us l s<18446744073709551616
 | [],_,hs=>hs
 | c::r,s,hs=>R0 h r _ (Ko hs (Ra h _))
theorem LH (g:List (List Int)): ∀k,k≤60→x3 (Cv g k)
 | 0,_=>by intro u hu;simp[Cv]at hu;omega
 | k+1,hk=>by
   intro u hu;simp only[Cv,Fo,List.mem_singleton]at hu;rcases hu with hu|rfl
   ·exact LH g k (by omega) u hu
   ·exact R0 (LH g k (by omega)) _ _ (Ko (by decide) (J7 (by omega)))
theorem sc (w:AP) (us:List Nat) (c:Int) {n:Nat} (hM:w.parents.length≤60):CL Tryz.prog 178 [.p n 0,eI c] [.box n (wC w us)] fun r post=>r= .ret (.b (decide (3≤c)&&decide (c<3+(w.parents.length:Int))))∧post= [.box n (wC w us)]:=by
 intro σ hs;have hw:IntKind.i64.wrap (3+((El w.parents).length:Nat))=3+(w.parents.length:Int):=by rw[B2,wrap64 (by omega) (by omega)]
 refine wN nb ?_
 conv=>whnf
 repeat'((first|refine st ?_|(refine sq ?_;intro K U)|(refine si ?_;intro A B Y Z)|(refine Y _ _ ?_;clear Z B Y A)|(refine U _ _ ?_;clear U K)|refine⟨rfl,?_⟩|refine ld ?_|(constructor<;>intro hc<;>(try rw[hc])<;>(replace hc:=bp hc))|fail)<;>conv=>whnf)
 ·refine AS ⟨_,⟨?_,rfl⟩,hs⟩
  rw[hw,decide_eq_true (show 3≤c by omega)];rfl
 ·refine AS ⟨_,⟨?_,rfl⟩,hs⟩
  rw[decide_eq_false (show¬3≤c by omega)];rfl
theorem cw (w:AP) (us:List Nat) (c:Int) (hM:w.parents.length≤60):Pure Tryz.prog 222 [.rp (wC w us),eI c] (.b (Ph w c)):=by
 have hw:IntKind.i64.wrap (3+((El w.parents).length:Nat))=3+(w.parents.length:Int):=by rw[B2,wrap64 (by omega) (by omega)]
 refine vZ nb ?_;have hs:=Sn
 conv=>whnf
 repeat'((first|refine st ?_|(refine sq ?_;intro K U)|(refine si ?_;intro A B Y Z)|(refine Y _ _ ?_;clear Z B Y A)|(refine U _ _ ?_;clear U K)|refine⟨rfl,?_⟩|(constructor<;>intro hc<;>(try rw[hc])<;>(replace hc:=bp hc))|fail)<;>conv=>whnf)
 ·refine AM ?_
  rw[hw,Ph,decide_eq_true (show 0≤c by omega)];rfl
 ·refine AM ?_
  rw[Ph,decide_eq_false (show¬0≤c by omega)];rfl
theorem eN (w:AP) (us:List Nat) (c:Int) (hM:w.owner.length≤60):Pure Tryz.prog 254 [.rp (wC w us),eI c] (.b (Iq w c)):=by
 refine vF nb ?_;have hs:=Sn
 conv=>whnf
 repeat'((first|refine st ?_|(refine sq ?_;intro K U)|(refine si ?_;intro A B Y Z)|(refine Y _ _ ?_;clear Z B Y A)|(refine U _ _ ?_;clear U K)|refine⟨rfl,?_⟩|(constructor<;>intro hc<;>(try rw[hc])<;>(replace hc:=bp hc))|fail)<;>conv=>whnf)
 ·refine AM ?_
  rw[Iq,decide_eq_true (show 0≤c by omega),B2];rfl
 ·refine AM ?_
  rw[Iq,decide_eq_false (show¬0≤c by omega)];rfl
theorem ew (w:AP) (us:List Nat) (l:List Int) (f:Bool) (hM:w.owner.length≤60):Pure Tryz.prog 221 [.rp (wC w us),.l (iL l) f] (.b (FU w l)):=by
 have hall:=kq (g:=254) (fi:=[.rp (wC w us)]) (ca:=[]) (f:=Iq w) (xs:=l) f (fun y _=>eN w us y hM);refine vd nb ?_;have hs:=Sn
 conv=>whnf
 repeat'((first|refine st ?_|(refine sq ?_;intro K U)|(refine si ?_;intro A B Y Z)|(refine Y _ _ ?_;clear Z B Y A)|(refine U _ _ ?_;clear U K)|refine⟨rfl,?_⟩|(constructor<;>intro hc<;>(try rw[hc])<;>(replace hc:=bp hc)<;>(try simp(disch:=omega) only[B2,wrap64,AU]at hc))|refine Pure.use (by assumption) ?_|fail)<;>conv=>whnf)
 ·refine AM ?_
  rw[FU,decide_eq_true (show l.length≤2 by omega),Bool.and_true];rfl
 ·refine AM ?_
  rw[FU,decide_eq_false (show¬l.length≤2 by omega),Bool.and_false];rfl
theorem HL (s:Nat) (c:Int) (hs0:s<18446744073709551616) (h0:0≤c) (hc:c<64):Pure Tryz.prog 176 [eU s,eI c] (eU (s|||2 ^ c.toNat)):=by
 have:=Wn s c.toNat hs0 (by omega);rw[Int.toNat_of_nonneg h0]at this;exact this
theorem up3 {k:Nat} (h:k<3):([1,3,5]:List Nat).take k++[1|||2 ^ k]= [1,3,5].take (k+1):=by
 rcases k with _|_|_|k
 ·rfl
 ·rfl
 ·rfl
 ·omega
set_option maxHeartbeats 4000000 in
theorem fD (w:AP) (hw:FZ w):Pure Tryz.prog 139 [.a (BQ w)] (.t [.rp (wC w (Eu w.parents)),.b true]):=by
 obtain⟨⟨hl,hrow⟩,ho,how⟩:=hw;have hM:=Mx;refine Pure.of ?_;refine xA nb ?_;have hs:=Sn;have hi1:((El w.parents).length:Int)≤60:=by rw[B2];omega
 have hi2:((iL w.owner).length:Int)≤40:=by rw[B2];omega
 conv=>whnf
 repeat'((first|refine st ?_|(refine sq ?_;intro K U)|(refine si ?_;intro A B Y Z)|(refine Y _ _ ?_;clear Z B Y A)|(refine U _ _ ?_;clear U K)|refine⟨rfl,?_⟩|refine⟨nb,?_⟩|(constructor<;>intro hc<;>(try rw[hc])<;>(replace hc:=bp hc)<;>(try simp(disch:=omega) only[B2,wrap64,AU]at hc)<;>try(exfalso;omega))|(intro nn hnn;generalize hg:BI _ nn _=σ;refine Fy hg fun hs=>?_;clear hg)|fail)<;>conv=>whnf)
 generalize nn=n0 at *;refine C5 3 (fun k (_:Unit)=>[(24,eI (Bw k))]) (fun k _=>[.box n0 (wC w ([1,3,5].take k))]) (fun k _=>True) () rfl trivial hs ?_;clear hs;rintro k - σ hk - hs;have hck:Bw k=k:=AU (by omega);have hlen:(([1,3,5]:List Nat).take k).length=k:=by simp;omega
 by_cases hlt:k<3
 ·have hst:=Z7 w ([1,3,5].take k) (1|||2 ^ k) (by omega)
  rw[hlen,up3 hlt]at hst
  conv=>whnf
  repeat'((first|refine st ?_|(refine sq ?_;intro K U)|(refine si ?_;intro A B Y Z)|(refine Y _ _ ?_;clear Z B Y A)|(refine U _ _ ?_;clear U K)|refine dr ?_|refine⟨rfl,?_⟩|refine rj ?_|refine Pure.use (HL 1 _ (by decide) (by omega) (by omega)) ?_|(constructor<;>intro hc<;>(try rw[hc])<;>(replace hc:=bp hc)<;>(try simp(disch:=omega) only[B2,wrap64,AU]at hc)<;>try(exfalso;omega))|fail)<;>conv=>whnf)
  refine K2 hs 0 rfl rfl (by rw[Z8 w (by omega)];omega) fun σ hs=>?_
  conv=>whnf
  repeat'((first|(refine si ?_;intro A B Y Z)|(refine Y _ _ ?_;clear Z B Y A)|(refine U _ _ ?_;clear U K)|refine dr ?_|refine⟨rfl,?_⟩|clear U K)<;>conv=>whnf)
  refine⟨hlt,(),rfl,trivial,?_⟩;rw[hck,Int.toNat_natCast,Nat.mul_one,Nat.zero_add]at hs;simp only[List.set_cons_zero]at hs;rw[hst]at hs;exact hs
 ·have hke:k=3:=by omega
  subst hke;clear hk hck hlen hlt
  conv=>whnf
  repeat'((first|refine st ?_|(refine sq ?_;intro K U)|(refine si ?_;intro A B Y Z)|(refine Y _ _ ?_;clear Z B Y A)|(refine U _ _ ?_;clear U K)|refine⟨rfl,?_⟩|(constructor<;>intro hc<;>(try rw[hc])<;>(replace hc:=bp hc)<;>(try simp(disch:=omega) only[B2,wrap64,AU]at hc)<;>try(exfalso;omega))|clear U K)<;>conv=>whnf)
  refine C5 w.parents.length (fun k (_:Unit)=>[(38,eI (Bw k))]) (fun k _=>[.box n0 (wC w (Cv w.parents k))]) (fun k _=>True) () rfl trivial hs ?_;clear hs;rintro k - σ hk - hs;have hck:Bw k=k:=AU (by omega);have hul:=Fz w.parents k;have huo:=LH w.parents k (by omega);have hw3:IntKind.i64.wrap (3+(k:Int))=3+(k:Int):=wrap64 (by omega) (by omega);rcases B0 w.parents hk with⟨row,hr,hlt⟩|hke
  ·obtain⟨r1,r2,r3⟩:=hrow k row hr
   rw[←hck]at hw3
   conv=>whnf
   repeat'((first|refine st ?_|(refine sq ?_;intro K U)|(refine si ?_;intro A B Y Z)|(refine Y _ _ ?_;clear Z B Y A)|(refine U _ _ ?_;clear U K)|refine⟨rfl,?_⟩|refine ix ?_|(refine Et (fun hc=>?_)<;>(try rw[hc])<;>clear hc)|refine Pure.use (HL 1 _ (by decide) (by omega) (by omega)) ?_|fail)<;>conv=>whnf)
   have hbig:x3 (Cv w.parents k):=huo;have hst0:IntKind.i64.wrap (3+Bw k)=3+(k:Int):=by rw[hck];exact wrap64 (by omega) (by omega)
   have hs0lt:1|||2 ^ (3+k)<18446744073709551616:=Ko (by decide) (J7 (by omega))
   have hs0e:1|||2 ^ (IntKind.i64.wrap (3+Bw k)).toNat=1|||2 ^ (3+k):=by rw[hst0,show(3+(k:Int)).toNat=3+k by omega]
   rw[hs0e];refine C5 row.length (fun j (s:Nat)=>[(48,eI (Bw j)),(8,eU s)]) (fun _ _=>[.box n0 (wC w (Cv w.parents k))]) (fun j s=>s=U5 (Cv w.parents k) (row.take j) (1|||2 ^ (3+k))) (1|||2 ^ (3+k)) rfl rfl hs ?_;clear hs;rintro j s σ hj hse hs;rcases B0 row hj with⟨c,hcj,hjlt⟩|hje
   ·obtain⟨q1,q2⟩:=r3 c (DL hcj)
    have hload:(wC w (Cv w.parents k))[0+2+c.toNat*1]? =some (eU ((Cv w.parents k).getD c.toNat 0)):=by
     have:=lJ w (Cv w.parents k) (i:=c.toNat) (by omega);rw[←this];congr 1;omega
    have hnc:(row.take j).contains c=false:=by
     rw[←Bool.not_eq_true,List.contains_iff_mem];intro hm;obtain⟨i,hi,he⟩:=List.mem_iff_getElem.1 hm;have hi':i<j:=by rw[PZ]at hi;omega
     rw[List.getElem_take]at he;have hcj':=(List.getElem?_eq_some_iff.1 hcj).2;exact absurd ((List.getElem_inj r2).1 (he.trans hcj'.symm)) (by omega)
    have hct: ∀b,Pure Tryz.prog 172 [.l (iL (row.take j)) b,eI c] (.b false):=fun b=>by
     have:=D6 (row.take j) b c
     rwa [hnc]at this
    conv=>whnf
    repeat'((first|refine st ?_|(refine sq ?_;intro K U)|(refine si ?_;intro A B Y Z)|(refine Y _ _ ?_;clear Z B Y A)|(refine U _ _ ?_;clear U K)|refine⟨rfl,?_⟩|refine ix ?_|refine sk1 ?_|refine rj ?_|refine ld ?_|refine IV ?_|(refine Et (fun hc=>?_)<;>(try rw[hc])<;>clear hc)|refine Pure.use (hct _) ?_|(rw[hload])|(constructor<;>intro hc<;>(try rw[hc])<;>(replace hc:=bp hc)<;>(try simp(disch:=omega) only[B2,wrap64,AU]at hc)<;>try(exfalso;omega))|clear U K)<;>conv=>whnf)
    refine⟨hjlt,s|||(Cv w.parents k).getD c.toNat 0,?_,?_,hs⟩
    ·have hsl:s<18446744073709551616:=by rw[hse];exact R0 huo _ _ hs0lt
     rw[LD hsl (Ra huo _)];rfl
    ·rw[hse,AR hcj]
     simp only[U5,List.foldl_append];rfl
   ·conv=>whnf
    repeat'((first|refine st ?_|(refine sq ?_;intro K U)|(refine si ?_;intro A B Y Z)|(refine Y _ _ ?_;clear Z B Y A)|(refine U _ _ ?_;clear U K)|refine⟨rfl,?_⟩|refine rj ?_|(refine F4 (fun hc=>?_)<;>(try rw[hc])<;>clear hc)|clear U K)<;>conv=>whnf)
    refine K2 hs 0 rfl rfl (by rw[Z8 w (by omega),hst0];omega) fun σ hs=>?_
    conv=>whnf
    repeat'((first|(refine si ?_;intro A B Y Z)|(refine Y _ _ ?_;clear Z B Y A)|(refine U _ _ ?_;clear U K)|refine⟨rfl,?_⟩|clear U K)<;>conv=>whnf)
    refine⟨hlt,(),rfl,trivial,?_⟩
    have e:Cv w.parents (k+1)=Cv w.parents k++[s]:=by
     rw[hse,Cv,E9,hr,hje,List.take_length];rfl
    have hst:=Z7 w (Cv w.parents k) s (by omega);rw[e,←hst];have e2:0+2+(IntKind.i64.wrap (3+Bw k)).toNat*1=2+(Cv w.parents k).length:=by rw[hst0,hul];omega
    rw[e2]at hs;exact hs
  ·have hown:=bE 178 [.p n0 0] [] (fun _=>[.box n0 (wC w (Cv w.parents k))]) (TE fun c=>decide (3≤c)&&decide (c<3+(w.parents.length:Int))) (fun _ _=>True) (fun y s _ σ hs=>C1 (Bj.mono (sc w (Cv w.parents k) y (by omega) σ hs) (by
    rintro r σ' ⟨post,⟨h1,h2⟩,h3⟩;subst h2
    exact⟨h1,h3⟩))) w.owner false () (J9 fun _ _ _=>trivial)
   rw[JV]at hown
   have hall:(w.owner.all fun c=>decide (3≤c)&&decide (c<3+(w.parents.length:Int)))=true:=by
    rw[IU];intro o hoo;have:=how o hoo;simp only[Bn,D8];exact this
   rw[hall]at hown
   conv=>whnf
   repeat'((first|refine st ?_|(refine sq ?_;intro K U)|(refine si ?_;intro A B Y Z)|(refine Y _ _ ?_;clear Z B Y A)|(refine U _ _ ?_;clear U K)|refine⟨rfl,?_⟩|(refine F4 (fun hc=>?_)<;>(try rw[hc])<;>clear hc)|clear U K)<;>conv=>whnf)
   refine hown.use (rest:=[]) hs ?_;rintro r post σ ⟨rfl,rfl⟩ hs
   conv=>whnf
   repeat'((first|refine st ?_|(refine Y _ _ ?_;clear Z B Y A)|(refine U _ _ ?_;clear U K)|fail)<;>conv=>whnf)
   rw[hke]at hs;exact H0 (σ2:=emp) (fun n o ho=>by cases ho) (.t (.cons (hs.frzB 0 rfl (.refl _ _ _)) (.cons (.refl _) .nil))) rfl
def L5 (w:AP) (f:Fact):Bool:=decide (0≤f.arg)&&(decide (f.arg<3)&&(FU w f.path&&(if f.op=2 then f.n==0&&Ph w f.cls else f.cls==0&&(decide (-1000000000≤f.n)&&decide (f.n≤1000000000)))))
def Eh (w:AP) (f:Fact):Int→Int→Bool×Int:=f.IZ fun f l left deep=>
 if IntKind.i64.wrap (left - 1)<0∨deep=0∨f.op<1∨7<f.op∨f.kids.length≠Cl f.op then(false,IntKind.i64.wrap (left - 1))else
 if CS f then(L5 w f,IntKind.i64.wrap (left - 1))else
 if f.arg≠0∨0<f.path.length∨f.cls≠0∨f.n≠0 then(false,IntKind.i64.wrap (left - 1))else
 Cx (fun(k:Int→Int→Bool×Int) s=>k s (deep - 1)) l (IntKind.i64.wrap (left - 1))
theorem LZ {α β S:Type} (g:α→β) (stp:β→S→Bool×S): ∀(l:List α) (s:S),Cx stp (l.map g) s=Cx (fun a s=>stp (g a) s) l s
 | [],_=>rfl
 | a::r,s=>by simp only[List.map_cons,Cx,LZ g stp r]
theorem HP (w:AP) (f:Fact) (left deep:Int):Eh w f left deep =
 if IntKind.i64.wrap (left - 1)<0∨deep=0∨f.op<1∨7<f.op∨f.kids.length≠Cl f.op then(false,IntKind.i64.wrap (left - 1))else
 if CS f then(L5 w f,IntKind.i64.wrap (left - 1))else
 if f.arg≠0∨0<f.path.length∨f.cls≠0∨f.n≠0 then(false,IntKind.i64.wrap (left - 1))else
 Cx (fun k s=>Eh w k s (deep - 1)) f.kids (IntKind.i64.wrap (left - 1)):=by
 rw[Eh,Fact.EU,LZ];rfl
theorem Wc {w:AP} {f:Fact} {left deep L1:Int} {b:Bool} {nL:Nat} {σ:AH} (hs:Sat σ [.box nL [eI L1]]) (h:Eh w f left deep=(b,L1)):Bf σ (.b b) fun r σ'=> ∃post:List At,(r=R.ret (.b (Eh w f left deep).1)∧post= [.box nL [eI (Eh w f left deep).2]])∧Sat σ' post:=by
 rw[h];exact AS ⟨_,⟨rfl,rfl⟩,hs⟩
set_option maxHeartbeats 4000000 in
theorem fK (w:AP) (us:List Nat) (hw1:w.parents.length≤60) (hw2:w.owner.length≤60) (nL:Nat) (f:Fact): ∀(left deep:Int),0≤deep→deep≤12→
 CL Tryz.prog 181 [.rp (wC w us),.a (xF f),.p nL 0,eI deep] [.box nL [eI left]] fun r post=>r= .ret (.b (Eh w f left deep).1)∧post= [.box nL [eI (Eh w f left deep).2]]:=by
 induction f using Fact.ind with
 | h f ih=>
   intro left deep hd0 hd1 σ hs;refine Bj.fit (by kernel_rfl) fun hf=>?_
   have⟨h2,h3,h4⟩:=Jp hf.2.1;have hM:=Mx;have hdw:IntKind.i64.wrap (deep - 1)=deep - 1:=wrap64 (by omega) (by omega);refine wK nb ?_
   have hstep:Dc Tryz.prog (.f (.func 223) [] [.rp [.rp (wC w us)],.rp [.p nL 0],.rp [eI deep]]) (fun y=> .a (xF y)) (fun s=>[.box nL [eI s]]) (fun k s=>Eh w k s (deep - 1)) (fun y _=>y∈f.kids∧deep≠0):=by
    rintro y s ⟨hy,hdn⟩ σ hs;refine C1 ?_;show Bj Tryz.prog 223 ([]++[.a (xF y)]++[.rp [.rp (wC w us)],.rp [.p nL 0],.rp [eI deep]]) σ _;refine vY nb ?_
    conv=>whnf
    repeat'((first|refine st ?_|(refine sq ?_;intro K U)|(refine si ?_;intro A B Y Z)|(refine Y _ _ ?_;clear Z B Y A)|(refine U _ _ ?_;clear U K)|refine⟨rfl,?_⟩|refine⟨nb,?_⟩|fail)<;>conv=>whnf)
    rw[hdw];refine(ih y hy s (deep - 1) (by omega) (by omega)).use (rest:=[]) hs ?_;rintro r post σ ⟨rfl,rfl⟩ hs
    conv=>whnf
    repeat'((first|refine st ?_|(refine Y _ _ ?_;clear Z B Y A)|(refine U _ _ ?_;clear U K)|fail)<;>conv=>whnf)
    exact AS ⟨rfl,hs⟩
   conv=>whnf
   repeat'((first|refine st ?_|(refine sq ?_;intro K U)|(refine si ?_;intro A B Y Z)|(refine Y _ _ ?_;clear Z B Y A)|(refine U _ _ ?_;clear U K)|refine dr ?_|refine rk ?_ ?_|exact fun s e=>by cases e;rfl|refine⟨rfl,?_⟩|refine⟨nb,?_⟩|refine ld ?_|refine Lq fun σ hs=>?_|refine Pure.use (R9 _) ?_|refine Pure.use (fZ _) ?_|refine Pure.use (cw w us _ hw1) ?_|refine Pure.use (ew w us _ _ hw2) ?_|(constructor<;>intro hc<;>(try rw[hc])<;>(replace hc:=bp hc)<;>(try simp(disch:=omega) only[B2,wrap64,AU]at hc))|clear U K)<;>conv=>whnf)
   all_goals first
    | (refine Wc hs ?_;rw[HP,if_pos (by omega)];done)
    | (refine Wc hs ?_;rw[HP,if_neg (by omega),if_pos (by assumption)];simp[L5, *];done)
    | (refine Wc hs ?_;rw[HP,if_neg (by omega),if_pos (by assumption)];simp[L5, *];intros;omega)
    | (refine Wc hs ?_;rw[HP,if_neg (by omega),if_neg (by simp[*]),if_pos (by omega)];done)
    | skip
   refine(bD 223 [] _ _ _ _ hstep f.kids false (IntKind.i64.wrap (left - 1)) h2 (J9 fun y hy _=>⟨hy,by omega⟩)).use (rest:=[]) hs ?_;have hE:=HP w f left deep;rw[if_neg (by omega),if_neg (by simp[*]),if_neg (by omega)]at hE;rw[←hE];rintro r post σ ⟨rfl,rfl⟩ hs
   conv=>whnf
   repeat'((first|refine st ?_|(refine Y _ _ ?_;clear Z B Y A)|(refine U _ _ ?_;clear U K)|fail)<;>conv=>whnf)
   exact AS ⟨_,⟨rfl,rfl⟩,hs⟩
def Kr (w:AP) (f:Fact):Bool:=(Eh w f 24 12).1
theorem Yt (w:AP) (us:List Nat) (hw1:w.parents.length≤60) (hw2:w.owner.length≤60) (f:Fact):Pure Tryz.prog 180 [.a (xF f),.rp [.rp (wC w us)]] (.b (Kr w f)):=by
 refine Pure.of ?_;refine wL nb ?_;have hs:=Sn
 conv=>whnf
 repeat'((first|refine st ?_|(refine sq ?_;intro K U)|(refine si ?_;intro A B Y Z)|(refine Y _ _ ?_;clear Z B Y A)|(refine U _ _ ?_;clear U K)|refine⟨nb,?_⟩|refine Lq fun σ hs=>?_|(intro nn hnn;generalize hg:BI _ nn _=σ;refine Fy hg fun hs=>?_;clear hg)|fail)<;>conv=>whnf)
 refine(fK w us hw1 hw2 _ f 24 12 (by omega) (by omega)).use (rest:=[]) hs ?_;rintro r post σ ⟨rfl,rfl⟩ hs
 conv=>whnf
 repeat'((first|refine st ?_|(refine Y _ _ ?_;clear Z B Y A)|(refine U _ _ ?_;clear U K)|fail)<;>conv=>whnf)
 exact AS rfl
theorem ko {g:FuncId} {fi ca:List V} {f:Fact→Bool} {xs:List Fact} (b:Bool) (hl:xs.length≤Ak) (h: ∀y∈xs,Pure Tryz.prog g (fi++[.a (xF y)]++ca) (.b (f y))):Pure Tryz.prog 179 [.l (facts xs) b,.f (.func g) fi ca] (.b (xs.all f)):=by
 have:=bD g fi ca (fun _=>[]) (fun y (_:Unit)=>(f y,())) (fun y _=>y∈xs) (fun y s hy σ hs=>C1 (Bj.mono ((h y hy).use (k:=fun v σ'=>v= .b (f y)∧Sat σ' []) (kp:=fun _ _=>False) ⟨rfl,Sat.nil⟩) (by
  rintro(v|v) σ' hq
  ·obtain⟨rfl,h⟩:=hq
   exact⟨rfl,h⟩
  ·exact hq.elim))) xs b () hl (J9 fun y hy _=>hy)
 rw[JV]at this;exact Pure.of (Bj.mono (this emp Sat.nil) fun r σ' ⟨post,⟨h1,h2⟩,h3⟩=>h1)
theorem Yv (w:AP) (us:List Nat) (hw1:w.parents.length≤60) (hw2:w.owner.length≤60) (l:List Fact) (b:Bool) (hl:l.length≤60):Pure Tryz.prog 140 [.rp (wC w us),.l (facts l) b] (.b (l.all (Kr w))):=by
 have hall:=ko (g:=180) (fi:=[]) (ca:=[.rp [.rp (wC w us)]]) (f:=Kr w) (xs:=l) b (by simp only[Ak];omega) fun y _=>Yt w us hw1 hw2 y
 refine w9 nb ?_;have hs:=Sn
 conv=>whnf
 repeat'((first|refine st ?_|(refine sq ?_;intro K U)|(refine si ?_;intro A B Y Z)|(refine Y _ _ ?_;clear Z B Y A)|(refine U _ _ ?_;clear U K)|refine Pure.use (by assumption) ?_|fail)<;>conv=>whnf)
 exact AM rfl
theorem Ww (w:AP) (hw:FZ w) (l:List Fact) (b:Bool) (hl:l.length≤60):Pure Tryz.prog 109 [.a (BQ w),.l (facts l) b] (.t [.rp (wC w (Eu w.parents)),.b (l.all (Kr w))]):=by
 have hfo:=Yv w (Eu w.parents) (by have:=hw.1.1;omega) (by have:=hw.2.1;omega) l b hl;refine xU nb ?_;have hs:=Sn
 conv=>whnf
 repeat'((first|refine st ?_|(refine sq ?_;intro K U)|(refine si ?_;intro A B Y Z)|(refine Y _ _ ?_;clear Z B Y A)|(refine U _ _ ?_;clear U K)|refine⟨nb,?_⟩|refine Pure.use (fD w hw) ?_|refine Pure.use hfo ?_|fail)<;>conv=>whnf)
 all_goals exact AM rfl
theorem ZM (w:AP) (hw:FZ w) (f:Fact):Pure Tryz.prog 170 [.a (BQ w),.a (xF f)] (eI (if Kr w f then 0 else 2)):=by
 have hfo: ∀b,Pure Tryz.prog 109 [.a (BQ w),.l [Ge f] b] (.t [.rp (wC w (Eu w.parents)),.b (Kr w f)]):=fun b=>by
  have:=Ww w hw [f] b (by simp);simpa using this
 refine wT nb ?_;have hs:=Sn
 conv=>whnf
 repeat'((first|refine st ?_|(refine sq ?_;intro K U)|(refine si ?_;intro A B Y Z)|(refine Y _ _ ?_;clear Z B Y A)|(refine U _ _ ?_;clear U K)|refine⟨nb,?_⟩|fail)<;>conv=>whnf)
 rw[Bp]at hfo;refine(hfo _).use ?_
 conv=>whnf
 repeat'((first|refine st ?_|(refine sq ?_;intro K U)|(refine si ?_;intro A B Y Z)|(refine Y _ _ ?_;clear Z B Y A)|(refine U _ _ ?_;clear U K)|refine Pure.use (Vh _) ?_|fail)<;>conv=>whnf)
 exact AM rfl
end Go.Gl
namespace Go.Gl
theorem Le {most:Int}: ∀(l:List Fact) (n:Int),(∀k∈l,∀m:Int,(Lr k:Int)≤m→Ck k m=Lr k)→n+(l.map Lr).sum≤most→Dq (l.map Ck) n most=n+(l.map Lr).sum
 | [],n,_,_=>by simp[Dq]
 | k::r,n,h,h1=>by
   simp only[List.map_cons,List.sum_cons,Dq]at *;rw[if_pos (by omega),h k (.head _) (most - n) (by omega),Le r _ (fun k' hk'=>h k' (.tail _ hk')) (by omega)];omega
theorem SW (f:Fact): ∀m:Int,(Lr f:Int)≤m→Ck f m=Lr f:=by
 induction f using Fact.ind with
 | h f ih=>
   intro m hm;rw[JR];rw[KE]at *;rw[Le f.kids 1 ih (by omega)];omega
theorem YX (f:Fact) {m:Int} (h0:0≤m):Ck f m≤m↔(Lr f:Int)≤m:=
 ⟨fun h=>by rw[←KW f m h0 h];exact h,fun h=>by rw[SW f m h];exact h⟩
theorem kR (f:Fact):1≤Lr f:=by rw[KE];omega
theorem GS {m:Int}: ∀(l:List Int) (a:Int),l.foldl Jc a≤m↔a≤m∧ ∀x∈l,x≤m
 | [],a=>by simp
 | x ::r,a=>by
   rw[List.foldl_cons,GS r];unfold Jc;constructor
   ·rintro⟨h1,h2⟩
    refine⟨by split at h1<;>omega,fun y hy=>?_⟩;rcases IF.1 hy with rfl|hy
    ·split at h1<;>omega
    ·exact h2 y hy
   ·rintro⟨h1,h2⟩
    have hx:=h2 x (.head _);exact⟨by split<;>omega,fun y hy=>h2 y (.tail _ hy)⟩
theorem cn (f:Fact) {m:Int}:EL f≤m↔1≤m∧ ∀k∈f.kids,EL k≤m - 1:=by
 rw[Hd];constructor
 ·intro h
  have:=(GS (m:=m - 1) (f.kids.map EL) 0).1 (by omega);exact⟨by omega,fun k hk=>this.2 _ (List.mem_map_of_mem hk)⟩
 ·rintro⟨h1,h2⟩
  have:=(GS (m:=m - 1) (f.kids.map EL) 0).2 ⟨by omega,fun x hx=>by
   obtain⟨k,hk,rfl⟩:=Nv.1 hx
   exact h2 k hk⟩
  omega
def Zw (w:AP) (f:Fact) (left deep:Int):Prop:=(Lr f:Int)≤left∧EL f≤deep∧CZ w f=true
theorem Qu (w:AP) {deep:Int}: ∀(l:List Fact) (left:Int),0≤left→left≤24→(∀k∈l,∀left:Int,0≤left→left≤24→((Eh w k left deep).1=true↔Zw w k left deep)∧((Eh w k left deep).1=true→(Eh w k left deep).2=left - Lr k))→
 ((Cx (fun k s=>Eh w k s deep) l left).1=true↔((l.map Lr).sum:Int)≤left∧ ∀k∈l,EL k≤deep∧CZ w k=true)∧((Cx (fun k s=>Eh w k s deep) l left).1=true→(Cx (fun k s=>Eh w k s deep) l left).2=left - ((l.map Lr).sum:Nat))
 | [],left,h0,h1,_=>by simp[Cx];exact h0
 | k ::r,left,h0,h1,h=>by
   obtain⟨ha,hb⟩:=h k (.head _) left h0 h1;simp only[Cx,List.map_cons,List.sum_cons];cases hk:(Eh w k left deep).1
   ·simp only[Mk,if_false,false_iff,false_implies,and_true]
    rintro⟨h2,h3⟩;have:=ha.2 ⟨by omega,(h3 k (.head _)).1,(h3 k (.head _)).2⟩;rw[hk]at this;cases this
   ·obtain⟨g1,g2,g3⟩:=ha.1 hk
    have hc:=kR k;rw[if_pos rfl,hb hk];obtain⟨i1,i2⟩:=Qu w r (left - Lr k) (by omega) (by omega) fun k' hk'=>h k' (.tail _ hk')
    refine⟨i1.trans ⟨fun⟨e1,e2⟩=>⟨by omega,fun x hx=>?_⟩,fun⟨e1,e2⟩=>⟨by omega,fun x hx=>e2 x (.tail _ hx)⟩⟩,fun h=>by rw[i2 h];omega⟩;rcases IF.1 hx with rfl|hx
    ·exact⟨g2,g3⟩
    ·exact e2 x hx
theorem fI (w:AP) (f:Fact): ∀left deep:Int,0≤left→left≤24→0≤deep→((Eh w f left deep).1=true↔Zw w f left deep)∧((Eh w f left deep).1=true→(Eh w f left deep).2=left - Lr f):=by
 induction f using Fact.ind with
 | h f ih=>
   intro left deep h0 h1 hd;have hw:IntKind.i64.wrap (left - 1)=left - 1:=wrap64 (by omega) (by omega);rw[HP,hw];have hc:=KE f;have hn:=Df w f;have hdl:=cn f (m:=deep)
   have hko:Da w f=true→f.kids.length=Cl f.op:=fun h=>by
    simp only[Da,Bn,FQ]at h;exact h.2.1
   have hop:Da w f=true→1≤f.op∧f.op≤7:=fun h=>by
    simp only[Da,Bn]at h;have h1:=h.1;unfold U3 at h1;split at h1
    ·omega
    split at h1
    ·omega
    simp at h1;omega
   by_cases hbad:left - 1<0∨deep=0∨f.op<1∨7<f.op∨f.kids.length≠Cl f.op
   ·rw[if_pos hbad]
    simp only[Mk,false_iff,false_implies,and_true];rintro⟨g1,g2,g3⟩;rw[hn,Bn]at g3;have g4:=hko g3.1;have g5:=hop g3.1;have g6:=(hdl.1 g2).1;omega
   rw[if_neg hbad];by_cases hl:CS f=true
   ·rw [if_pos hl]
    have hl':f.op=2∨f.op=3∨f.op=4:=by
     simp only[CS,Bool.or_eq_true,FQ]at hl;omega
    have hk0:f.kids= []:=by
     have:f.kids.length=Cl f.op:=by omega
     rw[Cl,if_neg (by omega),if_neg (by omega)]at this;exact List.length_eq_zero_iff.1 this
    have hd1:EL f=1:=by rw[Hd,hk0];rfl
    have hc1:Lr f=1:=by rw[hc,hk0];rfl
    have hh:Da w f=L5 w f:=by
     unfold Da U3 L5;rw[hl,hk0];have e:Cl f.op=0:=by rw[Cl,if_neg (by omega),if_neg (by omega)]
     rw[e];simp only[List.length_nil,beq_self_eq_true,Bool.true_and,Bool.true_or,Bool.and_true];rcases hl' with e|e|e
     ·rw[if_pos e,if_pos e]
      cases(f.n==0&&Ph w f.cls)<;>simp
     ·rw[if_neg (show¬f.op=2 by omega),if_neg (show¬f.op=2 by omega),if_pos (show f.op=3∨f.op=4 from .inl e)]
      cases(f.cls==0&&(decide (-1000000000≤f.n)&&decide (f.n≤1000000000)))<;>simp
     ·rw[if_neg (show¬f.op=2 by omega),if_neg (show¬f.op=2 by omega),if_pos (show f.op=3∨f.op=4 from .inr e)]
      cases(f.cls==0&&(decide (-1000000000≤f.n)&&decide (f.n≤1000000000)))<;>simp
    refine⟨⟨fun h=>⟨by omega,by omega,?_⟩,fun⟨_,_,h⟩=>?_⟩,fun _=>by dsimp only;omega⟩
    ·rw[hn,hk0,hh];simpa using h
    ·rw[hn,hk0,hh]at h;simpa using h
   ·have hl':f.op=1∨f.op=5∨f.op=6∨f.op=7:=by
     simp only[CS,Bool.or_eq_true,FQ]at hl;omega
    have hlf:CS f=false:=by simpa using hl
    rw[if_neg hl];by_cases hz:f.arg≠0∨0<f.path.length∨f.cls≠0∨f.n≠0
    ·rw[if_pos hz]
     simp only[Mk,false_iff,false_implies,and_true];rintro⟨g1,g2,g3⟩;rw[hn,Bn]at g3;have g4:=g3.1;simp only[Da,hlf,Bool.false_or,Bn,FQ]at g4;omega
    ·rw [if_neg hz]
     obtain⟨i1,i2⟩:=Qu w (deep:=deep - 1) f.kids (left - 1) (by omega) (by omega) fun k hk left hl0 hl1=>ih k hk left (deep - 1) hl0 hl1 (by omega)
     have hh:Da w f=true:=by
      have hp:f.path= []:=List.length_eq_zero_iff.1 (by omega)
      have e1:U3 w f=true:=by
       unfold U3;rw[if_neg (by omega),if_neg (by omega)];simp only[Bool.or_eq_true,FQ];omega
      have z1:f.arg=0:=by omega
      have z2:f.cls=0:=by omega
      have z3:f.n=0:=by omega
      have z4:f.kids.length=Cl f.op:=by omega
      simp[Da,e1,hlf,hp,z1,z2,z3,z4,FU]
     refine⟨i1.trans ⟨fun⟨e1,e2⟩=>⟨by omega,hdl.2 ⟨by omega,fun k hk=>(e2 k hk).1⟩,?_⟩,fun⟨g1,g2,g3⟩=>⟨by omega,fun k hk=>⟨(hdl.1 g2).2 k hk,?_⟩⟩⟩,fun h=>by rw[i2 h];omega⟩
     ·rw[hn,hh,Bool.true_and,IU]
      exact fun k hk=>(e2 k hk).2
     ·rw[hn,hh,Bool.true_and,IU]at g3
      exact g3 k hk
theorem XQ (w:AP) (f:Fact):Kr w f=Ev w f:=by
 have:=(fI w f 24 12 (by omega) (by omega) (by omega)).1;rw[Kr,Ev,Bool.eq_iff_iff,this,Zw];simp only[Bn,D8];rw[YX f (by omega)]
end Go.Gl
namespace Go.Gl
open Go.Proofs
attribute [local irreducible] Bj Bf Ba Al Aa BS Ao Aq Ac BO Ah Ap Bz CA Sat A7 B8 Be W
theorem LU {p:Prog} (h:BC p=true):FZ (Ae p)∧B3 p.AO≤40∧p.AO.length≤10:=by
 have h1:=h;rw[PT]at h1;simp only[Bn,D8]at h1;have h2:=h;simp only[BC,Bn,D8]at h2;have hm:=(FF _ _ h2.2.1).1;refine⟨⟨D4 h1.2.2.2.1,?_,fun o ho=>?_⟩,by omega,h1.1⟩
 ·rw[Ae,Cn];omega
 ·have:=Fx ho
  simp only[Ae,A4,B2];omega
def dQ (s:List Int):Prop:= ∀x∈s,(-1:Int)≤x
theorem fp {s:List Int} (h:dQ s) (i:Nat) {x:Int} (hx:0≤x):dQ (s.set i x):=fun y hy=>by
 rcases List.mem_or_eq_of_mem_set hy with hy|rfl
 ·exact h y hy
 ·omega
theorem Ty {f:Int→Int→List Int→Option (List Int)} (hf: ∀ {a b s s'},0≤b→f a b s=some s'→dQ s→dQ s') {op size:Int} (h0:0≤size): ∀(i:Nat) (l:List Int) {s s':List Int},FY f op size i l s=some s'→dQ s→dQ s'
 | _,[],s,s',h,hs=>by cases h;exact hs
 | i,k::r,s,s',h,hs=>by
   simp only[FY]at h;split at h
   ·cases h
   ·rename_i s1 h1
    refine Ty hf h0 (i+1) r h (hf ?_ h1 hs);split<;>omega
theorem LF {p:Prog} {next:Bool}: ∀(d:Nat) {n size:Int} {s s':List Int},0≤size→Ce p next d n size s=some s'→dQ s→dQ s'
 | 0,_,_,_,_,_,h,_=>by cases h
 | d + 1,n,size,s,s',h0,h,hs=>by
   simp only[Ce]at h;split at h
   ·cases h
   ·split at h
    ·cases h
    ·split at h
     ·exact Ty (fun hb h hs=>LF d hb h hs) h0 0 _ h (fp hs _ h0)
     ·cases h
theorem fq {s:List Int} (h:dQ s):(s.all fun n=>decide (0≤n))= !s.contains (-1):=by
 rw[Bool.eq_iff_iff];simp only[IU,D8,Bool.not_eq_true',←Bool.not_eq_true,List.contains_iff_mem];constructor
 ·intro h1 h2
  have:=h1 _ h2;omega
 ·intro h1 x hx
  have:=h x hx;rcases Int.lt_or_le x 0 with hlt|hle
  ·exact absurd ((show x= -1 by omega) ▸ hx) h1
  ·exact hle
def xm (p:Prog) (nO:Nat) (r:R) (σ:AH):Prop:=
 match Bx p with
 | some s=>r= .ret (.t [])∧ ∃v,Sat σ [.box nO [v],.own v 1 (iL s)]
 | none=>r= .By D2∧ ∃v s,Sat σ [.box nO [v],.own v 1 (iL s)]
theorem Xu {p:Prog} {nO:Nat} {σ:AH} {v:V} {s:List Int} {l:List At} (h:Bx p=none) (hs:Sat σ l) (hsub: [At.box nO [v],.own v 1 (iL s)].Sublist l):Ba σ D2 (xm p nO):=DY (by
 rw[xm,h]
 exact⟨rfl,v,s,hs.less hsub⟩)
theorem szT {p:Prog} {nO:Nat} {σ:AH} {v:V} {s:List Int} {l:List At} (h:Bx p=some s) (hs:Sat σ l) (hsub: [At.box nO [v],.own v 1 (iL s)].Sublist l):Bf σ (.t []) (xm p nO):=AS (by
 rw[xm,h]
 exact⟨rfl,v,hs.less hsub⟩)
theorem Re {p:Prog} (h:DN p=false):Bx p=none:=by unfold Bx;rw[h];rfl
theorem kZ {w:AP} {f:Fact} (h:Ev w f=true):P3 f=true:=PA (w:=w) f (by simp only[Ev,Bn]at h;exact h.2.2)
theorem V5 {w:AP} (hw:FZ w) (f:Fact):Pure Tryz.prog 170 [.a (BQ w),.a (xF f)] (eI (if Ev w f then 0 else 2)):=by
 rw[←XQ];exact ZM w hw f
theorem YS {α:Type} (a b c:α): [a,b,c].Perm [c,b,a]:=by simpa using(List.reverse_perm [a,b,c]).symm
set_option maxHeartbeats 4000000 in
theorem bo (p : Prog) (nO:Nat) (σ:AH) (hs:Sat σ [.box nO [.l [] true]]):Bj Tryz.prog 162 [.rp (Br p),.p nO 0] σ (xm p nO):=by
 refine Bj.fit (by kernel_rfl) fun hf=>?_
 have hM:=Mx
 have hfp:E3 (.a (Br p)):=by
  have:=hf.1;simp only[SL]at this;simpa only[G0]using this
 have⟨p1,p2,p3,p4⟩:=Gb hfp;refine wa nb ?_;have hcl:=WQ p;replace hs:Sat σ [.box nO [.l [] true],.own (.l [] true) 1 (iL [])]:=Hl hs 1;cases hcB:BC p with
 | false=>
   rw[hcB]at hcl
   conv=>whnf
   repeat'((first|refine st ?_|(refine sq ?_;intro K U)|(refine si ?_;intro A B Y Z)|refine⟨nb,?_⟩|fail)<;>conv=>whnf)
   refine hcl.use (pre:=[]) (rest:=[.box nO [.l [] true],.own (.l [] true) 1 (iL [])]) hs ?_;rintro r post σ ⟨rfl,rfl⟩ hs
   conv=>whnf
   repeat'((first|(refine Z _ _ _ ?_;clear Z B Y A)|clear U K)<;>conv=>whnf)
   exact Xu (Re (by simp[DN,hcB])) hs (.refl _)
 | true=>
   rw[hcB]at hcl;obtain⟨hgW,hmS,h10⟩:=LU hcB
   conv=>whnf
   repeat'((first|refine st ?_|(refine sq ?_;intro K U)|(refine si ?_;intro A B Y Z)|refine⟨nb,?_⟩|fail)<;>conv=>whnf)
   refine hcl.use (pre:=[]) (rest:=[.box nO [.l [] true],.own (.l [] true) 1 (iL [])]) hs ?_;clear hs;rintro r post σ ⟨rfl,rfl⟩ hs
   conv=>whnf
   repeat'((first|refine st ?_|(refine sq ?_;intro K U)|(refine si ?_;intro A B Y Z)|(refine Y _ _ ?_;clear Z B Y A)|(refine Z _ _ _ ?_;clear Z B Y A)|(refine U _ _ ?_;clear U K)|refine⟨rfl,?_⟩|(refine C4 (fun hc=>?_) (fun hc=>?_)<;>(replace hc:=bp hc)<;>(try simp(disch:=omega) only[B2,wrap64,AU]at hc)<;>(try(cases hc;done)))|(constructor<;>intro hc<;>(try rw[hc])<;>(replace hc:=bp hc)<;>(try simp(disch:=omega) only[B2,wrap64,AU]at hc))|clear U K)<;>conv=>whnf)
   rotate_left
   all_goals first
    | exact Xu (Re (by simp[DN, *];intros;omega)) hs (.refl _)
    | skip
   have a1:p.EA.length≤8:=by omega
   have a2:p.methods.length≤16:=by omega
   have a3:1≤p.nodes.length:=by omega
   have a4:p.nodes.length≤120:=by omega
   have hg:DN p=p.EA.all fun g=>decide (1≤g)&&decide (g≤3):=by
    simp only[DN,a1,a2,a3,a4,decide_true,Bool.true_and];simp[*]
   refine C5 p.EA.length (fun k (_:Unit)=>[(36,eI (Bw k))]) (fun _ _=>[.box nO [.l [] true],.own (.l [] true) 1 (iL [])]) (fun k _=>DN p=(p.EA.drop k).all fun g=>decide (1≤g)&&decide (g≤3)) () rfl (by simpa using hg) hs ?_;clear hs hg;rintro k - σ hk hn hs;rcases B0 p.EA hk with⟨g,hgk,hlt⟩|hke
   ·rw[drop_cons hgk,List.all_cons]at hn
    conv=>whnf
    repeat'((first|refine st ?_|(refine sq ?_;intro K U)|(refine si ?_;intro A B Y Z)|(refine Y _ _ ?_;clear Z B Y A)|(refine Z _ _ _ ?_;clear Z B Y A)|(refine U _ _ ?_;clear U K)|refine⟨rfl,?_⟩|refine ix ?_|(refine Et (fun hc=>?_)<;>(try rw[hc])<;>clear hc)|(refine C4 (fun hc=>?_) (fun hc=>?_)<;>(replace hc:=bp hc)<;>(try simp(disch:=omega) only[B2,wrap64,AU]at hc)<;>(try(cases hc;done)))|(constructor<;>intro hc<;>(try rw[hc])<;>(replace hc:=bp hc))|clear U K)<;>conv=>whnf)
    ·exact⟨hlt,(),rfl,by rw[hn];simp[*],hs⟩
    ·exact Xu (Re (by rw[hn,decide_eq_false (show¬g≤3 by omega)];simp)) hs (.refl _)
    ·exact Xu (Re (by rw[hn,decide_eq_false (show¬1≤g by omega)];simp)) hs (.refl _)
   ·have hh : DN p=true:=by rw[hn,Ax hke];rfl
    have hL:=XF hh;clear hn
    conv=>whnf
    repeat'((first|refine st ?_|(refine sq ?_;intro K U)|(refine si ?_;intro A B Y Z)|(refine Y _ _ ?_;clear Z B Y A)|(refine U _ _ ?_;clear U K)|refine⟨rfl,?_⟩|(refine F4 (fun hc=>?_)<;>(try rw[hc])<;>clear hc)|clear U K)<;>conv=>whnf)
    rw[B2];refine(YL p.nodes.length a3 a4).use (pre:=[]) (rest:=[.box nO [.l [] true],.own (.l [] true) 1 (iL [])]) hs ?_;clear hs;rintro r post σ ⟨v,rfl,rfl,hv⟩ hs
    conv=>whnf
    repeat'((first|refine st ?_|(refine sq ?_;intro K U)|(refine si ?_;intro A B Y Z)|(refine Y _ _ ?_;clear Z B Y A)|(refine U _ _ ?_;clear U K)|refine⟨nb,?_⟩|refine Lq fun σ hs=>?_|refine Hi fun σ hs=>?_|refine Pure.use (TS p (by omega) (by omega)) ?_|(intro nn hnn;generalize hg:BI _ nn _=σ;refine Fy hg fun hs=>?_;clear hg)|fail)<;>conv=>whnf)
    rename_i nw hnw _ hs;generalize nn=n5 at *;replace hs:=hs.less (show [At.box n5 (BQ (Ae p)),.own v 1 (iL (List.replicate p.nodes.length (-1))),.box nO [v]].Sublist _ from .cons₂ _ (.cons₂ _ (.cons₂ _ (.cons _ .slnil))));refine C5 p.methods.length (fun k (s:List Int)=>[(59,eI (Bw k))]) (fun _ s=>[.box nO [v],.own v 1 (iL s),.box n5 (BQ (Ae p))]) (fun k s=>s.length=p.nodes.length∧dQ s∧Bx p=Jn p (runM p (p.methods.drop k) s)) (List.replicate p.nodes.length (-1)) rfl ⟨by simp,fun x hx=>by rw[List.eq_of_mem_replicate hx];omega,hL⟩ (hs.perm (YS _ _ _)) ?_;clear hs hnw hnn;rintro k s σ hk ⟨hl,hge,hn⟩ hs;rcases B0 p.methods hk with⟨m,hm,hlt⟩|hke
    ·have hF:=V5 hgW m.fact
     cases hfB:Ev (Ae p) m.fact with
     | false=>
       rw[hfB,if_neg Bool.false_ne_true]at hF;have hno:=Dk hm hn (by simp[Pa,hfB])
       conv=>whnf
       repeat'((first|refine st ?_|(refine sq ?_;intro K U)|(refine si ?_;intro A B Y Z)|(refine Y _ _ ?_;clear Z B Y A)|(refine Z _ _ _ ?_;clear Z B Y A)|(refine Z _ _ fun σ hsub=>?_;clear Z B Y A)|(refine U _ _ ?_;clear U K)|refine dr ?_|refine rk ?_ ?_|exact fun s e=>by cases e;rfl|refine⟨rfl,?_⟩|refine⟨nb,?_⟩|refine ix ?_|refine ld ?_|refine Hi fun σ hs=>?_|(refine Et (fun hc=>?_)<;>(try rw[hc])<;>clear hc)|(refine C4 (fun hc=>?_) (fun hc=>?_)<;>(replace hc:=bp hc)<;>(try simp(disch:=omega) only[B2,wrap64,AU]at hc)<;>(try(cases hc;done)))|refine Pure.use hF ?_|(constructor<;>intro hc<;>(try rw[hc])<;>(replace hc:=bp hc)<;>try(exfalso;omega))|(intro nn hnn;generalize hg:BI _ nn _=σ;refine Fy hg fun hs=>?_;clear hg)|clear U K)<;>conv=>whnf)
       all_goals first
        | (refine Xu (v:=v) (s:=s) hno hs ?_;(repeat first|exact List.nil_sublist _|apply List.Sublist.cons₂|apply List.Sublist.cons);done)
        | (refine Xu (v:=v) (s:=s) hno (hs.up (by assumption)) ?_;(repeat first|exact List.nil_sublist _|apply List.Sublist.cons₂|apply List.Sublist.cons);done)
        | skip
     | true=>
       rw[hfB,if_pos rfl]at hF;have hsp:=YH _ (kZ hfB)
       conv=>whnf
       repeat'((first|refine st ?_|(refine sq ?_;intro K U)|(refine si ?_;intro A B Y Z)|(refine Y _ _ ?_;clear Z B Y A)|(refine Z _ _ _ ?_;clear Z B Y A)|(refine Z _ _ fun σ hsub=>?_;clear Z B Y A)|(refine U _ _ ?_;clear U K)|refine dr ?_|refine rk ?_ ?_|exact fun s e=>by cases e;rfl|refine⟨rfl,?_⟩|refine⟨nb,?_⟩|refine ix ?_|refine Sp ?_|refine iq fun x hx=>?_|refine ld ?_|refine Hi fun σ hs=>?_|(refine Et (fun hc=>?_)<;>(try rw[hc])<;>clear hc)|(refine C4 (fun hc=>?_) (fun hc=>?_)<;>(replace hc:=bp hc)<;>(try simp(disch:=omega) only[B2,wrap64,AU]at hc)<;>(try(cases hc;done)))|refine Pure.use hF ?_|refine Pure.use hsp ?_|(constructor<;>intro hc<;>(try rw[hc])<;>(replace hc:=bp hc)<;>(try simp(disch:=omega) only[B2,wrap64,AU]at hc)<;>try(exfalso;omega))|(intro nn hnn;generalize hg:BI _ nn _=σ;refine Fy hg fun hs=>?_;clear hg)|clear U K)<;>conv=>whnf)
       all_goals first
        | (refine Xu (v:=v) (s:=s) (Dk hm hn ?_) hs ?_;(simp[Pa, *];intros;omega);(repeat first|exact List.nil_sublist _|apply List.Sublist.cons₂|apply List.Sublist.cons);done)
        | (refine Xu (v:=v) (s:=s) (Dk hm hn ?_) (hs.up (by assumption)) ?_;(simp[Pa, *];intros;omega);(repeat first|exact List.nil_sublist _|apply List.Sublist.cons₂|apply List.Sublist.cons);done)
        | skip
       rotate_left 2
       ·refine Xu (v:=v) (s:=s) (Dk hm hn ?_) (hs.up (by assumption)) ?_
        ·simp only[Pa,show p.EA.getD m.gen.toNat 0=x by rw[E9,hx];rfl,decide_eq_false (show¬Gw m.fact≤x by omega),Bool.and_false]
        ·repeat first|exact List.nil_sublist _|apply List.Sublist.cons₂|apply List.Sublist.cons
       all_goals
        have hx13:=Qb hh hx;have hgd:p.EA.getD m.gen.toNat 0=x:=by rw[E9,hx];rfl
        have hok:Pa p m=true:=by simp only[Pa,hgd,Bn,D8];exact⟨by omega,by omega,by omega,by omega,hfB,by assumption⟩
        have hgo:=fun s'=>Ws (s':=s') hm hn hok
        have hno:=QH hm hn hok;rw[hgd]at hgo hno
       ·have hnb:Jl m.kind=(m.kind==4):=by simp[Jl, *]
        rw[hnb]at hgo hno;refine C1 ((SP p (m.kind==4) hv m.node x s (by omega) (by omega) hl [.box n5 (BQ (Ae p))] σ (hs.less (.cons _ (.refl _)))).mono ?_);cases hw:Ce p (m.kind==4) 12 m.node x s with
        | none=>
          clear hs;rintro r σ' ⟨rfl,s',hl',hs⟩
          conv=>whnf
          repeat'((first|(refine Z _ _ fun σ hsub=>?_;clear Z B Y A)|clear U K)<;>conv=>whnf)
          exact Xu (v:=v) (s:=s') (hno hw) (hs.up (by assumption)) (.cons₂ _ (.cons₂ _ (List.nil_sublist _)))
        | some s2=>
          clear hs;rintro r σ' ⟨rfl,hs⟩
          conv=>whnf
          repeat'((first|(refine si ?_;intro A B Y Z)|(refine Y _ _ ?_;clear Z B Y A)|(refine U _ _ ?_;clear U K)|refine dr ?_|refine⟨rfl,?_⟩|clear U K)<;>conv=>whnf)
          exact⟨hlt,s2,rfl,⟨(JN _ hw).trans hl,LF _ (by omega) hw hge,hgo s2 hw⟩,hs⟩
       ·have hnb:Jl m.kind=true:=by simp[Jl, *]
        rw[hnb]at hgo hno;refine C1 ((SP p true hv m.node x s (by omega) (by omega) hl [.box n5 (BQ (Ae p))] σ (hs.less (.cons _ (.refl _)))).mono ?_);cases hw:Ce p true 12 m.node x s with
        | none=>
          clear hs;rintro r σ' ⟨rfl,s',hl',hs⟩
          conv=>whnf
          repeat'((first|(refine Z _ _ fun σ hsub=>?_;clear Z B Y A)|clear U K)<;>conv=>whnf)
          exact Xu (v:=v) (s:=s') (hno hw) (hs.up (by assumption)) (.cons₂ _ (.cons₂ _ (List.nil_sublist _)))
        | some s2=>
          clear hs;rintro r σ' ⟨rfl,hs⟩
          conv=>whnf
          repeat'((first|(refine si ?_;intro A B Y Z)|(refine Y _ _ ?_;clear Z B Y A)|(refine U _ _ ?_;clear U K)|refine dr ?_|refine⟨rfl,?_⟩|clear U K)<;>conv=>whnf)
          exact⟨hlt,s2,rfl,⟨(JN _ hw).trans hl,LF _ (by omega) hw hge,hgo s2 hw⟩,hs⟩
    ·subst hke
     rw[List.drop_length,runM]at hn
     conv=>whnf
     repeat'((first|refine st ?_|(refine sq ?_;intro K U)|(refine si ?_;intro A B Y Z)|(refine Y _ _ ?_;clear Z B Y A)|(refine U _ _ ?_;clear U K)|refine⟨rfl,?_⟩|refine⟨nb,?_⟩|refine ix ?_|refine ld ?_|refine Hi fun σ hs=>?_|(refine fc (fun x hx hlt hc=>?_) (fun hk hc=>?_)<;>(try rw[hc])<;>clear hc)|(constructor<;>intro hc<;>(try rw[hc])<;>(replace hc:=bp hc)<;>try(exfalso;omega))|(intro nn hnn;generalize hg:BI _ nn _=σ;refine Fy hg fun hs=>?_;clear hg)|clear U K)<;>conv=>whnf)
     rw[Jn]at hn;refine C1 ((SP p false hv p.main 0 s (by omega) (by omega) hl [.box n5 (BQ (Ae p))] σ hs).mono ?_);cases hw:Ce p false 12 p.main 0 s with
     | none=>
       rw[hw]at hn;clear hs;rintro r σ' ⟨rfl,s',hl',hs⟩
       conv=>whnf
       repeat'((first|(refine Z _ _ _ ?_;clear Z B Y A)|clear U K)<;>conv=>whnf)
       exact Xu (v:=v) (s:=s') hn hs (.cons₂ _ (.cons₂ _ (List.nil_sublist _)))
     | some s2=>
       rw[hw]at hn;have hge2:=LF _ (by omega) hw hge;simp only[fq hge2]at hn;clear hs;rintro r σ' ⟨rfl,hs⟩;have hct:=fun f=>D6 s2 f (-1)
       cases hyes:s2.contains (-1)with
       | true=>
         rw[hyes]at hct hn
         conv=>whnf
         repeat'((first|(refine si ?_;intro A B Y Z)|(refine Y _ _ ?_;clear Z B Y A)|(refine U _ _ ?_;clear U K)|refine ld ?_|fail)<;>conv=>whnf)
         refine Pure.X1 (hct false) (.cons (hs.I9 1 rfl) (.cons (.refl _) .nil)) rfl ?_
         conv=>whnf
         repeat'((first|(refine Z _ _ _ ?_;clear Z B Y A)|(refine C4 (fun hc=>?_) (fun hc=>?_)<;>(replace hc:=bp hc)<;>(try simp(disch:=omega) only[B2,wrap64,AU]at hc)<;>(try(cases hc;done)))|fail)<;>conv=>whnf)
         all_goals exact Xu (v:=v) (s:=s2) hn (by first|exact hs|exact hs.up (by assumption)) (.cons₂ _ (.cons₂ _ (List.nil_sublist _)))
       | false=>
         rw[hyes]at hct hn
         conv=>whnf
         repeat'((first|(refine si ?_;intro A B Y Z)|(refine Y _ _ ?_;clear Z B Y A)|(refine U _ _ ?_;clear U K)|refine ld ?_|fail)<;>conv=>whnf)
         refine Pure.X1 (hct false) (.cons (hs.I9 1 rfl) (.cons (.refl _) .nil)) rfl ?_
         conv=>whnf
         repeat'((first|(refine Y _ _ ?_;clear Z B Y A)|(refine C4 (fun hc=>?_) (fun hc=>?_)<;>(replace hc:=bp hc)<;>(try simp(disch:=omega) only[B2,wrap64,AU]at hc)<;>(try(cases hc;done)))|fail)<;>conv=>whnf)
         all_goals exact szT (v:=v) hn hs (.cons₂ _ (.cons₂ _ (List.nil_sublist _)))
end Go.Gl
namespace Go.Gl
variable {P:Program} {σ:AH}
theorem ZN {v:V} {Q Q':R→AH→Prop} (h:Bf σ v Q) (hq: ∀r σ,Q r σ→Q' r σ):Bf σ v Q':=by
 obtain⟨vf,s2,h1,h2,h3⟩:=h;exact⟨vf,s2,h1,h2,hq _ _ h3⟩
theorem Dc.more {α S:Type} {g:FuncId} {fi ca:List V} {ea:α→V} {H:S→List At} {stp:α→S→Bool×S} {D:α→S→Prop} (h:Dc P (.f (.func g) fi ca) ea H stp D) (pre:List At):Dc P (.f (.func g) fi ca) ea (fun s=>pre++H s) stp D:=fun y s hd σ hs=>by
 have h1:CL P g (fi++[ea y]++ca) (H s) fun r post=>r= .ret (.b (stp y s).1)∧post=H (stp y s).2:=fun σ hs=>Bj.mono (h y s hd σ hs) fun r σ' ⟨e,h2⟩=>⟨_,⟨e,rfl⟩,h2⟩
 refine C1 (h1.use (rest:=pre) (hs.perm List.perm_append_comm) ?_);rintro r post σ' ⟨rfl,rfl⟩ hs';exact⟨rfl,hs'.perm List.perm_append_comm⟩
def Mt {α S:Type} (P:Program) (x:V) (ea:α→V) (H:S→List At) (f:α→Bool) (J:S→Prop) (D:α→Prop):Prop:=
 ∀y s,D y→J s→ ∀σ,Sat σ (H s)→Bz P x [ea y] σ fun r σ'=>r= .ret (.b (f y))∧ ∃s',J s'∧Sat σ' (H s')
theorem Mt.use {α S:Type} {x:V} {ea:α→V} {H:S→List At} {f:α→Bool} {J:S→Prop} {D:α→Prop} (h:Mt P x ea H f J D) {y:α} {s:S} (hd:D y) (hj:J s) (hs:Sat σ (H s)) {k kp:V→AH→Prop} (hk: ∀s' σ',J s'→Sat σ' (H s')→k (.b (f y)) σ'):Bz P x [ea y] σ (qk k kp):=
 (h y s hd hj σ hs).mono fun r σ' ⟨e,s',hj',h'⟩=>by rw[e];exact hk s' σ' hj' h'
def Mr {α:Type} (f:α→Bool):List α→Nat→Int
 | [],_=> -1
 | y::r,k=>if f y then(k:Int)else Mr f r (k+1)
theorem T6 {α:Type} (f:α→Bool): ∀(xs:List α) (k:Nat),decide (Mr f xs k≥0)=xs.any f
 | [],_=>rfl
 | y::r,k=>by
   rw[Mr,List.any_cons];cases f y
   ·exact T6 f r (k+1)
   ·simp
end Go.Gl
