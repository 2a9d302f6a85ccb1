import Derived.Test.YtijbpgdmpejgoaaGreatV12
import Derived.Test.YtijbpgdmpejgoaaGreatV17
import Derived.Test.YtijbpgdmpejgoaaGreatV18
import Derived.Test.YtijbpgdmpejgoaaGreatV19
set_option linter.all false
noncomputable section
namespace Go.Gl
open Go.Proofs
attribute [local irreducible] BL A4 Aj AW AM Ai AV AX AN Ah AS AU A8 BJ Sat Ac BF Ak W
theorem vP (c:Int):Pure Tryz.prog 74 [eI c] (.a [eI 2,eI 0,.l [] true,eI c,eI 0,.l [] true]):=by
 refine qP nb ?_;have hs:=Sn
 conv=>whnf
 repeat'((first|apply st|(apply sq;intro K U)|(apply si;intro A B Y Z)|(apply Y;clear Z B Y A)|(apply U;clear U K)|refine⟨nb,?_⟩|refine ld ?_|refine Dm fun σ hs=>?_|(intro nn hnn;generalize hg:BC _ nn _=σ;refine Cm hg fun hs=>?_;clear hg)|fail)<;>conv=>whnf)
 all_goals exact AI rfl
def uu (k:Nat):Int:=if k<3 then 1 else if k<5 then 2 else 3
def xS (k:Nat):Int:=if k=3 then 1 else 2
def xT (k:Nat):Int:=if k=0 then 3 else if k=1 then 4 else if k=2 then 5 else if k=3 then 0 else if k=4 then 4 else if k=5 then 3 else 4
def mR (b:Bool) (k:Nat):List V:=[eI (uu k),eI 0,eI (xS k),eI 0,.l [] b,eI (xT k),eI 0,.l [] b,eI (A6 k)]
def fR (k:Nat):List V:=[eI (xS k),eI 0,.l [] true,eI (xT k),eI 0,.l [] true]
def nR (b:Bool) (_:Nat):List V:=[eI 2,eI 0,.l [] b]
theorem fI:EP (mR true) 9:=fun x=>⟨rfl,fun v hv=>by
 simp only[mR,GB,List.not_mem_nil,or_false]at hv
 rcases hv with rfl|rfl|rfl|rfl|rfl|rfl|rfl|rfl|rfl<;>rfl⟩
theorem W0:EP (nR true) 3:=fun x=>⟨rfl,fun v hv=>by
 simp only[nR,GB,List.not_mem_nil,or_false]at hv
 rcases hv with rfl|rfl|rfl<;>rfl⟩
abbrev dg:V:= .l [[.l [] true,.l [] true,.l [] true],[.l [[eI 3]] true,.l [] true,.l [] true],[.l [[eI 3]] true,.l [] true,.l [] true],[.l [[eI 4],[eI 5]] true,.l [] true,.l [] true]] true
theorem cO {σ:AH}:Gq σ emp dg (.l (PV.AQ.map Pd) false):=
 .l (fun h=>by cases h) (.cons (.cons CH (.cons CH (.cons CH .nil))) (.cons (.cons Nr (.cons CH (.cons CH .nil))) (.cons (.cons Nr (.cons CH (.cons CH .nil))) (.cons (.cons Nr (.cons CH (.cons CH .nil))) .nil))))
theorem ji {σ:AH} (k:Nat):Dq σ emp (mR true k) (mR false k):= .cons (.refl _) (.cons (.refl _) (.cons (.refl _) (.cons (.refl _) (.cons CH (.cons (.refl _) (.cons (.refl _) (.cons CH (.cons (.refl _) .nil))))))))
theorem jf {σ:AH} (k:Nat):Dq σ emp (nR true k) (nR false k):= .cons (.refl _) (.cons (.refl _) (.cons CH .nil))
set_option maxHeartbeats 4000000 in
theorem vS:Pure Tryz.prog 48 [] (.a (BK PV)):=by
 refine Pure.of ?_;have hM:=Mx;refine qb nb ?_;have hs:=Sn
 conv=>whnf
 repeat'((first|apply st|(apply sq;intro K U)|(apply si;intro A B Y Z)|(apply Y;clear Z B Y A)|(apply U;clear U K)|refine Dm fun σ hs=>?_|refine Pure.use (vP _) ?_|(intro nn hnn;generalize hg:BC _ nn _=σ;refine Cm hg fun hs=>?_;clear hg)|fail)<;>conv=>whnf)
 rename_i n0 _ _ _ _ _;refine B4 (List.range 7).length (fun k (_:V×V)=>[(2,.l ((List.range 7).map fun k=>[eI (uu k)]) true),(3,.l ((List.range 7).map fR) true),(4,eI (A6 k))]) (fun k x=>[.box nn [dg,eI 0,.l [[eI 1]] true,x.1,x.2,eI 0],.box n0 [.l [] true,eI 0,.l [] true,.l [] true,.l [] true,eI 0],.own x.1 9 ((List.range k).map (mR true)),.own x.2 3 ((List.range k).map (nR true))]) (fun _ _=>True) (.l [] true,.l [] true) rfl trivial (Ey (Ey hs 9) 3) ?_;clear hs;rintro k ⟨v,u⟩ σ hk - hs;dsimp only at hs;have hr7:(List.range 7).length=7:=u4;have hlr:(List.range k).length=k:=u4;rcases BH (List.range 7) hk with⟨y,hy,hlt⟩|hke
 ·obtain rfl:k=y:=by
   have h:=(Hi.1 hy).2;rw[List.getElem_range]at h;exact h
  have hck:A6 k=k:=AL (by omega);have e1:(List.range (k+1)).map (mR true)=(List.range k++[k]).map (mR true):=by rw[List.range_succ]
  have e2:(List.range (k+1)).map (nR true)=(List.range k++[k]).map (nR true):=by rw[List.range_succ]
  have hll:(List.range k).length<Ad∧((List.range k).length+1)*104≤140737488355328:=by omega
  have hl2:(List.range k).length<Ad∧((List.range k).length+1)*40≤140737488355328:=by omega
  generalize List.range k=ks at *
  conv=>whnf
  repeat'((first|apply st|(apply sq;intro K U)|(apply si;intro A B Y Z)|(apply Y;clear Z B Y A)|(apply U;clear U K)|apply dr|refine⟨rfl,?_⟩|refine⟨nb,?_⟩|refine ix ?_|refine ld ?_|refine FB fun σ hs=>?_|(refine CS (fun hc=>?_)<;>(try rw[hc])<;>clear hc)|refine aq (enc:=mR true) (x:=k) (fun v σ hs hsl=>?_) (hg:=fI)|refine aq (enc:=nR true) (x:=k) (fun v σ hs hsl=>?_) (hg:=W0)|clear U K)<;>conv=>whnf)
  rename_i v9 _ _ _ _ _ _ _;exact⟨hlt,(v9,v),rfl,trivial,by rw[e1,e2];exact hs⟩
 ·have hl2:(List.range k).length<Ad∧((List.range k).length+1)*40≤140737488355328:=by omega
  conv=>whnf
  repeat'((first|apply st|(apply sq;intro K U)|(apply si;intro A B Y Z)|(apply Y;clear Z B Y A)|(apply U;clear U K)|refine⟨rfl,?_⟩|refine⟨nb,?_⟩|refine ld ?_|refine FB fun σ hs=>?_|(refine Dh (fun hc=>?_)<;>(try rw[hc])<;>clear hc)|refine aq (enc:=nR true) (x:=k) (fun v σ hs hsl=>?_) (hg:=W0)|clear U K)<;>conv=>whnf)
  obtain rfl:k=7:=by omega
  have o1:=Gu hs 2 rfl;have o2:=Gu hs 3 rfl;refine Ho hs 1 rfl rfl rfl (by simp[dg,o1,o2]) (by decide) fun σ hs=>?_
  clear o1 o2
  conv=>whnf
  repeat'((first|apply st|(apply Y;clear Z B Y A)|(apply U;clear U K)|refine⟨nb,?_⟩|refine ld ?_|fail)<;>conv=>whnf)
  have hfr:Gq σ emp (V.a [dg,eI 0,.l [[eI 1]] true,_,v,eI (((List.range 7).map fun k=>[eI (uu k)]).length:Nat)]) (V.a [.l (PV.AQ.map Pd) false,eI 0,.l [[eI 1]] false,.l ((List.range 7).map (mR false)) false,.l ((List.range 7++[7]).map (nR false)) false,eI (((List.range 7).map fun k=>[eI (uu k)]).length:Nat)]):= .a (.cons cO (.cons (.refl _) (.cons Nr (.cons (Own.pF (hs.get (i:=2) rfl) (ON ji _)) (.cons (Own.pF (hs.get (i:=3) rfl) (ON jf _)) (.cons (.refl _) .nil))))));refine F2 (σ2:=emp) (fun n o ho=>by cases ho) hfr ?_;show R.ret _=R.ret _
  kernel_rfl
theorem TG {n:Nat} {f:Nat→Nat→Bool} {i:Nat} (h: ∀j,f i j=false):KV n f i= []:=by
 rw[KV,List.filter_eq_nil_iff.2 fun j _=>by rw[h j];decide];rfl
set_option maxHeartbeats 4000000 in
theorem eV (p : Prog) (gen kind:Int):Pure Tryz.prog 15 [.a (BK p),eI gen,eI kind] (.t [.l (pP (Gh p gen kind).1) true,eI (Gh p gen kind).2]):=by
 refine Pure.of ?_;have hM:=Mx;have hr:=GK p;refine qt nb ?_;have hs:=Sn
 conv=>whnf
 repeat'((first|apply st|(apply sq;intro K U)|(apply si;intro A B Y Z)|(apply Y;clear Z B Y A)|(apply U;clear U K)|refine⟨nb,?_⟩|fail)<;>conv=>whnf)
 refine hr.use (rest:=[]) (by simpa using hs) ?_;clear hs;cases h:(BO p).isSome
 ·have hg:=Us gen
  rintro r post σ ⟨rfl,rfl⟩ hs
  conv=>whnf
  repeat'((first|apply st|(apply sq;intro K U)|(apply si;intro A B Y Z)|(apply Y;clear Z B Y A)|(apply U;clear U K)|refine ld ?_|refine FB fun σ hs=>?_|refine RI ?_|refine Pure.use hg ?_|(intro nn hnn;generalize hg:BC _ nn _=σ;refine Cm hg fun hs=>?_;clear hg)|clear U K)<;>conv=>whnf)
  exact AO (by simp[Gh,h])
 ·rintro r post σ ⟨L,rfl,rfl⟩ hs
  have hg:=Zb p L gen;have hok:=look_ok h;have h16:=hok.many;have hgw:=MX h;have hfm:=JG h;cases h2:Nf p gen
  ·rw[h2]at hg
   conv=>whnf
   repeat'((first|apply st|(apply sq;intro K U)|(apply si;intro A B Y Z)|(apply Y;clear Z B Y A)|(apply U;clear U K)|refine ld ?_|refine FB fun σ hs=>?_|refine RI ?_|refine Pure.use hg ?_|(intro nn hnn;generalize hg:BC _ nn _=σ;refine Cm hg fun hs=>?_;clear hg)|clear U K)<;>conv=>whnf)
   exact AO (by simp[Gh,h,h2])
  rw[h2]at hg;by_cases h3:Sp kind=true
  ·have hk :=h3
   simp only[Sp,BZ,CX]at hk
   conv=>whnf
   repeat'((first|apply st|(apply sq;intro K U)|(apply si;intro A B Y Z)|(apply Y;clear Z B Y A)|(apply U;clear U K)|refine⟨rfl,?_⟩|refine ld ?_|refine FB fun σ hs=>?_|refine Ig ?_|refine Pure.use hg ?_|refine Pure.use (Xb _ _ _) ?_|(constructor<;>intro hc<;>(try rw[hc])<;>(replace hc:=bp hc)<;>try(exfalso;omega))|(intro nn hnn;generalize hg:BC _ nn _=σ;refine Cm hg fun hs=>?_;clear hg)|clear U K)<;>conv=>whnf)
   ·rename_i nr _ _ _ _ _ _ nO _ _ _
    refine Sm p L gen h16 (nn:=nn) (fun s:List (Int×Int)×List (Int×Int)×V=>[.box nO [s.2.2],.own s.2.2 2 (pP s.2.1),.box nr [Fs p L],.map L (FK p s.1)]) (fun k s=>s.2.1=(List.range k).flatMap (KV p.methods.length (IY p gen kind))) ([],[],.l [] true) rfl ((Cv hs 2).perm (II _ _ _ _)) ?_ ?_ ?_
    ·intro k s hlt hne hi
     rw[He,←hi,TG (fun j=>by simp[IY,hne]),Hj]
    ·clear hs hnn
     intro k s hlt hgk hi rest σ hs;have hck:A6 k=k:=AL (by omega);have hmk:A0 p (k:Int)=true:=by simp[A0];omega
     rw[←hck];refine Ev (l:=[.box nO [s.2.2],.own s.2.2 2 (pP s.2.1),.box nr [Fs p L],.map L (FK p s.1)]++rest) rfl hs ?_;clear hs;intro σ hs
     conv=>whnf
     repeat'((first|apply st|(apply sq;intro K U)|(apply si;intro A B Y Z)|(apply Y;clear Z B Y A)|(apply U;clear U K)|refine ld ?_|refine FB fun σ hs=>?_|refine Pure.use (Xb _ _ _) ?_|(intro nn hnn;generalize hg:BC _ nn _=σ;refine Cm hg fun hs=>?_;clear hg)|clear U K)<;>conv=>whnf)
     rename_i nm _ _ _ _ _;clear hnn;refine Sm p L gen h16 (nn:=nn) (fun s':List (Int×Int)×List (Int×Int)×V=> .box nm [eI (A6 k)]::([.box nO [s'.2.2],.own s'.2.2 2 (pP s'.2.1),.box nr [Fs p L],.map L (FK p s'.1)]++rest)) (fun j s'=>s'.2.1=(List.range k).flatMap (KV p.methods.length (IY p gen kind))++Le (IY p gen kind) k j) s (by simp[Le,hi]) hs ?_ ?_ ?_
     ·intro j s' hjlt hne hi'
      have:IY p gen kind k j=false:=by
       rw[←Bool.not_eq_true,bV];exact fun e=>hne e.2.1.1
      rw[JO,this,hi'];simp
     ·clear hs hi
      intro j s' hjlt hgj hi' rest2 σ hs;have hcj:A6 j=j:=AL (by omega);have hmj:A0 p (j:Int)=true:=by simp[A0];omega
      obtain⟨x,hx⟩: ∃x,p.methods[k]? =some x:=⟨_,Cu hlt⟩
      have hxe:BG p (k:Int)=x:=by
       have:=Bs hmk;rw[Ih,hx]at this;exact(Option.some.inj this).symm
      have c4:Pure Tryz.prog 44 [Fs p L,eI (A6 k),eI (A6 j)] (.b (Bw p k j)):=by rw[hck,hcj];exact NW p L k j hmk hmj
      have c5:Bh Tryz.prog 45 [Fs p L,eI (A6 k),eI (A6 j)] [.map L (FK p s'.1)] fun r post=>r= .ret (.b (Ag p k j))∧post= [.map L (FK p (Nk p s'.1 k j))]:=by rw[hck,hcj];exact OZ p L k j hok hgw hfm hmk hmj s'.1
      have hoe:IY p gen kind k j=(x.kind==kind&&(Bw p k j&&Ag p k j)):=by rw[IY,hxe,←hxe,hgk,hxe];simp
      have hrs:=JO (IY p gen kind) k j;have hfl:=NT p.methods.length (IY p gen kind) k;have hrl:=Ri (IY p gen kind) k j;have hkk:k*p.methods.length≤16*16:=Nat.mul_le_mul (by omega) h16;have hll:s'.2.1.length<Ad∧(s'.2.1.length+1)*16≤140737488355328:=by rw[hi',PT];omega
      have hno:IY p gen kind k j=false→s'.2.1=(List.range k).flatMap (KV p.methods.length (IY p gen kind))++Le (IY p gen kind) k (j+1):=fun e=>by rw[hrs,e,hi'];simp
      rw[←hcj];refine Ev (l:= .box nm [eI (A6 k)]::([.box nO [s'.2.2],.own s'.2.2 2 (pP s'.2.1),.box nr [Fs p L],.map L (FK p s'.1)]++rest)++rest2) rfl hs ?_;clear hs;intro σ hs;by_cases hkd:x.kind=kind
      ·cases hal:Bw p k j<;>rw[hal]at c4
       ·conv=>whnf
        repeat'((first|apply st|(apply sq;intro K U)|(apply si;intro A B Y Z)|(apply Y;clear Z B Y A)|(apply U;clear U K)|apply dr|refine⟨rfl,?_⟩|refine ix ?_|refine ld ?_|refine D2 ?_|refine Pure.use c4 ?_|(constructor<;>intro hc<;>(try rw[hc])<;>(replace hc:=bp hc)<;>try(exfalso;omega))|fail)<;>conv=>whnf)
        intro hn;exact⟨s',rfl,hno (by rw[hoe,hal];simp),hs.Js hn⟩
       ·cases hah:Ag p k j<;>rw[hah]at c5
        all_goals
         conv=>whnf
         repeat'((first|apply st|(apply sq;intro K U)|(apply si;intro A B Y Z)|(apply Y;clear Z B Y A)|apply dr|refine⟨rfl,?_⟩|refine ix ?_|refine ld ?_|refine E0 ?_|refine Pure.use c4 ?_|(constructor<;>intro hc<;>(try rw[hc])<;>(replace hc:=bp hc)<;>try(exfalso;omega))|fail)<;>conv=>whnf)
         refine c5.use (rest:=_) (hs.front (j:=4) rfl) ?_;clear hs;rintro r post σ ⟨rfl,rfl⟩ hs
         conv=>whnf
         repeat'((first|apply st|(apply si;intro A B Y Z)|(apply Y;clear Z B Y A)|(apply U;clear U K)|apply dr|refine ld ?_|refine FB fun σ hs=>?_|refine E0 ?_|refine D2 ?_|refine aq (enc:=pI) (x:=((_:Int),(_:Int))) (fun v σ hs hsl=>?_) (hg:=N2)|fail)<;>conv=>whnf)
        ·intro hn
         exact⟨(Nk p s'.1 k j,s'.2.1,s'.2.2),rfl,hno (by rw[hoe,hah];simp),(Sat.back (l:=(.box nm [eI (A6 k)]::([.box nO [s'.2.2],.own s'.2.2 2 (pP s'.2.1),.box nr [Fs p L],.map L (FK p (Nk p s'.1 k j))]++rest))++rest2) (j:=4) hs rfl).Js hn⟩
        ·intro hn
         refine⟨(Nk p s'.1 k j,s'.2.1++[((k:Int),(j:Int))],v),rfl,?_,Sat.Js ?_ hn⟩
         ·rw[hrs,show IY p gen kind k j=true by rw[hoe,hah,hal];simp[hkd],hi',if_pos rfl,SS]
         ·rw[show((k:Int),(j:Int))=(A6 k,A6 j) by rw[hck,hcj]]
          exact Sat.back (l:=(.box nm [eI (A6 k)]::([.box nO [v],.own v 2 (pP (s'.2.1++[(A6 k,A6 j)])),.box nr [Fs p L],.map L (FK p (Nk p s'.1 k j))]++rest))++rest2) (j:=4) hs rfl
      ·conv=>whnf
       repeat'((first|apply st|(apply sq;intro K U)|(apply si;intro A B Y Z)|(apply Y;clear Z B Y A)|(apply U;clear U K)|apply dr|refine⟨rfl,?_⟩|refine ix ?_|refine ld ?_|(constructor<;>intro hc<;>(try rw[hc])<;>(replace hc:=bp hc)<;>try(exfalso;omega))|fail)<;>conv=>whnf)
       intro hn;exact⟨s',rfl,hno (by rw[hoe];simp[hkd]),hs.Js hn⟩
     ·clear hs hi
      intro s' σ hi' hs;refine Fh hs fun σ hs=>?_
      conv=>whnf
      intro hn;exact⟨s',rfl,by rw[He];exact hi',(hs.less (Jn _ _)).Js hn⟩
    ·clear hs hnn
     intro s σ hi hs;refine Fh hs fun σ hs=>?_
     conv=>whnf
     repeat'((first|(apply sq;intro K U)|(apply si;intro A B Y Z)|(apply U;clear U K)|refine ld ?_|fail)<;>conv=>whnf)
     refine(aM s.2.1 s.2.2 (by have:=NT p.methods.length (IY p gen kind) p.methods.length;have:p.methods.length*p.methods.length≤16*16:=Nat.mul_le_mul h16 h16;rw[hi];omega)).use (rest:=_) (hs.front (j:=1) rfl) ?_;clear hs;rintro r post σ ⟨rfl,rfl⟩ hs
     conv=>whnf
     repeat'((first|apply st|(apply Y;clear Z B Y A)|(apply U;clear U K)|fail)<;>conv=>whnf)
     exact AO (by simp[Gh,h,h2,h3,RO,hi])
   ·exfalso
    simp at hc;omega
  ·have hk:kind<1∨4<kind:=by simp only[Sp,BZ,CX]at h3;omega
   have h3':Sp kind=false:=by simpa using h3
   rcases hk with hk|hk
   ·conv=>whnf
    repeat'((first|apply st|(apply sq;intro K U)|(apply si;intro A B Y Z)|(apply Y;clear Z B Y A)|(apply U;clear U K)|refine⟨rfl,?_⟩|refine ld ?_|refine FB fun σ hs=>?_|refine Ig ?_|refine Pure.use hg ?_|refine Pure.use (Xb _ _ _) ?_|(constructor<;>intro hc<;>(try rw[hc])<;>(replace hc:=bp hc)<;>try(exfalso;omega))|(intro nn hnn;generalize hg:BC _ nn _=σ;refine Cm hg fun hs=>?_;clear hg)|clear U K)<;>conv=>whnf)
    ·exfalso
     have q:(bif !true then true else decide (kind<1))=false:=by assumption
     simp at q;omega
    ·exact AO (by simp[Gh,h,h2,h3'])
   ·conv=>whnf
    repeat'((first|apply st|(apply sq;intro K U)|(apply si;intro A B Y Z)|(apply Y;clear Z B Y A)|(apply U;clear U K)|refine⟨rfl,?_⟩|refine ld ?_|refine FB fun σ hs=>?_|refine Ig ?_|refine Pure.use hg ?_|(constructor<;>intro hc<;>(try rw[hc])<;>(replace hc:=bp hc)<;>try(exfalso;omega))|(intro nn hnn;generalize hg:BC _ nn _=σ;refine Cm hg fun hs=>?_;clear hg)|clear U K)<;>conv=>whnf)
    all_goals exact AO (by simp[Gh,h,h2,h3'])
set_option maxHeartbeats 4000000 in
theorem dv (p : Prog) (gen:Int):Pure Tryz.prog 17 [.a (BK p),eI gen] (.t [.l (pP (Lo p gen).1) true,eI (Lo p gen).2]):=by
 refine Pure.of ?_;have hM:=Mx;have hr:=GK p;refine qs nb ?_;have hs:=Sn
 conv=>whnf
 repeat'((first|apply st|(apply sq;intro K U)|(apply si;intro A B Y Z)|(apply Y;clear Z B Y A)|(apply U;clear U K)|refine⟨nb,?_⟩|fail)<;>conv=>whnf)
 refine hr.use (rest:=[]) (by simpa using hs) ?_;clear hs;cases h:(BO p).isSome
 ·have hg:=Us gen
  rintro r post σ ⟨rfl,rfl⟩ hs
  conv=>whnf
  repeat'((first|apply st|(apply sq;intro K U)|(apply si;intro A B Y Z)|(apply Y;clear Z B Y A)|(apply U;clear U K)|refine ld ?_|refine FB fun σ hs=>?_|refine E0 ?_|refine Pure.use hg ?_|(intro nn hnn;generalize hg:BC _ nn _=σ;refine Cm hg fun hs=>?_;clear hg)|clear U K)<;>conv=>whnf)
  exact AO (by simp[Lo,h])
 ·rintro r post σ ⟨L,rfl,rfl⟩ hs
  have hg:=Zb p L gen;have hok:=look_ok h;have h16:=hok.many;have hgw:=MX h;have hfm:=JG h;cases h2:Nf p gen
  ·rw[h2]at hg
   conv=>whnf
   repeat'((first|apply st|(apply sq;intro K U)|(apply si;intro A B Y Z)|(apply Y;clear Z B Y A)|(apply U;clear U K)|refine ld ?_|refine FB fun σ hs=>?_|refine E0 ?_|refine Pure.use hg ?_|(intro nn hnn;generalize hg:BC _ nn _=σ;refine Cm hg fun hs=>?_;clear hg)|clear U K)<;>conv=>whnf)
   exact AO (by simp[Lo,h,h2])
  rw[h2]at hg
  conv=>whnf
  repeat'((first|apply st|(apply sq;intro K U)|(apply si;intro A B Y Z)|(apply Y;clear Z B Y A)|(apply U;clear U K)|refine ld ?_|refine FB fun σ hs=>?_|refine D2 ?_|refine Pure.use hg ?_|refine Pure.use (Xb _ _ _) ?_|(intro nn hnn;generalize hg:BC _ nn _=σ;refine Cm hg fun hs=>?_;clear hg)|fail)<;>conv=>whnf)
  rename_i nr _ _ _ _ _ nO _ _ _;refine Sm p L gen h16 (nn:=nn) (fun s:List (Int×Int)×List (Int×Int)×V=>[.box nO [s.2.2],.own s.2.2 2 (pP s.2.1),.box nr [Fs p L],.map L (FK p s.1)]) (fun k s=>s.2.1=(List.range k).flatMap (KV p.methods.length (SP p gen))) ([],[],.l [] true) rfl ((Cv hs 2).perm (II _ _ _ _)) ?_ ?_ ?_
  ·intro k s hlt hne hi
   rw[He,←hi,TG (fun j=>by simp[SP,hne]),Hj]
  ·clear hs hnn
   intro k s hlt hgk hi rest σ hs;have hck:A6 k=k:=AL (by omega);have hmk:A0 p (k:Int)=true:=by simp[A0];omega
   rw[←hck];refine Ev (l:=[.box nO [s.2.2],.own s.2.2 2 (pP s.2.1),.box nr [Fs p L],.map L (FK p s.1)]++rest) rfl hs ?_;clear hs;intro σ hs
   conv=>whnf
   repeat'((first|apply st|(apply sq;intro K U)|(apply si;intro A B Y Z)|(apply Y;clear Z B Y A)|(apply U;clear U K)|refine ld ?_|refine FB fun σ hs=>?_|refine Pure.use (Xb _ _ _) ?_|(intro nn hnn;generalize hg:BC _ nn _=σ;refine Cm hg fun hs=>?_;clear hg)|clear U K)<;>conv=>whnf)
   rename_i nm _ _ _ _ _;clear hnn;refine Sm p L gen h16 (nn:=nn) (fun s':List (Int×Int)×List (Int×Int)×V=> .box nm [eI (A6 k)]::([.box nO [s'.2.2],.own s'.2.2 2 (pP s'.2.1),.box nr [Fs p L],.map L (FK p s'.1)]++rest)) (fun j s'=>s'.2.1=(List.range k).flatMap (KV p.methods.length (SP p gen))++Le (SP p gen) k j) s (by simp[Le,hi]) hs ?_ ?_ ?_
   ·intro j s' hjlt hne hi'
    have:SP p gen k j=false:=by
     rw[←Bool.not_eq_true];exact fun e=>hne (dw e).1.2
    rw[JO,this,hi'];simp
   ·clear hs hi
    intro j s' hjlt hgj hi' rest2 σ hs;have hcj:A6 j=j:=AL (by omega);have hmj:A0 p (j:Int)=true:=by simp[A0];omega
    have c4:Pure Tryz.prog 44 [Fs p L,eI (A6 k),eI (A6 j)] (.b (Bw p k j)):=by rw[hck,hcj];exact NW p L k j hmk hmj
    have c5:Bh Tryz.prog 54 [Fs p L,eI (A6 k),eI (A6 j)] [.map L (FK p s'.1)] fun r post=>r= .ret (.b (Dc p k j))∧post= [.map L (FK p (Ll s'.1 (k,j)))]:=by rw[hck,hcj];exact H6 p L k j hok hgw hfm hmk hmj s'.1
    have c6:Bh Tryz.prog 54 [Fs p L,eI (A6 j),eI (A6 k)] [.map L (FK p (Ll s'.1 (k,j)))] fun r post=>r= .ret (.b (Dc p j k))∧post= [.map L (FK p (Ll (Ll s'.1 (k,j)) (j,k)))]:=by rw[hck,hcj];exact H6 p L j k hok hgw hfm hmj hmk _
    generalize Ll (Ll s'.1 (k,j)) (j,k)=M2 at *;generalize Ll s'.1 (k,j)=M1 at *;have hoe:SP p gen k j=(decide (k<j)&&(Bw p k j&&(Dc p k j&&Dc p j k))):=by rw[SP,hgk];simp
    have hrs:=JO (SP p gen) k j;have hfl:=NT p.methods.length (SP p gen) k;have hrl:=Ri (SP p gen) k j;have hkk:k*p.methods.length≤16*16:=Nat.mul_le_mul (by omega) h16;have hll:s'.2.1.length<Ad∧(s'.2.1.length+1)*16≤140737488355328:=by rw[hi',PT];omega
    have hno:SP p gen k j=false→s'.2.1=(List.range k).flatMap (KV p.methods.length (SP p gen))++Le (SP p gen) k (j+1):=fun e=>by rw[hrs,e,hi'];simp
    rw[←hcj];refine Ev (l:= .box nm [eI (A6 k)]::([.box nO [s'.2.2],.own s'.2.2 2 (pP s'.2.1),.box nr [Fs p L],.map L (FK p s'.1)]++rest)++rest2) rfl hs ?_;clear hs;intro σ hs;by_cases hkj:k<j
    ·cases hal:Bw p k j<;>rw[hal]at c4
     ·conv=>whnf
      repeat'((first|apply st|(apply sq;intro K U)|(apply si;intro A B Y Z)|(apply Y;clear Z B Y A)|(apply U;clear U K)|refine⟨rfl,?_⟩|refine ld ?_|refine D2 ?_|refine Pure.use c4 ?_|(constructor<;>intro hc<;>(try rw[hc])<;>(replace hc:=bp hc)<;>(try simp(disch:=omega) only[BE,wrap64,AL]at hc)<;>try(exfalso;omega))|fail)<;>conv=>whnf)
      intro hn;exact⟨s',rfl,hno (by rw[hoe,hal];simp),hs.Js hn⟩
     ·cases hi1:Dc p k j<;>rw[hi1]at c5
      all_goals
       conv=>whnf
       repeat'((first|apply st|(apply sq;intro K U)|(apply si;intro A B Y Z)|(apply Y;clear Z B Y A)|refine⟨rfl,?_⟩|refine ld ?_|refine E0 ?_|refine Pure.use c4 ?_|(constructor<;>intro hc<;>(try rw[hc])<;>(replace hc:=bp hc)<;>(try simp(disch:=omega) only[BE,wrap64,AL]at hc)<;>try(exfalso;omega))|fail)<;>conv=>whnf)
       refine c5.use (rest:=_) (hs.front (j:=4) rfl) ?_;clear hs;rintro r post σ ⟨rfl,rfl⟩ hs
       conv=>whnf
       repeat'((first|apply st|(apply Y;clear Z B Y A)|(apply U;clear U K)|refine ld ?_|refine E0 ?_|refine D2 ?_|fail)<;>conv=>whnf)
      ·intro hn
       exact⟨(M1,s'.2.1,s'.2.2),rfl,hno (by rw[hoe,hi1];simp),(Sat.back (l:=(.box nm [eI (A6 k)]::([.box nO [s'.2.2],.own s'.2.2 2 (pP s'.2.1),.box nr [Fs p L],.map L (FK p M1)]++rest))++rest2) (j:=4) hs rfl).Js hn⟩
      cases hi2:Dc p j k<;>rw[hi2]at c6
      all_goals
       refine c6.use (rest:=_) hs ?_;clear hs;rintro r post σ ⟨rfl,rfl⟩ hs
       conv=>whnf
       repeat'((first|apply st|(apply si;intro A B Y Z)|(apply Y;clear Z B Y A)|(apply U;clear U K)|refine ld ?_|refine FB fun σ hs=>?_|refine E0 ?_|refine D2 ?_|refine aq (enc:=pI) (x:=((_:Int),(_:Int))) (fun v σ hs hsl=>?_) (hg:=N2)|fail)<;>conv=>whnf)
      ·intro hn
       exact⟨(M2,s'.2.1,s'.2.2),rfl,hno (by rw[hoe,hi2];simp),(Sat.back (l:=(.box nm [eI (A6 k)]::([.box nO [s'.2.2],.own s'.2.2 2 (pP s'.2.1),.box nr [Fs p L],.map L (FK p M2)]++rest))++rest2) (j:=4) hs rfl).Js hn⟩
      ·intro hn
       refine⟨(M2,s'.2.1++[((k:Int),(j:Int))],v),rfl,?_,Sat.Js ?_ hn⟩
       ·rw[hrs,show SP p gen k j=true by rw[hoe,hi1,hi2,hal];simp[hkj],hi',if_pos rfl,SS]
       ·rw[show((k:Int),(j:Int))=(A6 k,A6 j) by rw[hck,hcj]]
        exact Sat.back (l:=(.box nm [eI (A6 k)]::([.box nO [v],.own v 2 (pP (s'.2.1++[(A6 k,A6 j)])),.box nr [Fs p L],.map L (FK p M2)]++rest))++rest2) (j:=4) hs rfl
    ·conv=>whnf
     repeat'((first|apply st|(apply sq;intro K U)|(apply si;intro A B Y Z)|(apply Y;clear Z B Y A)|(apply U;clear U K)|refine⟨rfl,?_⟩|refine ld ?_|(constructor<;>intro hc<;>(try rw[hc])<;>(replace hc:=bp hc)<;>(try simp(disch:=omega) only[BE,wrap64,AL]at hc)<;>try(exfalso;omega))|fail)<;>conv=>whnf)
     intro hn;exact⟨s',rfl,hno (by rw[hoe,decide_eq_false hkj];rfl),hs.Js hn⟩
   ·clear hs hi
    intro s' σ hi' hs;refine Fh hs fun σ hs=>?_
    conv=>whnf
    intro hn;exact⟨s',rfl,by rw[He];exact hi',(hs.less (Jn _ _)).Js hn⟩
  ·clear hs hnn
   intro s σ hi hs;refine Fh hs fun σ hs=>?_
   conv=>whnf
   repeat'((first|(apply sq;intro K U)|(apply si;intro A B Y Z)|(apply U;clear U K)|refine ld ?_|fail)<;>conv=>whnf)
   refine(aM s.2.1 s.2.2 (by have:=NT p.methods.length (SP p gen) p.methods.length;have:p.methods.length*p.methods.length≤16*16:=Nat.mul_le_mul h16 h16;rw[hi];omega)).use (rest:=_) (hs.front (j:=1) rfl) ?_;clear hs;rintro r post σ ⟨rfl,rfl⟩ hs
   conv=>whnf
   repeat'((first|apply st|(apply Y;clear Z B Y A)|(apply U;clear U K)|fail)<;>conv=>whnf)
   exact AO (by simp[Lo,h,h2,RO,hi])
end Go.Gl
namespace Go.Gl
open Go.Proofs
abbrev xR:Pl:=⟨[],false,[4,3],[1,0],false,[5,6]⟩
abbrev xQ:Pl:=⟨[],false,[4,3],[],true,[5,6]⟩
theorem p5:Nv PV [(4,[])] 0 [(3,0)]=(xR,0):=by kernel_rfl
theorem pz:Nv PV [(6,[])] 0 [(3,0)]=(xQ,0):=by kernel_rfl
theorem p6:Nv PV [] 0 [(1,0)]=(iJ,5):=by kernel_rfl
theorem py:Cx PV [0,1,2]=(([],true),0):=by kernel_rfl
theorem px:Gh PV 0 1=([(1,0),(2,0)],0):=by kernel_rfl
theorem pw:Lo PV 0=([],0):=by kernel_rfl
theorem pG (c:Int) (b b2:Bool):Pure Tryz.prog 20 [.a (BK PV),.l [[eI c,.l [] true]] b,eI 0,.l [[eI 3,eI 0]] b2] (ur (Nv PV [(c,[])] 0 [(3,0)]) true):=
 (az PV [(c,[])] false 0 [(3,0)] b2).arg (.cons (.refl _) (.cons (.l (fun h=>by cases h) (.cons (.cons (.refl _) (.cons CH .nil)) .nil)) (.cons (.refl _) (.cons (.refl _) .nil))))
attribute [local irreducible] BL A4 Aj AW AM Ai AV AX AN Ah AS AU A8 BJ Sat Ac BF Ak W
set_option maxHeartbeats 4000000 in
theorem Ws:Pure Tryz.prog 14 [] (.b true):=by
 have a1:=R5 PV 1 0;have a2:=R5 PV 1 2;have a3:=R5 PV 0 3;rw[j8]at a1;rw[j7]at a2;rw[j9]at a3;have k4:=fun b c=>pG 4 b c
 have k6:=fun b c=>pG 6 b c
 have k0:=fun b c=>az PV [] b 0 [(1,0)] c
 rw[p5]at k4;rw[pz]at k6;rw[p6]at k0;have ch:=fun b=>XJ PV [0,1,2] b (by decide)
 rw[py]at ch;have or:=eV PV 0 1;rw[px]at or;have tw:=dv PV 0;rw[pw]at tw;have sp: ∀b c,Pure Tryz.prog 19 [.l (pP [(1,0),(2,0)]) b,.l (pP [(1,0),(2,0)]) c] (.b true):=fun b c=>Tr [(1,0),(2,0)] [(1,0),(2,0)] b c (by decide) (by decide)
 refine qu nb ?_;have hs:=Sn
 conv=>whnf
 repeat'((first|apply st|(apply sq;intro K U)|(apply si;intro A B Y Z)|(apply Y;clear Z B Y A)|(apply U;clear U K)|refine⟨rfl,?_⟩|refine⟨nb,?_⟩|refine ld ?_|refine Dm fun σ hs=>?_|refine D2 ?_|refine Ig ?_|refine Pure.use vS ?_|refine Pure.use a1 ?_|refine Pure.use a2 ?_|refine Pure.use a3 ?_|refine Pure.use (k4 _ _) ?_|refine Pure.use (k6 _ _) ?_|refine Pure.use (k0 _ _) ?_|refine Pure.use (ch _) ?_|refine Pure.use or ?_|refine Pure.use tw ?_|refine Pure.use (sp _ _) ?_|refine Pure.use (Uk xR _ _ _ _) ?_|refine Pure.use (Uk xQ _ _ _ _) ?_|(constructor<;>intro hc<;>(try rw[hc])<;>(replace hc:=bp hc)<;>(try simp(disch:=omega) only[BE,wrap64,AL]at hc)<;>try(exfalso;omega))|(intro nn hnn;generalize hg:BC _ nn _=σ;refine Cm hg fun hs=>?_;clear hg)|clear U K)<;>conv=>whnf)
 all_goals first
  | exact AI rfl
  | (exfalso;simp at hc;done)
  | (exfalso;clear hc;rename_i hc;simp at hc;done)
end Go.Gl
namespace Go.Gl
open Go.Proofs
attribute [local irreducible] BL A4 Aj AW AM Ai AV AX AN Ah AS AU A8 BJ Sat Ac BF Ak W
set_option maxRecDepth 4000 in
theorem Tw (p:Prog) (l:List Int) (f:Bool) (q3:Pure Tryz.prog 14 [] (.b true)):Pure Tryz.prog 9 [.a (BK p),.l (iL l) f] (.b true):=by
 refine Pure.fit (by kernel_rfl) fun hf=>?_
 have hlM:=Lu hf.2.1;have hM:=Mx;by_cases h40:40<l.length
 ·refine pH nb ?_
  have hs:=Sn
  conv=>whnf
  repeat'((first|apply st|(apply sq;intro K U)|(apply si;intro A B Y Z)|(apply Y;clear Z B Y A)|(apply U;clear U K)|refine⟨rfl,?_⟩|refine Pure.use q3 ?_|(constructor<;>intro hc<;>(try rw[hc])<;>(replace hc:=bp hc)<;>(try simp(disch:=omega) only[BE,wrap64,AL]at hc)<;>try(exfalso;omega))|clear U K)<;>conv=>whnf)
  all_goals exact AI rfl
 ·have q1:=XJ p l f (by omega)
  obtain⟨g1,q2⟩:=fm p l f (by omega);have q4:=Yx p l f (by omega);obtain⟨g2,q5⟩:=Yw p l f (by omega);have q6:=fun a b=>FQ (Cx p l).1.1 (Cx p l).1.1 a b
  have q7:=fun a b=>FQ (C0 p l).1 (C0 p l).1 a b
  rw[beq_self_eq_true]at q6 q7;generalize Cx p l=x at *;generalize C0 p l=y at *;obtain⟨⟨xs,t⟩,e⟩:=x;obtain⟨ys,g⟩:=y;dsimp only at *;cases t
  all_goals
   refine pH nb ?_;have hs:=Sn
   conv=>whnf
   repeat'((first|apply st|(apply sq;intro K U)|(apply si;intro A B Y Z)|(apply Y;clear Z B Y A)|(apply U;clear U K)|refine⟨rfl,?_⟩|refine⟨nb,?_⟩|refine E0 ?_|refine Pure.use q1 ?_|refine Pure.use q2 ?_|refine Pure.use q3 ?_|refine Pure.use q4 ?_|refine Pure.use q5 ?_|refine Pure.use (q6 _ _) ?_|refine Pure.use (q7 _ _) ?_|(constructor<;>intro hc<;>(try rw[hc])<;>(replace hc:=bp hc)<;>(try simp(disch:=omega) only[BE,wrap64,AL]at hc)<;>try(exfalso;omega))|fail)<;>conv=>whnf)
  all_goals first
   | exact AI rfl
   | (exfalso;simp at hc;done)
end Go.Gl
