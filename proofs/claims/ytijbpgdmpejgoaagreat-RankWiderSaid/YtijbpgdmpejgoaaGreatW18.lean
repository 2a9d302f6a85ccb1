import Derived.Test.YtijbpgdmpejgoaaGreatW10
import Derived.Test.YtijbpgdmpejgoaaGreatW11
import Derived.Test.YtijbpgdmpejgoaaGreatW15
import Derived.Test.YtijbpgdmpejgoaaGreatW16
import Derived.Test.YtijbpgdmpejgoaaGreatW17
set_option linter.all false
set_option linter.defProp false
noncomputable section
namespace Go.Gl
open Go.Proofs
variable {σ:AH}
def ja {env env2:Env} {K:Env→AH→Prop} {l:List At} (hs:Sat σ l) (i j:Nat) {v:V} {sz n:Nat} {es es':List (List V)} {vs vs2:List V} (hi:l[i]? =some (.own v sz es)) (hj:l[j]? =some (.box n vs))
    (G: ∀s s2,E5 s s2 es es') (hv: ∀σ2,Fa σ σ2 v (.l es' false)→C4 σ σ2 vs vs2) (he: ∀σ2,Fa σ σ2 v (.l es' false)→UG σ σ2 env env2) (hk: ∀σ2,Sat σ2 ((l.set j (.box n vs2)).eraseIdx i)→K env2 σ2):Fz env σ K:=by
 have hn:σ n=some (.cs vs):=hs.get hj;have hij:j≠i:=fun e=>by subst e;rw[hj]at hi;cases hi
 have hi2:(l.set j (.box n vs2))[i]? =some (.own v sz es):=by rw[List.getElem?_set_ne hij];exact hi
 obtain⟨σ2,h1,h2,h3⟩:=Zd (Y3 hs hj (.cs vs2)) i hi2 (G _)
 have hf:Fa σ σ2 v (.l es' false):=by
  rcases hs.get hi with⟨rfl,_⟩|⟨m,cap,rfl,hm⟩
  ·exact .l (fun h=>(by cases h)) (G _ _)
  ·refine .arr hm ?_ rfl (G _ _)
   cases h2 with
   | arr _ q _ _=>exact q
 refine .inr ⟨env2,σ2,⟨fun m o2 ho=>?_⟩,(he σ2 hf).vG,hk σ2 h3⟩;have:=h1 m o2 ho;by_cases hmn:m=n
 ·subst hmn
  rw[DO]at this;cases this;exact .inr ⟨vs,vs2,hn,rfl,hv σ2 hf⟩
 ·rw[Ci _ _ hmn]at this
  exact .inl this
abbrev qE (p:Prog) (ps:List Int):List V:=[.l ((Ed p ps).AL.map E3) false,eI (IntKind.i64.wrap (p.AP+1)),.l (iL p.CM) false,.l (p.methods.map Hw) false,.l (p.nodes.map Ea) false,eI p.main]
def ZD {p:Prog} {ps:List Int} (h:0≤p.AP∧p.AP≤40):qE p ps=BN (Ed p ps):=by
 have:IntKind.i64.wrap (p.AP+1)=p.AP+1:=wrap64 (by omega) (by omega);rw[qE,this];rfl
def St {p:Prog} {gen k:Int} (h:(BA p).isSome=true) (hg:I8 p gen=true) (hk:L0 k=true):Dx p gen k=(Ej p.methods.length (FJ p gen k),0):=by
 rw[Dx,h,hg,hk];rfl
attribute [local irreducible] BD Aw Ai AU AO Ah AV AW AN Ag AS AT Ay A9 Sat Ab A4 Aj W
attribute [local irreducible] Fz
set_option maxRecDepth 4000 in
set_option maxHeartbeats 4000000 in
def Up (p : Prog) (os:List Ob) (f:Bool) (gen:Int) (args:List (Int×Int)) (g:Bool) (us:List Int) (hb:Bool) (q3:Pure Tryz.prog 14 [] (.b true)):Pure Tryz.prog 7 [.a (BN p),.l (os.map FY) f,eI gen,.l (pP args) g,.l (us.map fun u=>[V.i .u8 u]) hb] (.b true):=by
 refine Pure.fit (by kernel_rfl) fun hf=>?_
 have hul:us.length≤Ac:=by
  have:=hf.2.2.2.2.1;simp only[D7,BR]at this;exact this.1
 have hM:=Mx;have c1:=Wx p os f gen args g;cases ha:B3 p os gen args<;>rw[ha]at c1
 ·refine iB kZ ?_
  have hs:=Sn
  conv=>whnf
  repeat'((first|apply st|(refine Ou ?_;intro K U)|(apply si;intro A B Y Z)|(apply Y;clear Z B Y A)|(apply U;clear U K)|refine⟨kZ,?_⟩|refine UC ?_|refine c1.use ?_|refine Mv ?_|refine Pure.use (by assumption) ?_|clear U K)<;>conv=>whnf)
  all_goals exact AI rfl
 by_cases h3:3<us.length
 ·refine iB kZ ?_
  have hs:=Sn
  conv=>whnf
  repeat'((first|apply st|(refine Ou ?_;intro K U)|(apply si;intro A B Y Z)|(apply Y;clear Z B Y A)|(apply U;clear U K)|refine⟨rfl,?_⟩|refine⟨kZ,?_⟩|refine JU ?_|refine c1.use ?_|refine Mv ?_|(constructor<;>intro hc<;>(try rw[hc])<;>(replace hc:=bp hc)<;>(try simp(disch:=omega) only[BR,wrap64,AM]at hc))|refine Pure.use (by assumption) ?_|clear U K)<;>conv=>whnf)
  all_goals first
   | exact AI rfl
   | (exfalso;simp at hc;omega)
 have hAk:=NW ha;have hok:=look_ok hAk.look;refine Pure.of ?_;refine iB kZ ?_;have hs:=Sn
 conv=>whnf
 repeat'((first|apply st|(refine Ou ?_;intro K U)|(apply si;intro A B Y Z)|(apply Y;clear Z B Y A)|(apply U;clear U K)|refine⟨rfl,?_⟩|refine⟨kZ,?_⟩|refine JU ?_|refine c1.use ?_|refine Mv ?_|(constructor<;>intro hc<;>(try rw[hc])<;>(replace hc:=bp hc)<;>(try simp(disch:=omega) only[BR,wrap64,AM]at hc))|refine Pure.use (by assumption) ?_|clear U K)<;>conv=>whnf)
 all_goals try(exfalso;simp at hc;omega)
 refine(me p hAk.look).use (rest:=_) (by simpa using hs) ?_;clear hs;rintro r post σ ⟨v,rfl,rfl⟩ hs
 conv=>whnf
 repeat'((first|(intro nn hnn;generalize hg:A7 _ nn _=σ;refine CY hg fun hs=>?_;clear hg)|fail)<;>conv=>whnf)
 have o1:=Fb hs 1 rfl;refine F5 hs 0 rfl rfl rfl (by simp[o1]) (by decide) fun σ hs=>?_
 clear o1
 conv=>whnf
 repeat'((first|apply st|(refine Ou ?_;intro K U)|(apply si;intro A B Y Z)|(apply Y;clear Z B Y A)|(apply U;clear U K)|refine DT fun σ hs=>?_|refine Mv ?_|(intro nn hnn;generalize hg:A7 _ nn _=σ;refine CY hg fun hs=>?_;clear hg)|fail)<;>conv=>whnf)
 rename_i n11 _ _ _ _ _ _ _;have hcl:p.AL.length≤10:=UW hAk.look;have hcw:(p.AL.map E3).length=p.AL.length:=BR _
 have hsl:0≤p.AP∧p.AP≤40:=by
  have hm:=ZF hAk.look;have hh:=(DA hAk.look).1;simp only[Cf,BV,CL,A2,Du]at hh;have:=hh.1.2.2.1;omega
 have hJ :=ND U (fun(_:V×List Int)=>([]:List (Nat×V))) (fun x=>[.box nn [x.1,.l [[eI p.AP]] true,.l [] true],.box n11 [v,eI p.AP,.l (iL p.CM) false,.l (p.methods.map Hw) false,.l (p.nodes.map Ea) false,eI p.main],.own v 3 (p.AL.map E3),.own x.1 1 (iL x.2)]) (fun x=>x.2.length≤3) [(1,.l (os.map FY) f),(2,eI gen),(3,.l (pP args) g),(5,.rp (BN p)),(11,.p n11 0),(12,.p nn 0)] (by
  clear U hs;rintro⟨u,ks⟩ σ hkl hs;dsimp only at hkl hs
  conv=>whnf
  refine ZJ hs 3 0 rfl rfl (fun σ2 h=> .cons h (.cons (.refl _) (.cons (.refl _) .nil))) (fun σ2 h=> .cons (.refl _) (.cons (.refl _) (.cons (.refl _) (.cons (.refl _) (.cons (.refl _) (.cons (.refl _) .nil)))))) fun σ hs=>?_
  conv=>whnf
  repeat'((first|(refine Ou ?_;intro K U)|(apply si;intro A B Y Z)|refine⟨kZ,?_⟩|refine ld ?_|fail)<;>conv=>whnf)
  refine hAppend hs 2 rfl ⟨by simp[Ac];omega,by simp;omega⟩ (by simp) (by simp) fun v σ hs=>?_
  conv=>whnf
  repeat'((first|(apply Y;clear Z B Y A)|(apply U;clear U K)|refine EV fun σ hs=>?_|fail)<;>conv=>whnf)
  refine ja hs 2 1 rfl rfl (es':=(Ed p ks).AL.map E3) (fun s s2=>by
   rw[show(Ed p ks).AL.map E3=p.AL.map E3++[E3 ⟨ks,[p.AP],[]⟩] by simp[Ed]]
   exact N5 (HN _) (.cons (.cons (.refl _) (.cons L3 (.cons Cc .nil))) .nil)) (fun σ2 h=> .cons h (.cons (.refl _) (.cons (.refl _) (.cons (.refl _) (.cons (.refl _) (.cons (.refl _) .nil)))))) (fun σ2 h=> .cons (.refl _) (.cons (.refl _) (.cons (.refl _) (.cons (.refl _) (.cons (.refl _) .nil))))) fun σ hs=>?_
  have c27:Pure Tryz.prog 27 [.a (qE p ks)] (.b (BA (Ed p ks)).isSome):=by rw[ZD hsl];exact ZV _
  cases hq:(BA (Ed p ks)).isSome<;>rw[hq]at c27
  ·conv=>whnf
   repeat'((first|apply st|(refine Ou ?_;intro K U)|(apply si;intro A B Y Z)|(apply Y;clear Z B Y A)|(apply U;clear U K)|refine⟨rfl,?_⟩|refine⟨kZ,?_⟩|refine ld ?_|refine EV fun σ hs=>?_|refine FI ?_|refine c27.use ?_|refine q3.use ?_|refine Mv ?_|clear U K)<;>conv=>whnf)
   all_goals exact AQ (by rfl)
  conv=>whnf
  repeat'((first|apply st|(refine Ou ?_;intro K U)|(apply si;intro A B Y Z)|(apply Y;clear Z B Y A)|(apply U;clear U K)|refine⟨rfl,?_⟩|refine⟨kZ,?_⟩|refine ld ?_|refine EV fun σ hs=>?_|refine EM ?_|refine c27.use ?_|refine Mv ?_|fail)<;>conv=>whnf)
  refine CZ 4 (fun k (_:Unit)=>[(15,eI (BH (1+k)))]) (fun _ _=>[.box nn [.l (iL ks) false,.l [[eI p.AP]] true,.l [] true],.box n11 (qE p ks)]) (fun _ _=>True) () rfl trivial hs ?_;clear hs c27;rintro k - σ hk4 - hs;have hck:BH (1+k)=((1+k:Nat):Int):=AM (by omega);rcases Nat.lt_or_ge k 4 with hlt4|hge
  ·have hkb:L0 (BH (1+k))=true:=by rw[hck];simp[L0];omega
   have e1:=Q1 p gen (BH (1+k));rw[St hAk.look hAk.ZH hkb]at e1
   have e2:Pure Tryz.prog 15 [.a (qE p ks),eI gen,eI (BH (1+k))] (.t [.l (pP (Ej p.methods.length (FJ p gen (BH (1+k))))) true,eI 0]):=by
    rw[ZD hsl];have:=Q1 (Ed p ks) gen (BH (1+k));rw[Xm hAk.look hq,St hAk.look hAk.ZH hkb]at this;exact this
   have hfl:(Ej p.methods.length (FJ p gen (BH (1+k)))).length≤256:=by
    have h1:=KN p.methods.length (FJ p gen (BH (1+k))) p.methods.length;have h2:p.methods.length*p.methods.length≤16*16:=Nat.mul_le_mul hok.many hok.many;simp only[Ej];omega
   generalize Ej p.methods.length (FJ p gen (BH (1+k)))=L at *
   have c19: ∀a b,Pure Tryz.prog 19 [.l (pP L) a,.l (pP L) b] (.b true):=fun a b=>by
    have:=MC L L a b (by omega) (by omega)
    rwa [beq_self_eq_true]at this
   conv=>whnf
   repeat'((first|apply st|(refine Ou ?_;intro K U)|(apply si;intro A B Y Z)|(apply Y;clear Z B Y A)|(apply U;clear U K)|refine⟨rfl,?_⟩|refine⟨kZ,?_⟩|refine ld ?_|refine EM ?_|refine e1.use ?_|refine e2.use ?_|refine Pure.use (c19 _ _) ?_|refine Mv ?_|(constructor<;>intro hc<;>(try rw[hc])<;>(replace hc:=bp hc)<;>(try simp(disch:=omega) only[BR,wrap64,AM]at hc)<;>try(exfalso;omega))|clear U K)<;>conv=>whnf)
   all_goals first
    | exact⟨hlt4,(),rfl,trivial,hs⟩
    | (exfalso;simp at hc;done)
  ·have d1:=Qs p os f gen args g
   have d2:Pure Tryz.prog 20 [.a (qE p ks),.l (os.map FY) f,eI gen,.l (pP args) g] (tN (Hy p os gen args) true):=by
    rw[ZD hsl,←fE ha hq];exact Qs (Ed p ks) os f gen args g
   rw[Hy,ha,if_pos rfl]at d1 d2;generalize GN (Al p) p (JV p os gen args)=x at *;obtain⟨x,b⟩:=x;cases b
   ·replace d1:Pure Tryz.prog 20 [.a (BN p),.l (os.map FY) f,eI gen,.l (pP args) g] (.t [.a (fV gZ true true),eI 5]):=d1
    replace d2:Pure Tryz.prog 20 [.a (qE p ks),.l (os.map FY) f,eI gen,.l (pP args) g] (.t [.a (fV gZ true true),eI 5]):=d2
    conv=>whnf
    repeat'((first|apply st|(refine Ou ?_;intro K U)|(apply si;intro A B Y Z)|(apply Y;clear Z B Y A)|(apply U;clear U K)|refine⟨rfl,?_⟩|refine⟨kZ,?_⟩|refine ld ?_|refine DT fun σ hs=>?_|refine FI ?_|refine d1.use ?_|refine d2.use ?_|refine Pure.use (Qh _ _ _ _ _) ?_|refine q3.use ?_|refine Mv ?_|(constructor<;>intro hc<;>(try rw[hc])<;>(replace hc:=bp hc)<;>(try simp(disch:=omega) only[BR,wrap64,AM]at hc)<;>try(exfalso;omega))|(intro nn hnn;generalize hg:A7 _ nn _=σ;refine CY hg fun hs=>?_;clear hg)|clear U K)<;>conv=>whnf)
    all_goals first
     | exact AQ (by rfl)
     | (exfalso;simp at hc;done)
     | (exfalso;omega)
   ·replace d1:Pure Tryz.prog 20 [.a (BN p),.l (os.map FY) f,eI gen,.l (pP args) g] (.t [.a (fV x true false),eI 0]):=d1
    replace d2:Pure Tryz.prog 20 [.a (qE p ks),.l (os.map FY) f,eI gen,.l (pP args) g] (.t [.a (fV x true false),eI 0]):=d2
    conv=>whnf
    repeat'((first|apply st|(refine Ou ?_;intro K U)|(apply si;intro A B Y Z)|(apply Y;clear Z B Y A)|(apply U;clear U K)|refine⟨rfl,?_⟩|refine⟨kZ,?_⟩|refine ld ?_|refine DT fun σ hs=>?_|refine FI ?_|refine d1.use ?_|refine d2.use ?_|refine Pure.use (Qh _ _ _ _ _) ?_|refine q3.use ?_|refine Mv ?_|(constructor<;>intro hc<;>(try rw[hc])<;>(replace hc:=bp hc)<;>(try simp(disch:=omega) only[BR,wrap64,AM]at hc)<;>try(exfalso;omega))|(intro nn hnn;generalize hg:A7 _ nn _=σ;refine CY hg fun hs=>?_;clear hg)|clear U K)<;>conv=>whnf)
    all_goals first
     | exact AQ (by rfl)
     | (exfalso;simp at hc;done)
     | (exfalso;omega))
 clear U;refine CZ us.length (fun k (_:V×List Int)=>[(13,eI (BH k))]) (fun k x=>[.box nn [x.1,.l [[eI p.AP]] true,.l [] true],.box n11 [v,eI p.AP,.l (iL p.CM) false,.l (p.methods.map Hw) false,.l (p.nodes.map Ea) false,eI p.main],.own v 3 (p.AL.map E3),.own x.1 1 (iL x.2)]) (fun k x=>x.2.length≤k) (.l [] true,[]) rfl (IE _) (Fl hs 1) ?_;clear hs;rintro k ⟨u,ks⟩ σ hk hkl hs;dsimp only at hkl hs;rcases BM us hk with⟨y,hy,hlt⟩|hke
 ·by_cases hz:0<p.AL.length
  ·conv=>whnf
   repeat'((first|apply st|(refine Ou ?_;intro K U)|(apply si;intro A B Y Z)|(apply Y;clear Z B Y A)|(apply U;clear U K)|apply dr|refine⟨rfl,?_⟩|refine ix ?_|refine ld ?_|(refine Cv (fun hc=>?_)<;>(try rw[hc])<;>clear hc)|(refine⟨(by rw[hcw];omega:((p.AL.map E3).length:Int)≠0),?_⟩)|refine Mv ?_|(constructor<;>intro hc<;>(try rw[hc])<;>(replace hc:=bp hc)<;>(try simp(disch:=omega) only[BR,wrap64,AM]at hc)<;>try(exfalso;omega))|fail)<;>conv=>whnf)
   generalize IntKind.i64.wrap (3+(IntKind.i64.wrap y).tmod ((p.AL.map E3).length:Int))=n;have c26:=oT ks false n (by omega);have hll:ks.length<Ac∧(ks.length+1)*8≤140737488355328:=by omega
   cases hcn:ks.contains n<;>rw[hcn]at c26
   ·refine Pure.T9 c26 (.cons (hs.QU 3 rfl) (.cons (.refl _) .nil)) rfl ?_
    conv=>whnf
    repeat'((first|apply st|(apply si;intro A B Y Z)|(apply Y;clear Z B Y A)|(apply U;clear U K)|refine⟨rfl,?_⟩|refine ld ?_|refine EV fun σ hs=>?_|refine aq fun v σ hs hsl=>?_|refine FI ?_|refine Mv ?_|fail)<;>conv=>whnf)
    exact⟨hlt,(_,ks++[n]),rfl,by dsimp only;rw[QP];simp;omega,hs⟩
   ·refine Pure.T9 c26 (.cons (hs.QU 3 rfl) (.cons (.refl _) .nil)) rfl ?_
    conv=>whnf
    repeat'((first|apply st|(apply si;intro A B Y Z)|(apply Y;clear Z B Y A)|(apply U;clear U K)|refine⟨rfl,?_⟩|refine EM ?_|refine Mv ?_|fail)<;>conv=>whnf)
    exact⟨hlt,(u,ks),rfl,by dsimp only;omega,hs⟩
  ·conv=>whnf
   repeat'((first|apply st|(refine Ou ?_;intro K U)|(apply si;intro A B Y Z)|(apply Y;clear Z B Y A)|(apply U;clear U K)|refine⟨rfl,?_⟩|(refine Cv (fun hc=>?_)<;>(try rw[hc])<;>clear hc)|refine Mv ?_|(constructor<;>intro hc<;>(try rw[hc])<;>(replace hc:=bp hc)<;>(try simp(disch:=omega) only[BR,wrap64,AM]at hc)<;>try(exfalso;omega))|clear U K)<;>conv=>whnf)
   all_goals exact hJ (u,ks) _ _ rfl (by dsimp only;omega) hs
 ·conv=>whnf
  repeat'((first|apply st|(refine Ou ?_;intro K U)|(apply si;intro A B Y Z)|(apply Y;clear Z B Y A)|(apply U;clear U K)|refine⟨rfl,?_⟩|(refine EI (fun hc=>?_)<;>(try rw[hc])<;>clear hc)|refine Mv ?_|clear U K)<;>conv=>whnf)
  all_goals exact hJ (u,ks) _ _ rfl (by dsimp only;omega) hs
end Go.Gl
namespace Go.Gl
open Go.Proofs
def m8 (c:Int):Fact:=Fact.mk 2 0 [] c 0 []
def Ov:Prog:=⟨[⟨[],[],[]⟩,⟨[3],[],[]⟩,⟨[3],[],[]⟩,⟨[4,5],[],[]⟩],0,[1],
 [⟨1,0,m8 3,0⟩,⟨1,0,m8 4,1⟩,⟨1,0,m8 5,2⟩,⟨2,0,Fact.mk 1 0 [] 0 0 [],3⟩,⟨2,0,m8 4,4⟩,⟨3,0,m8 3,5⟩,⟨3,0,m8 4,6⟩],
 [⟨2,0,[]⟩,⟨2,0,[]⟩,⟨2,0,[]⟩,⟨2,0,[]⟩,⟨2,0,[]⟩,⟨2,0,[]⟩,⟨2,0,[]⟩,⟨2,0,[]⟩],7⟩
def jc:HU Ov 1 0=(true,0):=by kernel_rfl
def jb:HU Ov 1 2=(false,0):=by kernel_rfl
def jd:HU Ov 0 3=(false,7):=by kernel_rfl
end Go.Gl
namespace Go.Gl
open Go.Proofs
attribute [local irreducible] BD Aw Ai AU AO Ah AV AW AN Ag AS AT Ay A9 Sat Ab A4 Aj W
def tg (c:Int):Pure Tryz.prog 74 [eI c] (.a [eI 2,eI 0,.l [] true,eI c,eI 0,.l [] true]):=by
 refine pD kZ ?_;have hs:=Sn
 conv=>whnf
 repeat'((first|apply st|(apply sq;intro K U)|(apply si;intro A B Y Z)|(apply Y;clear Z B Y A)|(apply U;clear U K)|refine⟨kZ,?_⟩|refine ld ?_|refine DT fun σ hs=>?_|(intro nn hnn;generalize hg:A7 _ nn _=σ;refine CY hg fun hs=>?_;clear hg)|fail)<;>conv=>whnf)
 all_goals exact AI rfl
def tB (k:Nat):Int:=if k<3 then 1 else if k<5 then 2 else 3
def vE (k:Nat):Int:=if k=3 then 1 else 2
def vF (k:Nat):Int:=if k=0 then 3 else if k=1 then 4 else if k=2 then 5 else if k=3 then 0 else if k=4 then 4 else if k=5 then 3 else 4
def mR (b:Bool) (k:Nat):List V:=[eI (tB k),eI 0,eI (vE k),eI 0,.l [] b,eI (vF k),eI 0,.l [] b,eI (BH k)]
def fR (k:Nat):List V:=[eI (vE k),eI 0,.l [] true,eI (vF k),eI 0,.l [] true]
def nR (b:Bool) (_:Nat):List V:=[eI 2,eI 0,.l [] b]
def eQ:EE (mR true) 9:=fun x=>⟨rfl,fun v hv=>by
 simp only[mR,FE,List.not_mem_nil,or_false]at hv
 rcases hv with rfl|rfl|rfl|rfl|rfl|rfl|rfl|rfl|rfl<;>rfl⟩
def Wd:EE (nR true) 3:=fun x=>⟨rfl,fun v hv=>by
 simp only[nR,FE,List.not_mem_nil,or_false]at hv
 rcases hv with rfl|rfl|rfl<;>rfl⟩
abbrev c7:V:= .l [[.l [] true,.l [] true,.l [] true],[.l [[eI 3]] true,.l [] true,.l [] true],[.l [[eI 3]] true,.l [] true,.l [] true],[.l [[eI 4],[eI 5]] true,.l [] true,.l [] true]] true
def bj {σ:AH}:Fa σ emp c7 (.l (Ov.AL.map E3) false):=
 .l (fun h=>by cases h) (.cons (.cons Cc (.cons Cc (.cons Cc .nil))) (.cons (.cons L3 (.cons Cc (.cons Cc .nil))) (.cons (.cons L3 (.cons Cc (.cons Cc .nil))) (.cons (.cons L3 (.cons Cc (.cons Cc .nil))) .nil))))
def jH {σ:AH} (k:Nat):C4 σ emp (mR true k) (mR false k):= .cons (.refl _) (.cons (.refl _) (.cons (.refl _) (.cons (.refl _) (.cons Cc (.cons (.refl _) (.cons (.refl _) (.cons Cc (.cons (.refl _) .nil))))))))
def jE {σ:AH} (k:Nat):C4 σ emp (nR true k) (nR false k):= .cons (.refl _) (.cons (.refl _) (.cons Cc .nil))
set_option maxHeartbeats 4000000 in
def tj:Pure Tryz.prog 48 [] (.a (BN Ov)):=by
 refine Pure.of ?_;have hM:=Mx;refine pT kZ ?_;have hs:=Sn
 conv=>whnf
 repeat'((first|apply st|(apply sq;intro K U)|(apply si;intro A B Y Z)|(apply Y;clear Z B Y A)|(apply U;clear U K)|refine DT fun σ hs=>?_|refine Pure.use (tg _) ?_|(intro nn hnn;generalize hg:A7 _ nn _=σ;refine CY hg fun hs=>?_;clear hg)|fail)<;>conv=>whnf)
 rename_i n0 _ _ _ _ _;refine CZ (List.range 7).length (fun k (_:V×V)=>[(2,.l ((List.range 7).map fun k=>[eI (tB k)]) true),(3,.l ((List.range 7).map fR) true),(4,eI (BH k))]) (fun k x=>[.box nn [c7,eI 0,.l [[eI 1]] true,x.1,x.2,eI 0],.box n0 [.l [] true,eI 0,.l [] true,.l [] true,.l [] true,eI 0],.own x.1 9 ((List.range k).map (mR true)),.own x.2 3 ((List.range k).map (nR true))]) (fun _ _=>True) (.l [] true,.l [] true) rfl trivial (Fl (Fl hs 9) 3) ?_;clear hs;rintro k ⟨v,u⟩ σ hk - hs;dsimp only at hs;have hr7:(List.range 7).length=7:=List.length_range;have hlr:(List.range k).length=k:=List.length_range;rcases BM (List.range 7) hk with⟨y,hy,hlt⟩|hke
 ·obtain rfl:k=y:=by
   have h:=(H4.1 hy).2;rw[List.getElem_range]at h;exact h
  have hck:BH k=k:=AM (by omega);have e1:(List.range (k+1)).map (mR true)=(List.range k++[k]).map (mR true):=by rw[List.range_succ]
  have e2:(List.range (k+1)).map (nR true)=(List.range k++[k]).map (nR true):=by rw[List.range_succ]
  have hll:(List.range k).length<Ac∧((List.range k).length+1)*104≤140737488355328:=by omega
  have hl2:(List.range k).length<Ac∧((List.range k).length+1)*40≤140737488355328:=by omega
  generalize List.range k=ks at *
  conv=>whnf
  repeat'((first|apply st|(apply sq;intro K U)|(apply si;intro A B Y Z)|(apply Y;clear Z B Y A)|(apply U;clear U K)|apply dr|refine⟨rfl,?_⟩|refine⟨kZ,?_⟩|refine ix ?_|refine ld ?_|refine EV fun σ hs=>?_|(refine Cv (fun hc=>?_)<;>(try rw[hc])<;>clear hc)|refine aq (enc:=mR true) (x:=k) (fun v σ hs hsl=>?_) (hg:=eQ)|refine aq (enc:=nR true) (x:=k) (fun v σ hs hsl=>?_) (hg:=Wd)|clear U K)<;>conv=>whnf)
  rename_i v9 _ _ _ _ _ _ _;exact⟨hlt,(v9,v),rfl,trivial,by rw[e1,e2];exact hs⟩
 ·have hl2:(List.range k).length<Ac∧((List.range k).length+1)*40≤140737488355328:=by omega
  conv=>whnf
  repeat'((first|apply st|(apply sq;intro K U)|(apply si;intro A B Y Z)|(apply Y;clear Z B Y A)|(apply U;clear U K)|refine⟨rfl,?_⟩|refine⟨kZ,?_⟩|refine ld ?_|refine EV fun σ hs=>?_|(refine EI (fun hc=>?_)<;>(try rw[hc])<;>clear hc)|refine aq (enc:=nR true) (x:=k) (fun v σ hs hsl=>?_) (hg:=Wd)|clear U K)<;>conv=>whnf)
  obtain rfl:k=7:=by omega
  have o1:=Fb hs 2 rfl;have o2:=Fb hs 3 rfl;refine F5 hs 1 rfl rfl rfl (by simp[c7,o1,o2]) (by decide) fun σ hs=>?_
  clear o1 o2
  conv=>whnf
  repeat'((first|apply st|(apply Y;clear Z B Y A)|(apply U;clear U K)|refine⟨kZ,?_⟩|refine ld ?_|fail)<;>conv=>whnf)
  have hfr:Fa σ emp (V.a [c7,eI 0,.l [[eI 1]] true,_,v,eI (((List.range 7).map fun k=>[eI (tB k)]).length:Nat)]) (V.a [.l (Ov.AL.map E3) false,eI 0,.l [[eI 1]] false,.l ((List.range 7).map (mR false)) false,.l ((List.range 7++[7]).map (nR false)) false,eI (((List.range 7).map fun k=>[eI (tB k)]).length:Nat)]):= .a (.cons bj (.cons (.refl _) (.cons L3 (.cons (Own.nS (hs.get (i:=2) rfl) (Nr jH _)) (.cons (Own.nS (hs.get (i:=3) rfl) (Nr jE _)) (.cons (.refl _) .nil))))));refine Gb (σ2:=emp) (fun n o ho=>by cases ho) hfr ?_;show R.ret _=R.ret _
  kernel_rfl
set_option maxHeartbeats 4000000 in
def dI (p : Prog) (gen:Int):Pure Tryz.prog 17 [.a (BN p),eI gen] (.t [.l (pP (LJ p gen).1) true,eI (LJ p gen).2]):=by
 refine Pure.of ?_;have hM:=Mx;have hr:=IZ p;refine pf kZ ?_;have hs:=Sn
 conv=>whnf
 repeat'((first|apply st|(apply sq;intro K U)|(apply si;intro A B Y Z)|(apply Y;clear Z B Y A)|(apply U;clear U K)|refine⟨kZ,?_⟩|fail)<;>conv=>whnf)
 refine hr.use (rest:=[]) (by simpa using hs) ?_;clear hs;cases h:(BA p).isSome
 ·have hg:=UR gen
  rintro r post σ ⟨rfl,rfl⟩ hs
  conv=>whnf
  repeat'((first|apply st|(apply sq;intro K U)|(apply si;intro A B Y Z)|(apply Y;clear Z B Y A)|(apply U;clear U K)|refine ld ?_|refine EV fun σ hs=>?_|refine FI ?_|refine hg.use ?_|(intro nn hnn;generalize hg:A7 _ nn _=σ;refine CY hg fun hs=>?_;clear hg)|clear U K)<;>conv=>whnf)
  exact AQ (by simp[LJ,h])
 ·rintro r post σ ⟨L,rfl,rfl⟩ hs
  have hg:=ZI p L gen;have hok:=look_ok h;have h16:=hok.many;have hgw:=NG h;have hfm:=KM h;cases h2:I8 p gen
  ·rw[h2]at hg
   conv=>whnf
   repeat'((first|apply st|(apply sq;intro K U)|(apply si;intro A B Y Z)|(apply Y;clear Z B Y A)|(apply U;clear U K)|refine ld ?_|refine EV fun σ hs=>?_|refine FI ?_|refine hg.use ?_|(intro nn hnn;generalize hg:A7 _ nn _=σ;refine CY hg fun hs=>?_;clear hg)|clear U K)<;>conv=>whnf)
   exact AQ (by simp[LJ,h,h2])
  rw[h2]at hg
  conv=>whnf
  repeat'((first|apply st|(apply sq;intro K U)|(apply si;intro A B Y Z)|(apply Y;clear Z B Y A)|(apply U;clear U K)|refine ld ?_|refine EV fun σ hs=>?_|refine EM ?_|refine hg.use ?_|refine Pure.use (XD _ _ _) ?_|(intro nn hnn;generalize hg:A7 _ nn _=σ;refine CY hg fun hs=>?_;clear hg)|fail)<;>conv=>whnf)
  rename_i nr _ _ _ _ _ nO _ _ _;refine SJ p L gen h16 (nn:=nn) (fun s:List (Int×Int)×List (Int×Int)×V=>[.box nO [s.2.2],.own s.2.2 2 (pP s.2.1),.box nr [Ff p L],.map L (E2 p s.1)]) (fun k s=>s.2.1=(List.range k).flatMap (JS p.methods.length (Rj p gen))) ([],[],.l [] true) rfl ((DN hs 2).perm (Hs _ _ _ _)) ?_ ?_ ?_
  ·intro k s hlt hne hi
   rw[HK,←hi,Sm (fun j=>by simp[Rj,hne]),H3]
  ·clear hs hnn
   intro k s hlt hgk hi rest σ hs;have hck:BH k=k:=AM (by omega);have hmk:A5 p (k:Int)=true:=by simp[A5];omega
   rw[←hck];refine Ec (l:=[.box nO [s.2.2],.own s.2.2 2 (pP s.2.1),.box nr [Ff p L],.map L (E2 p s.1)]++rest) rfl hs ?_;clear hs;intro σ hs
   conv=>whnf
   repeat'((first|apply st|(apply sq;intro K U)|(apply si;intro A B Y Z)|(apply Y;clear Z B Y A)|(apply U;clear U K)|refine ld ?_|refine EV fun σ hs=>?_|refine Pure.use (XD _ _ _) ?_|(intro nn hnn;generalize hg:A7 _ nn _=σ;refine CY hg fun hs=>?_;clear hg)|clear U K)<;>conv=>whnf)
   rename_i nm _ _ _ _ _;clear hnn;refine SJ p L gen h16 (nn:=nn) (fun s':List (Int×Int)×List (Int×Int)×V=> .box nm [eI (BH k)]::([.box nO [s'.2.2],.own s'.2.2 2 (pP s'.2.1),.box nr [Ff p L],.map L (E2 p s'.1)]++rest)) (fun j s'=>s'.2.1=(List.range k).flatMap (JS p.methods.length (Rj p gen))++LB (Rj p gen) k j) s (by simp[LB,hi]) hs ?_ ?_ ?_
   ·intro j s' hjlt hne hi'
    have:Rj p gen k j=false:=by
     rw[←Bool.not_eq_true];exact fun e=>hne (dJ e).1.2
    rw[Ix,this,hi'];simp
   ·clear hs hi
    intro j s' hjlt hgj hi' rest2 σ hs;have hcj:BH j=j:=AM (by omega);have hmj:A5 p (j:Int)=true:=by simp[A5];omega
    have c4:Pure Tryz.prog 44 [Ff p L,eI (BH k),eI (BH j)] (.b (Cq p k j)):=by rw[hck,hcj];exact Ms p L k j hmk hmj
    have c5:Bc Tryz.prog 54 [Ff p L,eI (BH k),eI (BH j)] [.map L (E2 p s'.1)] fun r post=>r= .ret (.b (EC p k j))∧post= [.map L (E2 p (LH s'.1 (k,j)))]:=by rw[hck,hcj];exact Hk p L k j hok hgw hfm hmk hmj s'.1
    have c6:Bc Tryz.prog 54 [Ff p L,eI (BH j),eI (BH k)] [.map L (E2 p (LH s'.1 (k,j)))] fun r post=>r= .ret (.b (EC p j k))∧post= [.map L (E2 p (LH (LH s'.1 (k,j)) (j,k)))]:=by rw[hck,hcj];exact Hk p L j k hok hgw hfm hmj hmk _
    generalize LH (LH s'.1 (k,j)) (j,k)=M2 at *;generalize LH s'.1 (k,j)=M1 at *;have hoe:Rj p gen k j=(decide (k<j)&&(Cq p k j&&(EC p k j&&EC p j k))):=by rw[Rj,hgk];simp
    have hrs:=Ix (Rj p gen) k j;have hfl:=KN p.methods.length (Rj p gen) k;have hrl:=Qz (Rj p gen) k j;have hkk:k*p.methods.length≤16*16:=Nat.mul_le_mul (by omega) h16;have hll:s'.2.1.length<Ac∧(s'.2.1.length+1)*16≤140737488355328:=by rw[hi',QP];omega
    have hno:Rj p gen k j=false→s'.2.1=(List.range k).flatMap (JS p.methods.length (Rj p gen))++LB (Rj p gen) k (j+1):=fun e=>by rw[hrs,e,hi'];simp
    rw[←hcj];refine Ec (l:= .box nm [eI (BH k)]::([.box nO [s'.2.2],.own s'.2.2 2 (pP s'.2.1),.box nr [Ff p L],.map L (E2 p s'.1)]++rest)++rest2) rfl hs ?_;clear hs;intro σ hs;by_cases hkj:k<j
    ·cases hal:Cq p k j<;>rw[hal]at c4
     ·conv=>whnf
      repeat'((first|apply st|(apply sq;intro K U)|(apply si;intro A B Y Z)|(apply Y;clear Z B Y A)|(apply U;clear U K)|refine⟨rfl,?_⟩|refine ld ?_|refine EM ?_|refine c4.use ?_|(constructor<;>intro hc<;>(try rw[hc])<;>(replace hc:=bp hc)<;>(try simp(disch:=omega) only[BR,wrap64,AM]at hc)<;>try(exfalso;omega))|fail)<;>conv=>whnf)
      intro hn;exact⟨s',rfl,hno (by rw[hoe,hal];simp),hs.JW hn⟩
     ·cases hi1:EC p k j<;>rw[hi1]at c5
      all_goals
       conv=>whnf
       repeat'((first|apply st|(apply sq;intro K U)|(apply si;intro A B Y Z)|(apply Y;clear Z B Y A)|refine⟨rfl,?_⟩|refine ld ?_|refine FI ?_|refine c4.use ?_|(constructor<;>intro hc<;>(try rw[hc])<;>(replace hc:=bp hc)<;>(try simp(disch:=omega) only[BR,wrap64,AM]at hc)<;>try(exfalso;omega))|fail)<;>conv=>whnf)
       refine c5.use (rest:=_) (hs.front (j:=4) rfl) ?_;clear hs;rintro r post σ ⟨rfl,rfl⟩ hs
       conv=>whnf
       repeat'((first|apply st|(apply Y;clear Z B Y A)|(apply U;clear U K)|refine ld ?_|refine FI ?_|refine EM ?_|fail)<;>conv=>whnf)
      ·intro hn
       exact⟨(M1,s'.2.1,s'.2.2),rfl,hno (by rw[hoe,hi1];simp),(Sat.back (l:=(.box nm [eI (BH k)]::([.box nO [s'.2.2],.own s'.2.2 2 (pP s'.2.1),.box nr [Ff p L],.map L (E2 p M1)]++rest))++rest2) (j:=4) hs rfl).JW hn⟩
      cases hi2:EC p j k<;>rw[hi2]at c6
      all_goals
       refine c6.use (rest:=_) hs ?_;clear hs;rintro r post σ ⟨rfl,rfl⟩ hs
       conv=>whnf
       repeat'((first|apply st|(apply si;intro A B Y Z)|(apply Y;clear Z B Y A)|(apply U;clear U K)|refine ld ?_|refine EV fun σ hs=>?_|refine FI ?_|refine EM ?_|refine aq (enc:=pI) (x:=((_:Int),(_:Int))) (fun v σ hs hsl=>?_) (hg:=LP)|fail)<;>conv=>whnf)
      ·intro hn
       exact⟨(M2,s'.2.1,s'.2.2),rfl,hno (by rw[hoe,hi2];simp),(Sat.back (l:=(.box nm [eI (BH k)]::([.box nO [s'.2.2],.own s'.2.2 2 (pP s'.2.1),.box nr [Ff p L],.map L (E2 p M2)]++rest))++rest2) (j:=4) hs rfl).JW hn⟩
      ·intro hn
       refine⟨(M2,s'.2.1++[((k:Int),(j:Int))],v),rfl,?_,Sat.JW ?_ hn⟩
       ·rw[hrs,show Rj p gen k j=true by rw[hoe,hi1,hi2,hal];simp[hkj],hi',if_pos rfl,T0]
       ·rw[show((k:Int),(j:Int))=(BH k,BH j) by rw[hck,hcj]]
        exact Sat.back (l:=(.box nm [eI (BH k)]::([.box nO [v],.own v 2 (pP (s'.2.1++[(BH k,BH j)])),.box nr [Ff p L],.map L (E2 p M2)]++rest))++rest2) (j:=4) hs rfl
    ·conv=>whnf
     repeat'((first|apply st|(apply sq;intro K U)|(apply si;intro A B Y Z)|(apply Y;clear Z B Y A)|(apply U;clear U K)|refine⟨rfl,?_⟩|refine ld ?_|(constructor<;>intro hc<;>(try rw[hc])<;>(replace hc:=bp hc)<;>(try simp(disch:=omega) only[BR,wrap64,AM]at hc)<;>try(exfalso;omega))|fail)<;>conv=>whnf)
     intro hn;exact⟨s',rfl,hno (by rw[hoe,decide_eq_false hkj];rfl),hs.JW hn⟩
   ·clear hs hi
    intro s' σ hi' hs;refine FR hs fun σ hs=>?_
    conv=>whnf
    intro hn;exact⟨s',rfl,by rw[HK];exact hi',(hs.less (JR _ _)).JW hn⟩
  ·clear hs hnn
   intro s σ hi hs;refine FR hs fun σ hs=>?_
   conv=>whnf
   repeat'((first|(apply sq;intro K U)|(apply si;intro A B Y Z)|(apply U;clear U K)|refine ld ?_|fail)<;>conv=>whnf)
   refine(Z1 s.2.1 s.2.2 (by have:=KN p.methods.length (Rj p gen) p.methods.length;have:p.methods.length*p.methods.length≤16*16:=Nat.mul_le_mul h16 h16;rw[hi];omega)).use (rest:=_) (hs.front (j:=1) rfl) ?_;clear hs;rintro r post σ ⟨rfl,rfl⟩ hs
   conv=>whnf
   repeat'((first|apply st|(apply Y;clear Z B Y A)|(apply U;clear U K)|fail)<;>conv=>whnf)
   exact AQ (by simp[LJ,h,h2,Ej,hi])
end Go.Gl
namespace Go.Gl
open Go.Proofs
abbrev vD:Pl:=⟨[],false,[4,3],[1,0],false,[5,6]⟩
abbrev vC:Pl:=⟨[],false,[4,3],[],true,[5,6]⟩
def oh:Hy Ov [(4,[])] 0 [(3,0)]=(vD,0):=by kernel_rfl
def og:Hy Ov [(6,[])] 0 [(3,0)]=(vC,0):=by kernel_rfl
def oj:Hy Ov [] 0 [(1,0)]=(gZ,5):=by kernel_rfl
def oe:Hb Ov [0,1,2]=(([],true),0):=by kernel_rfl
def od:Dx Ov 0 1=([(1,0),(2,0)],0):=by kernel_rfl
def oa:LJ Ov 0=([],0):=by kernel_rfl
def nT (c:Int) (b b2:Bool):Pure Tryz.prog 20 [.a (BN Ov),.l [[eI c,.l [] true]] b,eI 0,.l [[eI 3,eI 0]] b2] (tN (Hy Ov [(c,[])] 0 [(3,0)]) true):=
 (Qs Ov [(c,[])] false 0 [(3,0)] b2).arg (.cons (.refl _) (.cons (.l (fun h=>by cases h) (.cons (.cons (.refl _) (.cons Cc .nil)) .nil)) (.cons (.refl _) (.cons (.refl _) .nil))))
attribute [local irreducible] BD Aw Ai AU AO Ah AV AW AN Ag AS AT Ay A9 Sat Ab A4 Aj W
set_option maxHeartbeats 4000000 in
def WQ:Pure Tryz.prog 14 [] (.b true):=by
 have a1:=RP Ov 1 0;have a2:=RP Ov 1 2;have a3:=RP Ov 0 3;rw[jc]at a1;rw[jb]at a2;rw[jd]at a3;have k4:=fun b c=>nT 4 b c
 have k6:=fun b c=>nT 6 b c
 have k0:=fun b c=>Qs Ov [] b 0 [(1,0)] c
 rw[oh]at k4;rw[og]at k6;rw[oj]at k0;have ch:=fun b=>fC Ov [0,1,2] b (by decide)
 rw[oe]at ch;have or:=Q1 Ov 0 1;rw[od]at or;have tw:=dI Ov 0;rw[oa]at tw;have sp: ∀b c,Pure Tryz.prog 19 [.l (pP [(1,0),(2,0)]) b,.l (pP [(1,0),(2,0)]) c] (.b true):=fun b c=>MC [(1,0),(2,0)] [(1,0),(2,0)] b c (by decide) (by decide)
 refine ph kZ ?_;have hs:=Sn
 conv=>whnf
 repeat'((first|apply st|(apply sq;intro K U)|(apply si;intro A B Y Z)|(apply Y;clear Z B Y A)|(apply U;clear U K)|refine⟨rfl,?_⟩|refine⟨kZ,?_⟩|refine ld ?_|refine DT fun σ hs=>?_|refine EM ?_|refine JU ?_|refine tj.use ?_|refine a1.use ?_|refine a2.use ?_|refine a3.use ?_|refine Pure.use (k4 _ _) ?_|refine Pure.use (k6 _ _) ?_|refine Pure.use (k0 _ _) ?_|refine Pure.use (ch _) ?_|refine or.use ?_|refine tw.use ?_|refine Pure.use (sp _ _) ?_|refine Pure.use (Qh vD _ _ _ _) ?_|refine Pure.use (Qh vC _ _ _ _) ?_|(constructor<;>intro hc<;>(try rw[hc])<;>(replace hc:=bp hc)<;>(try simp(disch:=omega) only[BR,wrap64,AM]at hc)<;>try(exfalso;omega))|(intro nn hnn;generalize hg:A7 _ nn _=σ;refine CY hg fun hs=>?_;clear hg)|clear U K)<;>conv=>whnf)
 all_goals first
  | exact AI rfl
  | (exfalso;simp at hc;done)
  | (exfalso;clear hc;rename_i hc;simp at hc;done)
end Go.Gl
namespace Go.Gl
open Go.Proofs Go.ChangeShapes Go.WideShapes Go.ChangeAt Go.RowKit
section
variable {H:Type} {enc:TypeId×Value→H} {P:Program} {W:World}
def ng {t:TypeId} (ht:P.underlying t=some (.int .u8)):Oz enc P W t fun x:Int=>[V.i .u8 x]:=fun n cs d ps h _=>by
 obtain⟨k,rfl,-,hw⟩:=DataW.trod_int ht h;simp only[Lit.wf,BV,CL]at hw;refine⟨k,rfl,⟨_,rfl,?_⟩,trivial⟩;simp only[AY]
 first
  | exact⟨rfl,hw⟩
  | exact⟨trivial,hw⟩
  | exact hw
def Xd {n:Nat} {t e:TypeId} {sz:Nat} {α:Type} {ea:α→List V} (ht:P.underlying t=some (.slice e)) (hc:P.cellsOf e=sz) (hsz:0<sz) (he: ∀a,(ea a).length=sz) (h:Yv enc P W n e ea)
    {a0:Option Addr} {len0 cap0:Nat} {d:DataW H} {ps:List MemPlace} (htr:DataW.trod enc P W 0 (fun _=>true) true (n+1) t [.slice a0 len0 cap0]=some (d,ps)) (hw: ∀x∈d.weights P t,x≤reachBytes) (hM:len0≤Ac) :
    ∃l:List α,AY (Hh (fun _=>False) emp W) (.l (l.map ea) false) (.slice a0 len0 cap0):=by
 rcases DataW.trod_slice ht htr with⟨hcs,hx⟩|⟨a,len,cap,elems,rest,n',hn,hcs,hx,-,hl,hm,hlen,hel,-,-⟩
 ·simp only[List.cons.injEq,Value.slice.injEq,and_true]at hcs
  obtain⟨rfl,rfl,rfl⟩:=hcs;refine⟨[],?_⟩;simp only[List.map_nil,AY];exact⟨none,0,rfl,IE _,fun h=>(by cases h),Nat.zero_le _,fun _=>rfl,fun h=>absurd rfl h⟩
 ·simp only[List.cons.injEq,Value.slice.injEq,and_true]at hcs
  obtain⟨rfl,rfl,rfl⟩:=hcs;obtain rfl:n'=n:=by omega
  simp only[Prod.mk.injEq]at hx;obtain⟨rfl,-⟩:=hx;simp only[DataW.weights,ht,FE,FX]at hw;have hwl:=hw _ (.inl rfl)
  have hwe: ∀(l:List (DataW H)) (D:DataW H),D∈l→ ∀x∈D.weights P e,x∈DataW.weightsAll P e l:=by
   intro l
   induction l with
   | nil=>intro D hD;cases hD
   | cons y r ih=>
     intro D hD x hx;simp only[DataW.weightsAll,FX];rcases FE.1 hD with rfl|hD
     ·exact .inl hx
     ·exact .inr (ih D hD x hx)
  have each: ∀i,i<len0→ ∃v:α,∃cs',W.cells? 0 (a.add (i*sz)) sz=some cs'∧BZ (Hh (fun _=>False) emp W) (fun j=>cs'[j]?) 0 (ea v):=fun i hi=>by
   have hi':=hel i hi;obtain⟨x,hx⟩: ∃x,elems[i]? =some x:=⟨_,DZ (by omega)⟩
   rw[hx,Option.bind_eq_some_iff,hc]at hi';obtain⟨cs',h1,h2⟩:=hi';obtain⟨v,-,h4⟩:=h cs' x.1 x.2 h2 fun y hy=>hw y (.inr (.inl (hwe _ x.1 (Ls.2 ⟨x,Cg hx,rfl⟩) y hy)))
   exact⟨v,cs',h1,h4⟩
  obtain⟨l,hll,hlc⟩:=Ih len0 each;refine⟨l,?_⟩;simp only[AY,BR];refine⟨some a,cap0,by rw[hll],by omega,fun h=>(by cases h),by omega,fun h=>(by cases h),fun hne=>?_⟩;obtain⟨b,o,spot⟩:=a
  have h0:0<l.length:=by
   rcases l with _|⟨v,r⟩
   ·exact absurd rfl hne
   ·simp
  have hspot:spot=none:=by
   obtain⟨cs',h1,-⟩:=hlc 0 l[0] (DZ h0);obtain⟨-,h3,h4⟩:=World.cells?_some h1;have h5:=h4 0 hsz;rw[DZ (by omega)]at h5;have:=World.cell?_spot h5;simpa[Addr.add]using this
  subst hspot
  have hcell: ∀i v,l[i]? =some v→ ∀k u,(ea v)[k]? =some u→ ∃c,W.cell? ⟨b,o+i*sz+k,none⟩=some c∧AY (Hh (fun _=>False) emp W) u c:=fun i v hv k u hu=>by
   obtain⟨cs',h1,h2⟩:=hlc i v hv;obtain⟨-,h3,h4⟩:=World.cells?_some h1;have hk:k<sz:=by rw[←he v];exact(H4.1 hu).1
   obtain⟨c,hc',hr⟩:=Bb.1 h2 k u hu;have h5:=h4 k hk;simp only[Gf]at hc';rw[add_plain,add_plain]at h5;exact⟨c,by rw[←hc',←h5],hr⟩
  refine⟨b,o,sz,rfl,BG.2 fun j e hj=>?_⟩;rw[PF]at hj;obtain⟨v,hv,rfl⟩:=Option.map_eq_some_iff.1 hj;refine⟨he v,Bb.2 fun k u hu=>?_⟩;obtain⟨c,h1,h2⟩:=hcell j v hv k u hu;exact⟨c,by rw[UO];exact h1,h2⟩
end
def X5 {w w':World} (h:Below w.heap.size w w'):T3 (Hh (fun _=>False) emp w) (Hh (fun _=>False) emp w'):=fun b o c hc=>by
 rw[UO]at hc ⊢;unfold World.cell? at hc ⊢;cases hb:w.heap[b]? with
 | none=>rw[hb]at hc;simp at hc
 | some ob=>
   have hlt:=(fT.1 hb).1;rw[h.block b hlt];exact hc
end Go.Gl
