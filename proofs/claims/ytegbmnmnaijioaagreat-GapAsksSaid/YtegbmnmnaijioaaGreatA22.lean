import Derived.Test.YtegbmnmnaijioaaGreatA15
import Derived.Test.YtegbmnmnaijioaaGreatA16
set_option linter.all false
set_option linter.defProp false
noncomputable section
namespace Go.Gl
open Go.Proofs
def xT {σ:AH} {x:Fact} {r:List Fact} {f:Bool} {K:V→AH→Prop} (h: ∀b,K (.l (facts r) b) σ):AU σ 6 (.l (facts (x::r)) f) (some (.i .i64 1)) none none K:=by
 refine⟨fun e he=>?_,?_⟩
 ·obtain⟨x,_,rfl⟩:=MN.1 he
  rw[BL];rfl
 ·simp only[NV,A9,K2]
  refine⟨by omega,by omega,by omega,?_⟩;have:=h (f&&decide (((r.length+1:Nat):Int)=((r.length+1:Nat):Int)));simpa[List.map_take,List.take_of_length_le]using this
attribute [local irreducible] BC Aw Ai AV AM Ah AU AW AN Ag AQ AS A3 BA Sat Ab A8 Ak W
attribute [local irreducible] Fz
def jf (op:Int):List Fact→Fact
 | []=> .mk 1 0 [] 0 0 []
 | [x]=>x
 | x::y::r=> .mk op 0 [] 0 0 [x,jf op (y::r)]
def nj (op:Int): ∀(l:List Fact),l≠[]→l.length≤100→ ∀b,Pure Tryz.prog 91 [eI op,.l (facts l) b] (.a (xF (jf op l)))
 | [],h,_,_=>absurd rfl h
 | [x],_,_,b=>by
   have hx0: [x][Int.toNat 0]? =some x:=rfl;have hl:((facts [x]).length:Int)=1:=rfl;refine oB kZ ?_;have hs:=Sn
   conv=>whnf
   repeat'((first|apply st|(apply sq;intro K U)|(apply si;intro A B Y Z)|(apply Y;clear Z B Y A)|(apply U;clear U K)|apply dr|refine⟨rfl,?_⟩|refine⟨kZ,?_⟩|refine MY ?_|refine ld ?_|refine Cw fun σ hs=>?_|refine xT fun b=>?_|(constructor<;>intro hc<;>(try rw[hc])<;>(replace hc:=bp hc)<;>(try simp(disch:=omega) only[A9,wrap64,AK]at hc))|(intro nn hnn;generalize hg:A0 _ nn _=σ;refine CZ hg fun hs=>?_;clear hg)|clear U K)<;>conv=>whnf)
   all_goals try(exfalso;simp at hc;done)
   all_goals try(exfalso;rename_i h;simp at h;done)
   all_goals try(exfalso;rename_i h _ _ _ _ _ _;simp at h;done)
   all_goals try(exfalso;simp at hx;done)
   all_goals try(exfalso;simp at hc;omega)
   all_goals try exact AI rfl
   all_goals
    refine Al (.a (.cons (.refl _) (.cons (.refl _) (.cons Cy (.cons (.refl _) (.cons (.refl _) (.cons ?_ .nil)))))));refine .l (fun h=>by cases h) ?_;simp only[jf,Fact.kids,List.map,BL];exact CY _
 | x ::y::r,_,hl,b=>by
   have hx0:(x::y::r)[Int.toNat 0]? =some x:=rfl;have c1:=nj op (y::r) (by simp) (by simp at hl ⊢;omega);refine oB kZ ?_;have hs:=Sn
   conv=>whnf
   repeat'((first|apply st|(apply sq;intro K U)|(apply si;intro A B Y Z)|(apply Y;clear Z B Y A)|(apply U;clear U K)|apply dr|refine rk ?_ ?_|exact fun s e=>by cases e;rfl|refine⟨rfl,?_⟩|refine⟨kZ,?_⟩|refine MY ?_|refine ld ?_|refine Cw fun σ hs=>?_|refine Pure.use (c1 _) ?_|refine xT fun b=>?_|(constructor<;>intro hc<;>(try rw[hc])<;>(replace hc:=bp hc)<;>(try simp(disch:=omega) only[A9,wrap64,AK]at hc))|(intro nn hnn;generalize hg:A0 _ nn _=σ;refine CZ hg fun hs=>?_;clear hg)|clear U K)<;>conv=>whnf)
   all_goals try(exfalso;simp at hc;done)
   all_goals try(exfalso;rename_i h;simp at h;done)
   all_goals try(exfalso;rename_i h _ _ _ _ _ _;simp at h;done)
   all_goals try(exfalso;simp at hx;done)
   all_goals try(exfalso;simp at hc;omega)
   all_goals try exact AI rfl
   all_goals
    refine Al (.a (.cons (.refl _) (.cons (.refl _) (.cons Cy (.cons (.refl _) (.cons (.refl _) (.cons ?_ .nil)))))));refine .l (fun h=>by cases h) ?_;simp only[jf,Fact.kids,List.map,BL];exact CY _
def It (p:Prog) (set:List Int) (m:Int):Fact:=if set.contains m then(Bh p m).fact else Eo (Bh p m).fact
def Gf (p:Prog) (gen:Int) (set:List Int):Fact:=jf 6 ((J0 p gen).map (It p set))
def fG {p:Prog} {gen:Int}: ∀x∈J0 p gen,BQ p x=true:=fun x hx=>by
 have:=(List.contains_iff_mem).2 hx;rw[ZS,BJ]at this;exact this.1
def gC:Pure Tryz.prog 90 [] (.a (xF (Fact.mk 1 0 [] 0 0 []))):=by
 refine we kZ ?_;have hs:=Sn
 conv=>whnf
 repeat'((first|apply st|(apply sq;intro K U)|(apply si;intro A B Y Z)|(apply Y;clear Z B Y A)|(apply U;clear U K)|refine⟨kZ,?_⟩|refine ld ?_|refine Cw fun σ hs=>?_|(intro nn hnn;generalize hg:A0 _ nn _=σ;refine CZ hg fun hs=>?_;clear hg)|fail)<;>conv=>whnf)
 all_goals exact Al (.a (.cons (.refl _) (.cons (.refl _) (.cons Cy (.cons (.refl _) (.cons (.refl _) (.cons Cy .nil)))))))
def nA (p : Prog) (gen:Int) (l:List Int) (f:Bool) (h16:p.methods.length≤16):Pure Tryz.prog 85 [.a (BR p),eI gen,.l (iL l) f] (.a (xF (Gf p gen l))):=by
 refine Pure.fit (by kernel_rfl) fun hf=>?_
 have F:=HV hf.1;have⟨p1,p2,p3,p4⟩:=Er hf.1;have hlM:=JF hf.2.2.1;have hM:=Mx;have c1:=Vx p gen h16;have hml:=OU p gen p.methods.length;rw[←J0]at hml;have hmm:=fG (p:=p) (gen:=gen);rw[Gf];generalize J0 p gen=ms at *;refine wk kZ ?_;have hs:=Sn
 conv=>whnf
 repeat'((first|apply st|(apply sq;intro K U)|(apply si;intro A B Y Z)|(apply Y;clear Z B Y A)|(apply U;clear U K)|refine⟨kZ,?_⟩|refine c1.use ?_|(intro nn hnn;generalize hg:A0 _ nn _=σ;refine CZ hg fun hs=>?_;clear hg)|fail)<;>conv=>whnf)
 refine CA ms.length (fun k v=>[(7,v),(18,eI (BG k))]) (fun k v=>[.box nn [.i .i64 0,.i .i64 0,.l [] true,.i .i64 0,.i .i64 0,.l [] true],.own v 6 (facts ((ms.take k).map (It p l)))]) (fun _ _=>True) (.l [] true) rfl trivial (EM hs 6) ?_;clear hs;rintro k v σ hk - hs;rcases BI ms hk with⟨x,hx,hlt⟩|hke
 ·have hck:BG k=k:=AK (by omega)
  have hst:(ms.take (k+1)).map (It p l)=(ms.take k).map (It p l)++[It p l x]:=by rw[AO hx,Sd];rfl
  have hmx:=hmm x (B9 hx);have hxP:=B8 hmx;have hxr:=hmx;simp only[BQ,BJ,Cn]at hxr;have c2:=W7 (Bh p x).fact;have hzl:((ms.take k).map (It p l)).length≤16:=by rw[A9,K1];omega
  generalize (ms.take k).map (It p l)=zs at *;have hll:zs.length<Ad∧(zs.length+1)*80≤140737488355328:=by omega
  rw[It]at hst;generalize Bh p x=mx at *;clear hnn;generalize nn=n6 at *
  conv=>whnf
  repeat'((first|apply st|(apply sq;intro K U)|(apply si;intro A B Y Z)|(apply Y;clear Z B Y A)|(apply U;clear U K)|refine⟨rfl,?_⟩|refine⟨kZ,?_⟩|refine ix ?_|refine HI ?_|refine Cw fun σ hs=>?_|(refine CU (fun hc=>?_)<;>(try rw[hc])<;>clear hc)|(intro nn hnn;generalize hg:A0 _ nn _=σ;refine CZ hg fun hs=>?_;clear hg)|fail)<;>conv=>whnf)
  refine CA l.length (fun j (b:Bool)=>[(11,.b b),(30,eI (BG j))]) (fun _ _=>[.box nn (xF mx.fact),.box n6 [.i .i64 0,.i .i64 0,.l [] true,.i .i64 0,.i .i64 0,.l [] true],.own v 6 (facts zs)]) (fun j b=>b=(l.take j).contains x) false rfl (by simp) hs ?_;clear hs;rintro j b σ hj hb hs;rcases BI l hj with⟨y,hy,hjl⟩|hje
  ·have hs2:(l.take (j+1)).contains x=(b||decide (x=y)):=by rw[hb,AO hy,List.contains_append];simp
   cases b
   ·by_cases hyx:y=x
    ·subst hyx
     conv=>whnf
     repeat'((first|apply st|(apply sq;intro K U)|(apply si;intro A B Y Z)|(apply Y;clear Z B Y A)|(apply U;clear U K)|refine⟨rfl,?_⟩|refine ix ?_|(refine CU (fun hc=>?_)<;>(try rw[hc])<;>clear hc)|clear U K)<;>conv=>whnf)
     all_goals exact⟨hjl,_,rfl,by rw[hs2];simp,hs⟩
    ·conv=>whnf
     repeat'((first|apply st|(apply sq;intro K U)|(apply si;intro A B Y Z)|(apply Y;clear Z B Y A)|(apply U;clear U K)|refine⟨rfl,?_⟩|refine ix ?_|(refine CU (fun hc=>?_)<;>(try rw[hc])<;>clear hc)|clear U K)<;>conv=>whnf)
     all_goals exact⟨hjl,_,rfl,by rw[hs2,decide_eq_false fun e=>hyx e.symm];simpa using hyx,hs⟩
   ·conv=>whnf
    repeat'((first|apply st|(apply sq;intro K U)|(apply si;intro A B Y Z)|(apply Y;clear Z B Y A)|(apply U;clear U K)|refine⟨rfl,?_⟩|refine ix ?_|(refine CU (fun hc=>?_)<;>(try rw[hc])<;>clear hc)|clear U K)<;>conv=>whnf)
    all_goals exact⟨hjl,_,rfl,by rw[hs2];simp,hs⟩
  ·rw[Ap hje]at hb
   rw[←hb]at hst;cases b
   ·rw[if_neg (by decide)]at hst
    conv=>whnf
    repeat'((first|apply st|(apply sq;intro K U)|(apply si;intro A B Y Z)|(apply Y;clear Z B Y A)|(apply U;clear U K)|refine⟨rfl,?_⟩|refine⟨kZ,?_⟩|refine ld ?_|refine Cw fun σ hs=>?_|refine oa fun v σ hs hsl=>?_|refine HK ?_|(refine Dl (fun hc=>?_)<;>(try rw[hc])<;>clear hc)|refine c2.use ?_|clear U K)<;>conv=>whnf)
    exact⟨hlt,_,rfl,trivial,by rw[hst];exact hs.less (Jz _ _)⟩
   ·rw[if_pos rfl]at hst
    conv=>whnf
    repeat'((first|apply st|(apply sq;intro K U)|(apply si;intro A B Y Z)|(apply Y;clear Z B Y A)|(apply U;clear U K)|refine⟨rfl,?_⟩|refine⟨kZ,?_⟩|refine ld ?_|refine oa fun v σ hs hsl=>?_|refine FP ?_|(refine Dl (fun hc=>?_)<;>(try rw[hc])<;>clear hc)|clear U K)<;>conv=>whnf)
    exact⟨hlt,_,rfl,trivial,by rw[hst];exact hs.less (Jz _ _)⟩
 ·rw[Ap hke]at hs
  have c3:=nj 6 (ms.map (It p l))
  conv=>whnf
  repeat'((first|(refine vI ?_;intro K U)|(apply si;intro A B Y Z)|(apply Y;clear Z B Y A)|(apply U;clear U K)|refine⟨rfl,?_⟩|fail)<;>conv=>whnf)
  refine xb ?_
  conv=>whnf
  repeat'((first|apply st|(refine vI ?_;intro K U)|(apply si;intro A B Y Z)|(apply Y;clear Z B Y A)|(apply U;clear U K)|refine⟨rfl,?_⟩|refine lo ?_|(refine Dl (fun hc=>?_)<;>(try rw[hc])<;>clear hc)|clear U K)<;>conv=>whnf)
  refine nr hs 1 rfl (fun σ2 h=> .cons (.refl _) (.cons h (.cons (.refl _) .nil))) fun σ hs=>?_
  cases ms with
  | nil=>
    conv=>whnf
    repeat'((first|apply st|(apply sq;intro K U)|(apply si;intro A B Y Z)|(apply Y;clear Z B Y A)|(apply U;clear U K)|refine⟨kZ,?_⟩|refine ld ?_|refine Cw fun σ hs=>?_|refine gC.use ?_|(constructor<;>intro hc<;>(try rw[hc])<;>(replace hc:=bp hc)<;>(try simp(disch:=omega) only[A9,wrap64,AK]at hc))|clear U K)<;>conv=>whnf)
    all_goals try(exfalso;simp at hc;done)
    all_goals exact AI rfl
  | cons x r=>
    have hcl:((facts (List.map (It p l) (x::r))).length:Int)≠0:=by simp;omega
    conv=>whnf
    repeat'((first|apply st|(apply sq;intro K U)|(apply si;intro A B Y Z)|(apply Y;clear Z B Y A)|(apply U;clear U K)|refine⟨kZ,?_⟩|refine ld ?_|refine Cw fun σ hs=>?_|refine gC.use ?_|(constructor<;>intro hc<;>(try rw[hc])<;>(replace hc:=bp hc)<;>(try simp(disch:=omega) only[A9,wrap64,AK]at hc))|clear U K)<;>conv=>whnf)
    all_goals try(exfalso;simp at hc;omega)
    refine xb ?_;replace c3:=fun b=>c3 (by simp) (by simp at hml ⊢;omega) b
    conv=>whnf
    repeat'((first|apply st|(apply sq;intro K U)|(apply si;intro A B Y Z)|(apply Y;clear Z B Y A)|(apply U;clear U K)|refine⟨kZ,?_⟩|refine ld ?_|refine Cw fun σ hs=>?_|refine Pure.use (c3 _) ?_|fail)<;>conv=>whnf)
    exact AI rfl
def Nf:Fact:= .mk 0 0 [] 0 0 []
def O4 (p:Prog) (gen:Int) (l:List Int):Fact×Int:=if GY p gen then(if Fe p gen l then(if(J0 p gen).length≤8 then(if CS (AR p) (Gf p gen l)then(Gf p gen l,0)else(Nf,3))else(Nf,3))else(Nf,2))else(Nf,2)
def JE {σ σ':AH} {a b:Bool}:FV σ σ' (.a [.i .i64 0,.i .i64 0,.l [] a,.i .i64 0,.i .i64 0,.l [] b]) (.a (xF Nf)):= .a (.cons (.refl _) (.cons (.refl _) (.cons Cy (.cons (.refl _) (.cons (.refl _) (.cons Cy .nil))))))
def xP (p:Prog) (gen:Int) (l:List Int) (f:Bool):Pure Tryz.prog 26 [.a (BR p),eI gen,.l (iL l) f] (.t [.a (xF (O4 p gen l).1),eI (O4 p gen l).2]):=by
 refine Pure.fit (by kernel_rfl) fun hf=>?_
 have F:=HV hf.1;have c1:=gF p gen;have c2:=vw p gen l f;rw[O4];cases h1:GY p gen<;>rw[h1]at c1
 ·rw[if_neg (by decide)]at c1 ⊢
  refine Us kZ ?_;have hs:=Sn
  conv=>whnf
  repeat'((first|apply st|(apply sq;intro K U)|(apply si;intro A B Y Z)|(apply Y;clear Z B Y A)|(apply U;clear U K)|refine⟨rfl,?_⟩|refine⟨kZ,?_⟩|refine ld ?_|refine Cw fun σ hs=>?_|refine c1.use ?_|(constructor<;>intro hc<;>(try rw[hc])<;>(replace hc:=bp hc)<;>try(exfalso;omega))|(intro nn hnn;generalize hg:A0 _ nn _=σ;refine CZ hg fun hs=>?_;clear hg)|clear U K)<;>conv=>whnf)
  all_goals exact Al (.t (.cons JE (.cons (.refl _) .nil)))
 rw[if_pos rfl]at c1 ⊢;rw[GY,BJ]at h1;have hok:=look_ok h1.1;have c3:=nc p gen hok.many;cases h2:Fe p gen l<;>rw[h2]at c2
 ·rw[if_neg (by decide)]
  refine Us kZ ?_;have hs:=Sn
  conv=>whnf
  repeat'((first|apply st|(apply sq;intro K U)|(apply si;intro A B Y Z)|(apply Y;clear Z B Y A)|(apply U;clear U K)|refine⟨rfl,?_⟩|refine⟨kZ,?_⟩|refine ld ?_|refine Cw fun σ hs=>?_|refine HK ?_|refine c1.use ?_|refine c2.use ?_|(constructor<;>intro hc<;>(try rw[hc])<;>(replace hc:=bp hc)<;>(try simp(disch:=omega) only[A9,wrap64,AK]at hc)<;>try(exfalso;omega))|(intro nn hnn;generalize hg:A0 _ nn _=σ;refine CZ hg fun hs=>?_;clear hg)|clear U K)<;>conv=>whnf)
  all_goals exact Al (.t (.cons JE (.cons (.refl _) .nil)))
 rw[if_pos rfl];have c5:=nA p gen l f hok.many;have c6:=OF p F hok.nf hok.AJ;have c7:=VZ (AR p) (Gf p gen l);clear h1 hok h2;generalize Gf p gen l=x at *;by_cases h3:(J0 p gen).length≤8
 ·rw[if_pos h3]at c3 ⊢
  cases h4:CS (AR p) x<;>rw[h4]at c7
  ·rw[if_neg (by decide)]
   refine Us kZ ?_;have hs:=Sn
   conv=>whnf
   repeat'((first|apply st|(apply sq;intro K U)|(apply si;intro A B Y Z)|(apply Y;clear Z B Y A)|(apply U;clear U K)|apply dr|refine rk ?_ ?_|exact fun s e=>by cases e;rfl|refine⟨rfl,?_⟩|refine⟨kZ,?_⟩|refine ld ?_|refine Cw fun σ hs=>?_|refine HK ?_|refine FP ?_|refine c1.use ?_|refine c2.use ?_|refine c3.use ?_|refine c5.use ?_|refine c6.use ?_|refine c7.use ?_|(constructor<;>intro hc<;>(try rw[hc])<;>(replace hc:=bp hc)<;>(try simp(disch:=omega) only[A9,wrap64,AK]at hc)<;>try(exfalso;omega))|(intro nn hnn;generalize hg:A0 _ nn _=σ;refine CZ hg fun hs=>?_;clear hg)|clear U K)<;>conv=>whnf)
   all_goals exact Al (.t (.cons JE (.cons (.refl _) .nil)))
  ·rw[if_pos rfl]
   refine Us kZ ?_;have hs:=Sn
   conv=>whnf
   repeat'((first|apply st|(apply sq;intro K U)|(apply si;intro A B Y Z)|(apply Y;clear Z B Y A)|(apply U;clear U K)|apply dr|refine rk ?_ ?_|exact fun s e=>by cases e;rfl|refine⟨rfl,?_⟩|refine⟨kZ,?_⟩|refine ld ?_|refine Cw fun σ hs=>?_|refine FP ?_|refine c1.use ?_|refine c2.use ?_|refine c3.use ?_|refine c5.use ?_|refine c6.use ?_|refine c7.use ?_|(constructor<;>intro hc<;>(try rw[hc])<;>(replace hc:=bp hc)<;>(try simp(disch:=omega) only[A9,wrap64,AK]at hc)<;>try(exfalso;omega))|(intro nn hnn;generalize hg:A0 _ nn _=σ;refine CZ hg fun hs=>?_;clear hg)|fail)<;>conv=>whnf)
   all_goals exact AI rfl
 ·rw[if_neg h3]at c3 ⊢
  refine Us kZ ?_;have hs:=Sn
  conv=>whnf
  repeat'((first|apply st|(apply sq;intro K U)|(apply si;intro A B Y Z)|(apply Y;clear Z B Y A)|(apply U;clear U K)|apply dr|refine rk ?_ ?_|exact fun s e=>by cases e;rfl|refine⟨rfl,?_⟩|refine⟨kZ,?_⟩|refine ld ?_|refine Cw fun σ hs=>?_|refine FP ?_|refine c1.use ?_|refine c2.use ?_|refine c3.use ?_|refine c5.use ?_|(constructor<;>intro hc<;>(try rw[hc])<;>(replace hc:=bp hc)<;>(try simp(disch:=omega) only[A9,wrap64,AK]at hc)<;>try(exfalso;omega))|(intro nn hnn;generalize hg:A0 _ nn _=σ;refine CZ hg fun hs=>?_;clear hg)|clear U K)<;>conv=>whnf)
  all_goals exact Al (.t (.cons JE (.cons (.refl _) .nil)))
end Go.Gl
namespace Go.Gl
open Go.Proofs
attribute [local irreducible] BC Aw Ai AV AM Ah AU AW AN Ag AQ AS A3 BA Sat Ab A8 Ak W
attribute [local irreducible] Fz
def yG (f:Fact):Pure Tryz.prog 82 [.a (xF f)] (.a (xF (Eo f))):=by
 refine wm kZ ?_;have hs:=Sn
 conv=>whnf
 repeat'((first|apply st|(apply sq;intro K U)|(apply si;intro A B Y Z)|(apply Y;clear Z B Y A)|(apply U;clear U K)|refine⟨kZ,?_⟩|refine ld ?_|refine Cw fun σ hs=>?_|(intro nn hnn;generalize hg:A0 _ nn _=σ;refine CZ hg fun hs=>?_;clear hg)|fail)<;>conv=>whnf)
 refine Al (.a (.cons (.refl _) (.cons (.refl _) (.cons Cy (.cons (.refl _) (.cons (.refl _) (.cons ?_ .nil)))))));refine .l (fun h=>by cases h) ?_;simp only[Eo,Fact.kids,List.map,BL];exact CY _
def vX (op:Int): ∀(l:List Fact),l.length≤100→ ∀b,Pure Tryz.prog 84 [eI op,.l (facts l) b] (.a (xF (jf op l)))
 | [],_,b=>by
   have h0: ¬((([]:List Fact).length:Nat):Int)≠0:=fun h=>h rfl
   refine dy kZ ?_;have hs:=Sn
   conv=>whnf
   repeat'((first|apply st|(apply sq;intro K U)|(apply si;intro A B Y Z)|(apply Y;clear Z B Y A)|(apply U;clear U K)|refine⟨rfl,?_⟩|refine⟨kZ,?_⟩|refine ld ?_|refine Cw fun σ hs=>?_|(constructor<;>intro hc<;>(try rw[hc])<;>(replace hc:=bp hc)<;>(try simp(disch:=omega) only[A9,wrap64,AK]at hc)<;>try(exfalso;omega))|(intro nn hnn;generalize hg:A0 _ nn _=σ;refine CZ hg fun hs=>?_;clear hg)|clear U K)<;>conv=>whnf)
   all_goals try exact absurd ‹_≠_› h0
   all_goals try(exfalso;simp at hc;done)
   all_goals try(exfalso;rename_i h;simp at h;done)
   all_goals try(exfalso;rename_i h _ _ _ _ _ _;simp at h;done)
   all_goals try(exfalso;simp at hx;done)
   all_goals try(exfalso;simp at hc;omega)
   all_goals try exact AI rfl
   all_goals
    refine Al (.a (.cons (.refl _) (.cons (.refl _) (.cons Cy (.cons (.refl _) (.cons (.refl _) (.cons ?_ .nil)))))));refine .l (fun h=>by cases h) ?_;simp only[jf,Fact.kids,List.map,BL];exact CY _
 | [x],_,b=>by
   have hx0: [x][Int.toNat 0]? =some x:=rfl;refine dy kZ ?_;have hs:=Sn
   conv=>whnf
   repeat'((first|apply st|(apply sq;intro K U)|(apply si;intro A B Y Z)|(apply Y;clear Z B Y A)|(apply U;clear U K)|apply dr|refine⟨rfl,?_⟩|refine⟨kZ,?_⟩|refine MY ?_|refine ld ?_|refine Cw fun σ hs=>?_|refine xT fun b=>?_|(constructor<;>intro hc<;>(try rw[hc])<;>(replace hc:=bp hc)<;>(try simp(disch:=omega) only[A9,wrap64,AK]at hc))|(intro nn hnn;generalize hg:A0 _ nn _=σ;refine CZ hg fun hs=>?_;clear hg)|clear U K)<;>conv=>whnf)
   all_goals try(exfalso;simp at hc;done)
   all_goals try(exfalso;rename_i h;simp at h;done)
   all_goals try(exfalso;rename_i h _ _ _ _ _ _;simp at h;done)
   all_goals try(exfalso;simp at hx;done)
   all_goals try(exfalso;simp at hc;omega)
   all_goals try exact AI rfl
   all_goals
    refine Al (.a (.cons (.refl _) (.cons (.refl _) (.cons Cy (.cons (.refl _) (.cons (.refl _) (.cons ?_ .nil)))))));refine .l (fun h=>by cases h) ?_;simp only[jf,Fact.kids,List.map,BL];exact CY _
 | x ::y::r,hl,b=>by
   have hx0:(x::y::r)[Int.toNat 0]? =some x:=rfl;have c1:=vX op (y::r) (by simp at hl ⊢;omega);refine dy kZ ?_;have hs:=Sn
   conv=>whnf
   repeat'((first|apply st|(apply sq;intro K U)|(apply si;intro A B Y Z)|(apply Y;clear Z B Y A)|(apply U;clear U K)|apply dr|refine rk ?_ ?_|exact fun s e=>by cases e;rfl|refine⟨rfl,?_⟩|refine⟨kZ,?_⟩|refine MY ?_|refine ld ?_|refine Cw fun σ hs=>?_|refine Pure.use (c1 _) ?_|refine xT fun b=>?_|(constructor<;>intro hc<;>(try rw[hc])<;>(replace hc:=bp hc)<;>(try simp(disch:=omega) only[A9,wrap64,AK]at hc))|(intro nn hnn;generalize hg:A0 _ nn _=σ;refine CZ hg fun hs=>?_;clear hg)|clear U K)<;>conv=>whnf)
   all_goals try(exfalso;simp at hc;done)
   all_goals try(exfalso;rename_i h;simp at h;done)
   all_goals try(exfalso;rename_i h _ _ _ _ _ _;simp at h;done)
   all_goals try(exfalso;simp at hx;done)
   all_goals try(exfalso;simp at hc;omega)
   all_goals try exact AI rfl
   all_goals
    refine Al (.a (.cons (.refl _) (.cons (.refl _) (.cons Cy (.cons (.refl _) (.cons (.refl _) (.cons ?_ .nil)))))));refine .l (fun h=>by cases h) ?_;simp only[jf,Fact.kids,List.map,BL];exact CY _
def qf (f:Fact):CK f.op≤2:=by
 unfold CK
 repeat' split
 all_goals omega
def mY (f:Fact):arity f=true→Pure Tryz.prog 147 [.a (xF f)] (.a (xF f)):=by
 induction f using Fact.ind with
 | h f ih=>
   intro har;rw[JN,BJ,D9,Em]at har;have hk2:=qf f;have hM:=Mx;have c1:=Vj f.path false;refine uH kZ ?_;have hs:=Sn
   conv=>whnf
   repeat'((first|apply st|(apply sq;intro K U)|(apply si;intro A B Y Z)|(apply Y;clear Z B Y A)|(apply U;clear U K)|refine⟨kZ,?_⟩|refine GV fun σ hs=>?_|refine Cw fun σ hs=>?_|refine c1.use ?_|(intro nn hnn;generalize hg:A0 _ nn _=σ;refine CZ hg fun hs=>?_;clear hg)|fail)<;>conv=>whnf)
   rename_i n2 _ _ _ _ _ _ _ _ _;refine CA f.kids.length (fun k (_:V)=>[(15,eI (BG k))]) (fun k v=>[.box nn [eI f.op,eI f.arg,.l (iL f.path) false,eI f.cls,eI f.n,v],.box n2 [.i .i64 0,.i .i64 0,.l [] true,.i .i64 0,.i .i64 0,.l [] true],.own v 6 (facts (f.kids.take k))]) (fun _ _=>True) (.l [] true) rfl trivial (EM hs 6) ?_;clear hs;rintro k v σ hk - hs;rcases BI f.kids hk with⟨x,hx,hlt⟩|hke
   ·have hck:BG k=k:=AK (by omega)
    have hst:=AO hx;have c2:=ih x (B9 hx) (har.2 x (B9 hx));have hzl:(f.kids.take k).length≤2:=by rw[K1];omega
    generalize f.kids.take k=zs at *;have hll:zs.length<Ad∧(zs.length+1)*80≤140737488355328:=by omega
    conv=>whnf
    repeat'((first|apply st|(apply sq;intro K U)|(apply si;intro A B Y Z)|(apply Y;clear Z B Y A)|(apply U;clear U K)|apply dr|refine rk ?_ ?_|exact fun s e=>by cases e;rfl|refine⟨rfl,?_⟩|refine⟨kZ,?_⟩|refine Qx ?_|refine ld ?_|refine GV fun σ hs=>?_|refine Cw fun σ hs=>?_|refine oa fun v σ hs hsl=>?_|(refine CU (fun hc=>?_)<;>(try rw[hc])<;>clear hc)|refine c2.use ?_|(intro nn hnn;generalize hg:A0 _ nn _=σ;refine CZ hg fun hs=>?_;clear hg)|clear U K)<;>conv=>whnf)
    exact⟨hlt,_,rfl,trivial,by rw[hst];exact hs.less (Jz _ _)⟩
   ·rw[Ap hke]at hs
    conv=>whnf
    repeat'((first|apply st|(apply sq;intro K U)|(apply si;intro A B Y Z)|(apply Y;clear Z B Y A)|(apply U;clear U K)|refine⟨rfl,?_⟩|refine⟨kZ,?_⟩|refine ld ?_|(refine Dl (fun hc=>?_)<;>(try rw[hc])<;>clear hc)|clear U K)<;>conv=>whnf)
    have o1:=Gw hs 2 rfl;refine G1 hs 1 rfl rfl rfl (by simp[o1]) (by decide) fun σ hs=>?_
    clear o1
    conv=>whnf
    repeat'((first|apply st|(apply Y;clear Z B Y A)|(apply U;clear U K)|refine⟨kZ,?_⟩|refine ld ?_|fail)<;>conv=>whnf)
    exact Al (.a (.cons (.refl _) (.cons (.refl _) (.cons (.refl _) (.cons (.refl _) (.cons (.refl _) (.cons (hs.GX 2 rfl) .nil)))))))
def pT (p:Prog) (gen:Int) (x:Fact) (h:(Bb p).isSome=true):Pure Tryz.prog 83 [.a (dL p gen),.a (xF x)] (.t [.a (xF (if CS (AR p) x then x else Nf)),eI (if CS (AR p) x then 0 else 3)]):=by
 have c1:=Z2 p;rw[h,if_pos rfl]at c1;have c2:=QG (nq h) x;cases h4:CS (AR p) x<;>rw[h4]at c2
 ·rw[if_neg (by decide)]at c2
  refine oC kZ ?_;have hs:=Sn
  conv=>whnf
  repeat'((first|apply st|(apply sq;intro K U)|(apply si;intro A B Y Z)|(apply Y;clear Z B Y A)|(apply U;clear U K)|refine⟨rfl,?_⟩|refine⟨kZ,?_⟩|refine ld ?_|refine Cw fun σ hs=>?_|refine c1.use ?_|refine c2.use ?_|(constructor<;>intro hc<;>(try rw[hc])<;>(replace hc:=bp hc)<;>try(exfalso;omega))|(intro nn hnn;generalize hg:A0 _ nn _=σ;refine CZ hg fun hs=>?_;clear hg)|clear U K)<;>conv=>whnf)
  all_goals exact Al (.t (.cons JE (.cons (.refl _) .nil)))
 ·rw[if_pos rfl]at c2
  have hn:=h4;simp only[CS,BJ]at hn;have c3:=mY x (Cm x hn.2.2);refine oC kZ ?_;have hs:=Sn
  conv=>whnf
  repeat'((first|apply st|(apply sq;intro K U)|(apply si;intro A B Y Z)|(apply Y;clear Z B Y A)|(apply U;clear U K)|refine⟨rfl,?_⟩|refine⟨kZ,?_⟩|refine ld ?_|refine Cw fun σ hs=>?_|refine c1.use ?_|refine c2.use ?_|refine c3.use ?_|(constructor<;>intro hc<;>(try rw[hc])<;>(replace hc:=bp hc)<;>(try simp(disch:=omega) only[A9,wrap64,AK]at hc)<;>try(exfalso;omega))|(intro nn hnn;generalize hg:A0 _ nn _=σ;refine CZ hg fun hs=>?_;clear hg)|fail)<;>conv=>whnf)
  all_goals exact AI rfl
def cT (p:Prog) (gen:Int) (l:List Int) (f:Bool):Pure Tryz.prog 81 [.a (dL p gen),.rp [.l (iL l) f]] (.b (Fe p gen l)):=by
 have c1:=vV p gen l f;refine wq kZ ?_;have hs:=Sn
 conv=>whnf
 repeat'((first|apply st|(apply sq;intro K U)|(apply si;intro A B Y Z)|(apply Y;clear Z B Y A)|(apply U;clear U K)|refine⟨kZ,?_⟩|refine c1.use ?_|fail)<;>conv=>whnf)
 all_goals exact AI rfl
set_option maxHeartbeats 2000000 in
def xO (p:Prog) (gen:Int) (l:List Int) (f:Bool):Pure Tryz.prog 25 [.a (BR p),eI gen,.l (iL l) f] (.t [.a (xF (O4 p gen l).1),eI (O4 p gen l).2]):=by
 refine Pure.fit (by kernel_rfl) fun hf=>?_
 have F:=HV hf.1;have⟨p1,p2,p3,p4⟩:=Er hf.1;have hlM:=JF hf.2.2.1;have hM:=Mx;have c1:=fh p gen 81 [.rp [.l (iL l) f]] (Fe p gen l) fun _=>cT p gen l f
 rw[O4];cases h1:GY p gen
 ·rw[(RH h1 _).1,(RH h1 _).2]at c1
  rw[if_neg (by decide)];refine Ya kZ ?_;have hs:=Sn
  conv=>whnf
  repeat'((first|apply st|(apply sq;intro K U)|(apply si;intro A B Y Z)|(apply Y;clear Z B Y A)|(apply U;clear U K)|refine⟨rfl,?_⟩|refine⟨kZ,?_⟩|refine ld ?_|refine Cw fun σ hs=>?_|refine c1.use ?_|(constructor<;>intro hc<;>(try rw[hc])<;>(replace hc:=bp hc)<;>try(exfalso;omega))|(intro nn hnn;generalize hg:A0 _ nn _=σ;refine CZ hg fun hs=>?_;clear hg)|clear U K)<;>conv=>whnf)
  all_goals exact Al (.t (.cons JE (.cons (.refl _) .nil)))
 rw[if_pos rfl];cases h2:Fe p gen l<;>rw[h2]at c1
 ·rw[RG.1,RG.2]at c1
  rw[if_neg (by decide)];refine Ya kZ ?_;have hs:=Sn
  conv=>whnf
  repeat'((first|apply st|(apply sq;intro K U)|(apply si;intro A B Y Z)|(apply Y;clear Z B Y A)|(apply U;clear U K)|refine⟨rfl,?_⟩|refine⟨kZ,?_⟩|refine ld ?_|refine Cw fun σ hs=>?_|refine c1.use ?_|(constructor<;>intro hc<;>(try rw[hc])<;>(replace hc:=bp hc)<;>try(exfalso;omega))|(intro nn hnn;generalize hg:A0 _ nn _=σ;refine CZ hg fun hs=>?_;clear hg)|clear U K)<;>conv=>whnf)
  all_goals exact Al (.t (.cons JE (.cons (.refl _) .nil)))
 rw[(RF h1).1,(RF h1).2]at c1;rw[if_pos rfl];by_cases h3:(J0 p gen).length≤8
 ·rw [if_pos h3]at c1 ⊢
  rw[GY,BJ]at h1;have h16:=(look_ok h1.1).many;have c4:=pT p gen (Gf p gen l) h1.1;have c3:=vX 6 ((J0 p gen).map (It p l)) (by rw[A9];omega);rw[←Gf]at c3;have hmm:=fG (p:=p) (gen:=gen);have hv:(if CS (AR p) (Gf p gen l)then(Gf p gen l,(0:Int))else(Nf,3))=(if CS (AR p) (Gf p gen l)then Gf p gen l else Nf,if CS (AR p) (Gf p gen l)then 0 else 3):=by split<;>rfl
  rw[hv];clear h1 h2 hv;generalize Gf p gen l=xs at *;refine Ya kZ ?_;have hs:=Sn
  conv=>whnf
  repeat'((first|apply st|(refine vI ?_;intro K U)|(apply si;intro A B Y Z)|(apply Y;clear Z B Y A)|(apply U;clear U K)|refine⟨rfl,?_⟩|refine⟨kZ,?_⟩|refine ld ?_|refine Cw fun σ hs=>?_|refine c1.use ?_|refine xb ?_|(constructor<;>intro hc<;>(try rw[hc])<;>(replace hc:=bp hc)<;>(try simp(disch:=omega) only[A9,wrap64,AK]at hc)<;>try(exfalso;omega))|(intro nn hnn;generalize hg:A0 _ nn _=σ;refine CZ hg fun hs=>?_;clear hg)|fail)<;>conv=>whnf)
  rename_i n6 _ _ _ _ _;refine CA (J0 p gen).length (fun k v=>[(10,v),(28,eI (BG k))]) (fun k v=>[.box nn (dL p gen),.box n6 [.i .i64 0,.i .i64 0,.l [] true,.i .i64 0,.i .i64 0,.l [] true],.own v 6 (facts (((J0 p gen).take k).map (It p l)))]) (fun _ _=>True) (.l [] true) rfl trivial (EM hs 6) ?_;clear hs;rintro k v σ hk - hs;rcases BI (J0 p gen) hk with⟨x,hx,hlt⟩|hke
  ·have hck:BG k=k:=AK (by omega)
   have hst:((J0 p gen).take (k+1)).map (It p l)=((J0 p gen).take k).map (It p l)++[It p l x]:=by rw[AO hx,Sd];rfl
   have hmx:=hmm x (B9 hx);have hxP:=B8 hmx;have hxr:=hmx;simp only[BQ,BJ,Cn]at hxr;have c2:=yG (Bh p x).fact;have c5:=C1 l f x;have hzl:(((J0 p gen).take k).map (It p l)).length≤8:=by rw[A9,K1];omega
   generalize ((J0 p gen).take k).map (It p l)=zs at *;have hll:zs.length<Ad∧(zs.length+1)*80≤140737488355328:=by omega
   rw[It]at hst;generalize Bh p x=mx at *;cases hct:l.contains x<;>rw[hct]at c5 hst
   ·rw[if_neg (by decide)]at hst
    conv=>whnf
    repeat'((first|apply st|(apply sq;intro K U)|(apply si;intro A B Y Z)|(apply Y;clear Z B Y A)|(apply U;clear U K)|refine⟨rfl,?_⟩|refine⟨kZ,?_⟩|refine ix ?_|refine HI ?_|refine ld ?_|refine Cw fun σ hs=>?_|refine oa fun v σ hs hsl=>?_|refine HK ?_|(refine CU (fun hc=>?_)<;>(try rw[hc])<;>clear hc)|refine c2.use ?_|refine c5.use ?_|(intro nn hnn;generalize hg:A0 _ nn _=σ;refine CZ hg fun hs=>?_;clear hg)|clear U K)<;>conv=>whnf)
    exact⟨hlt,_,rfl,trivial,by rw[hst];exact hs.less (Jz _ _)⟩
   ·rw[if_pos rfl]at hst
    conv=>whnf
    repeat'((first|apply st|(apply sq;intro K U)|(apply si;intro A B Y Z)|(apply Y;clear Z B Y A)|(apply U;clear U K)|refine⟨rfl,?_⟩|refine⟨kZ,?_⟩|refine ix ?_|refine HI ?_|refine ld ?_|refine Cw fun σ hs=>?_|refine oa fun v σ hs hsl=>?_|refine FP ?_|(refine CU (fun hc=>?_)<;>(try rw[hc])<;>clear hc)|refine c5.use ?_|(intro nn hnn;generalize hg:A0 _ nn _=σ;refine CZ hg fun hs=>?_;clear hg)|clear U K)<;>conv=>whnf)
    exact⟨hlt,_,rfl,trivial,by rw[hst];exact hs.less (Jz _ _)⟩
  ·rw[Ap hke]at hs
   conv=>whnf
   repeat'((first|(refine vI ?_;intro K U)|(apply si;intro A B Y Z)|(apply Y;clear Z B Y A)|(apply U;clear U K)|refine⟨rfl,?_⟩|fail)<;>conv=>whnf)
   refine xb ?_
   conv=>whnf
   repeat'((first|apply st|(refine vI ?_;intro K U)|(apply U;clear U K)|(refine Dl (fun hc=>?_)<;>(try rw[hc])<;>clear hc)|clear U K)<;>conv=>whnf)
   refine nr hs 2 rfl (fun σ2 h=> .cons (.refl _) (.cons (.refl _) (.cons h .nil))) fun σ hs=>?_
   conv=>whnf
   repeat'((first|apply st|(apply sq;intro K U)|(apply si;intro A B Y Z)|(apply Y;clear Z B Y A)|(apply U;clear U K)|apply dr|refine rk ?_ ?_|exact fun s e=>by cases e;rfl|refine⟨kZ,?_⟩|refine ld ?_|refine Cw fun σ hs=>?_|refine Pure.use (c3 _) ?_|refine c4.use ?_|fail)<;>conv=>whnf)
   all_goals exact AI rfl
 ·rw[if_neg h3]at c1 ⊢
  refine Ya kZ ?_;have hs:=Sn
  conv=>whnf
  repeat'((first|apply st|(apply sq;intro K U)|(apply si;intro A B Y Z)|(apply Y;clear Z B Y A)|(apply U;clear U K)|refine⟨rfl,?_⟩|refine⟨kZ,?_⟩|refine ld ?_|refine Cw fun σ hs=>?_|refine c1.use ?_|(constructor<;>intro hc<;>(try rw[hc])<;>(replace hc:=bp hc)<;>try(exfalso;omega))|(intro nn hnn;generalize hg:A0 _ nn _=σ;refine CZ hg fun hs=>?_;clear hg)|clear U K)<;>conv=>whnf)
  all_goals exact Al (.t (.cons JE (.cons (.refl _) .nil)))
end Go.Gl
namespace Go.Gl
open Go.Proofs
attribute [local irreducible] BC Aw Ai AV AM Ah AU AW AN Ag AQ AS A3 BA Sat Ab A8 Ak W
def iS (g:vE) (c3:Pure Tryz.prog 17 [] (.b true)):Pure Tryz.prog 6 [.a (Qg g)] (.b true):=by
 have c1:=xO g.p g.gen g.ms false;have c2:=xP g.p g.gen g.ms false;generalize O4 g.p g.gen g.ms=x at *;obtain⟨s,e⟩:=x;dsimp only at c1 c2;have c4:=Ys s s;rw[(Jl s s).2 rfl]at c4;refine ctr6 kZ ?_;have hs:=Sn
 conv=>whnf
 repeat'((first|apply st|(apply sq;intro K U)|(apply si;intro A B Y Z)|(apply Y;clear Z B Y A)|(apply U;clear U K)|refine⟨rfl,?_⟩|refine⟨kZ,?_⟩|refine ld ?_|refine Cw fun σ hs=>?_|refine HK ?_|refine c1.use ?_|refine c2.use ?_|refine c3.use ?_|refine c4.use ?_|(constructor<;>intro hc<;>(try rw[hc])<;>(replace hc:=bp hc)<;>(try simp(disch:=omega) only[A9,wrap64,AK]at hc)<;>try(exfalso;omega))|(intro nn hnn;generalize hg:A0 _ nn _=σ;refine CZ hg fun hs=>?_;clear hg)|fail)<;>conv=>whnf)
 all_goals first
  | exact AI rfl
  | (exfalso;simp at hc;done)
end Go.Gl
