import Derived.Test.YtegbmnmnaijioaaGreatB9
import Derived.Test.YtegbmnmnaijioaaGreatB13
set_option linter.all false
set_option linter.defProp false
noncomputable section
namespace Go.Gl
open Go.Proofs
attribute [local irreducible] A8 Ap Ag AT AL Ae AS AU AK Ad AO AP Aw A2 Sat AX A0 Ai W
abbrev ko (p:Prog) (gen:Int):List V:=Ba p++[eI gen,.l (iL (Jr p gen)) false]
abbrev sZ:List V:=[.l [] true,eI 0,.l [] true,.l [] true,.l [] true,eI 0,eI 0,.l [] true]
def uF (p:Prog) (gen:Int):Pure Tryz.prog 131 [.a (Ba p),eI gen] (.t [.a (if Gm p gen then ko p gen else sZ),.b (Gm p gen)]):=by
 refine Pure.fit (by kernel_rfl) fun hf=>?_
 have F:=IJ hf.1;have⟨p1,p2,p3,p4⟩:=Fx hf.1;have hM:=Mx;have c1:=VH p;rw[Gm];cases h1:(Bg p).isSome<;>rw[h1]at c1
 ·rw[if_neg (by decide)]at c1
  refine WY kZ ?_;have hs:=Sn
  conv=>whnf
  repeat'((first|apply st|(apply sq;intro K U)|(apply si;intro A B Y Z)|(apply Y;clear Z B Y A)|(apply U;clear U K)|refine⟨rfl,?_⟩|refine⟨kZ,?_⟩|refine ld ?_|refine CX fun σ hs=>?_|refine c1.use ?_|(constructor<;>intro hc<;>(try rw[hc])<;>(replace hc:=bp hc)<;>try(exfalso;omega))|(intro nn hnn;generalize hg:Az _ nn _=σ;refine CN hg fun hs=>?_;clear hg)|clear U K)<;>conv=>whnf)
  all_goals exact AI rfl
 rw[if_pos rfl]at c1;have h16:=(look_ok h1).many;cases h2:V2 p gen
 ·simp only[V2,Bool.and_eq_false_iff,decide_eq_false_iff_not]at h2
  refine WY kZ ?_;have hs:=Sn
  conv=>whnf
  repeat'((first|apply st|(apply sq;intro K U)|(apply si;intro A B Y Z)|(apply Y;clear Z B Y A)|(apply U;clear U K)|refine⟨rfl,?_⟩|refine⟨kZ,?_⟩|refine ld ?_|refine CX fun σ hs=>?_|refine c1.use ?_|(constructor<;>intro hc<;>(try rw[hc])<;>(replace hc:=bp hc)<;>(try simp(disch:=omega) only[BW,wrap64,AN]at hc)<;>try(exfalso;omega))|(intro nn hnn;generalize hg:Az _ nn _=σ;refine CN hg fun hs=>?_;clear hg)|clear U K)<;>conv=>whnf)
  all_goals first
   | exact AI rfl
   | (exfalso;simp at *;omega)
 have h2r:=h2;simp only[V2,BU,DZ]at h2r;refine WY kZ ?_;have hs:=Sn
 conv=>whnf
 repeat'((first|apply st|(apply sq;intro K U)|(apply si;intro A B Y Z)|(apply Y;clear Z B Y A)|(apply U;clear U K)|refine⟨rfl,?_⟩|refine⟨kZ,?_⟩|refine CX fun σ hs=>?_|refine c1.use ?_|(constructor<;>intro hc<;>(try rw[hc])<;>(replace hc:=bp hc)<;>(try simp(disch:=omega) only[BW,wrap64,AN]at hc)<;>try(exfalso;omega))|(intro nn hnn;generalize hg:Az _ nn _=σ;refine CN hg fun hs=>?_;clear hg)|fail)<;>conv=>whnf)
 rename_i n4 _ _ _ _ _ _ _;refine CD p.methods.length (fun k (_:V)=>[(30,eI (BM k))]) (fun k v=>[.box nn (Ba p++[eI gen,v]),.box n4 sZ,.own v 1 (iL (bF p gen k))]) (fun _ _=>True) (.l [] true) rfl trivial (Ed hs 1) ?_;clear hs;rintro k v σ hk - hs;have hal:=Nt p gen k;rcases BS p.methods hk with⟨x,hx,hlt⟩|hke
 ·have hck:BM k=k:=AN (by omega)
  have hxe:=YQ hx;have hst:=Ut p gen k;rw[hxe]at hst;generalize bF p gen k=zs at *;have hll:zs.length<Aj∧(zs.length+1)*8≤140737488355328:=by omega
  by_cases hg:x.gen=gen
  ·rw[if_pos (D4.2 hg)]at hst
   conv=>whnf
   repeat'((first|apply st|(apply sq;intro K U)|(apply si;intro A B Y Z)|(apply Y;clear Z B Y A)|(apply U;clear U K)|refine⟨rfl,?_⟩|refine⟨kZ,?_⟩|refine ix ?_|refine ld ?_|refine IA fun σ hs=>?_|refine CX fun σ hs=>?_|refine aq fun v σ hs hsl=>?_|(refine C8 (fun hc=>?_)<;>(try rw[hc])<;>clear hc)|(constructor<;>intro hc<;>(try rw[hc])<;>(replace hc:=bp hc)<;>try(exfalso;omega))|(intro nn hnn;generalize hg:Az _ nn _=σ;refine CN hg fun hs=>?_;clear hg)|clear U K)<;>conv=>whnf)
   exact⟨hlt,_,rfl,trivial,by rw[hst,←hck];exact hs.less (IV _ _)⟩
  ·rw[if_neg (by simpa using hg)]at hst
   conv=>whnf
   repeat'((first|apply st|(apply sq;intro K U)|(apply si;intro A B Y Z)|(apply Y;clear Z B Y A)|(apply U;clear U K)|refine⟨rfl,?_⟩|refine⟨kZ,?_⟩|refine ix ?_|refine ld ?_|refine CX fun σ hs=>?_|(refine C8 (fun hc=>?_)<;>(try rw[hc])<;>clear hc)|(constructor<;>intro hc<;>(try rw[hc])<;>(replace hc:=bp hc)<;>try(exfalso;omega))|(intro nn hnn;generalize hg:Az _ nn _=σ;refine CN hg fun hs=>?_;clear hg)|clear U K)<;>conv=>whnf)
   exact⟨hlt,_,rfl,trivial,by rw[hst];exact hs.less (IV _ _)⟩
 ·rw[hke]at hs
  conv=>whnf
  repeat'((first|apply st|(apply sq;intro K U)|(apply si;intro A B Y Z)|(apply Y;clear Z B Y A)|(apply U;clear U K)|refine⟨rfl,?_⟩|refine⟨kZ,?_⟩|refine ld ?_|(refine Es (fun hc=>?_)<;>(try rw[hc])<;>clear hc)|clear U K)<;>conv=>whnf)
  have o1:=Ft hs 2 rfl;refine F4 hs 1 rfl rfl rfl (by simp[Ba,o1]) (by decide) fun σ hs=>?_
  clear o1
  conv=>whnf
  repeat'((first|apply st|(apply Y;clear Z B Y A)|(apply U;clear U K)|refine⟨kZ,?_⟩|refine ld ?_|fail)<;>conv=>whnf)
  exact An (.t (.cons (.a (.cons (.refl _) (.cons (.refl _) (.cons (.refl _) (.cons (.refl _) (.cons (.refl _) (.cons (.refl _) (.cons (.refl _) (.cons (hs.G7 2 rfl) .nil))))))))) (.cons (.refl _) .nil)))
def tM (p:Prog) (gen:Int):Pure Tryz.prog 132 [.a (ko p gen)] (eI (if(Jr p gen).length≤8 then 0 else 3)):=by
 have e1:((iL (Jr p gen)).length:Int)=(Jr p gen).length:=by simp
 refine rY kZ ?_;have hs:=Sn
 conv=>whnf
 repeat'((first|apply st|(apply sq;intro K U)|(apply si;intro A B Y Z)|(apply Y;clear Z B Y A)|(apply U;clear U K)|refine⟨rfl,?_⟩|(constructor<;>intro hc<;>(try rw[hc])<;>(replace hc:=bp hc)<;>(try simp(disch:=omega) only[BW,wrap64,AN]at hc))|clear U K)<;>conv=>whnf)
 ·exact AI (by rw[if_neg (by omega)])
 ·exact AI (by rw[if_pos (by omega)])
def V9 (p:Prog) (gen:Int) (b:Bool):Int:=if Gm p gen then(if b then(if(Jr p gen).length≤8 then 0 else 3)else 2)else 2
abbrev V8 (p:Prog) (gen:Int) (b:Bool):List V:=if Gm p gen&&b then ko p gen else sZ
def Xq {p:Prog} {gen:Int} (h:Gm p gen=false) (b:Bool):V8 p gen b=sZ∧V9 p gen b=2:=by rw[V8,V9,h];exact⟨rfl,rfl⟩
def lr {p:Prog} {gen:Int}:V8 p gen false=sZ∧V9 p gen false=2:=by
 rw[V8,V9,Bool.and_false];exact⟨rfl,by split<;>rfl⟩
def Xp {p:Prog} {gen:Int} (h:Gm p gen=true):V8 p gen true=ko p gen∧V9 p gen true=if(Jr p gen).length≤8 then 0 else 3:=by rw[V8,V9,h];exact⟨rfl,rfl⟩
def r6 (p:Prog) (gen:Int) (k:Nat) (ca:List V) (b:Bool) (c2:Gm p gen=true→Pure Tryz.prog k (.a (ko p gen)::ca) (.b b)):Pure Tryz.prog 59 [.a (Ba p),eI gen,.f (.func k) [] ca] (.t [.a (V8 p gen b),eI (V9 p gen b)]):=by
 have c1:=uF p gen;have c3:=tM p gen;cases h1:Gm p gen<;>rw[h1]at c1
 ·rw[(Xq h1 b).1,(Xq h1 b).2]
  rw[if_neg (by decide)]at c1;refine cB kZ ?_;have hs:=Sn
  conv=>whnf
  repeat'((first|apply st|(apply sq;intro K U)|(apply si;intro A B Y Z)|(apply Y;clear Z B Y A)|(apply U;clear U K)|refine⟨kZ,?_⟩|refine ld ?_|refine CX fun σ hs=>?_|refine s5 ?_|refine c1.use ?_|(intro nn hnn;generalize hg:Az _ nn _=σ;refine CN hg fun hs=>?_;clear hg)|clear U K)<;>conv=>whnf)
  all_goals exact AI rfl
 replace c2:=c2 h1;rw[if_pos rfl]at c1;cases b
 ·rw[lr.1,lr.2]
  refine cB kZ ?_;have hs:=Sn
  conv=>whnf
  repeat'((first|apply st|(apply sq;intro K U)|(apply si;intro A B Y Z)|(apply Y;clear Z B Y A)|(apply U;clear U K)|refine⟨kZ,?_⟩|refine ld ?_|refine CX fun σ hs=>?_|refine JB ?_|refine ml ?_|refine c1.use ?_|refine Bs (c2.use ?_)|(intro nn hnn;generalize hg:Az _ nn _=σ;refine CN hg fun hs=>?_;clear hg)|clear U K)<;>conv=>whnf)
  all_goals exact AI rfl
 ·rw[(Xp h1).1,(Xp h1).2]
  refine cB kZ ?_;have hs:=Sn
  conv=>whnf
  repeat'((first|apply st|(apply sq;intro K U)|(apply si;intro A B Y Z)|(apply Y;clear Z B Y A)|(apply U;clear U K)|apply dr|refine rk ?_ ?_|exact fun s e=>by cases e;rfl|refine⟨kZ,?_⟩|refine ld ?_|refine CX fun σ hs=>?_|refine G3 ?_|refine ml ?_|refine c1.use ?_|refine Bs (c2.use ?_)|refine c3.use ?_|(intro nn hnn;generalize hg:Az _ nn _=σ;refine CN hg fun hs=>?_;clear hg)|fail)<;>conv=>whnf)
  all_goals exact AI rfl
end Go.Gl
namespace Go.Gl
open Go.Proofs
def uI {σ:AH} {x:Fact} {r:List Fact} {f:Bool} {K:V→AH→Prop} (h: ∀b,K (.l (facts r) b) σ):AS σ 6 (.l (facts (x::r)) f) (some (.i .i64 1)) none none K:=by
 refine⟨fun e he=>?_,?_⟩
 ·obtain⟨x,_,rfl⟩:=NP.1 he
  rw[BC];rfl
 ·simp only[N2,BW,KX]
  refine⟨by omega,by omega,by omega,?_⟩;have:=h (f&&decide (((r.length+1:Nat):Int)=((r.length+1:Nat):Int)));simpa[List.map_take,List.take_of_length_le]using this
attribute [local irreducible] A8 Ap Ag AT AL Ae AS AU AK Ad AO AP Aw A2 Sat AX A0 Ai W
attribute [local irreducible] Fz
def bD (op:Int):List Fact→Fact
 | []=> .mk 1 0 [] 0 0 []
 | [x]=>x
 | x::y::r=> .mk op 0 [] 0 0 [x,bD op (y::r)]
def lO (op:Int): ∀(l:List Fact),l≠[]→l.length≤100→ ∀b,Pure Tryz.prog 91 [eI op,.l (facts l) b] (.a (xF (bD op l)))
 | [],h,_,_=>absurd rfl h
 | [x],_,_,b=>by
   have hx0: [x][Int.toNat 0]? =some x:=rfl;have hl:((facts [x]).length:Int)=1:=rfl;refine lh kZ ?_;have hs:=Sn
   conv=>whnf
   repeat'((first|apply st|(apply sq;intro K U)|(apply si;intro A B Y Z)|(apply Y;clear Z B Y A)|(apply U;clear U K)|apply dr|refine⟨rfl,?_⟩|refine⟨kZ,?_⟩|refine Lt ?_|refine ld ?_|refine CX fun σ hs=>?_|refine uI fun b=>?_|(constructor<;>intro hc<;>(try rw[hc])<;>(replace hc:=bp hc)<;>(try simp(disch:=omega) only[BW,wrap64,AN]at hc))|(intro nn hnn;generalize hg:Az _ nn _=σ;refine CN hg fun hs=>?_;clear hg)|clear U K)<;>conv=>whnf)
   all_goals try(exfalso;simp at hc;done)
   all_goals try(exfalso;rename_i h;simp at h;done)
   all_goals try(exfalso;rename_i h _ _ _ _ _ _;simp at h;done)
   all_goals try(exfalso;simp at hx;done)
   all_goals try(exfalso;simp at hc;omega)
   all_goals try exact AI rfl
   all_goals
    refine An (.a (.cons (.refl _) (.cons (.refl _) (.cons CQ (.cons (.refl _) (.cons (.refl _) (.cons ?_ .nil)))))));refine .l (fun h=>by cases h) ?_;simp only[bD,Fact.kids,List.map,BC];exact CA _
 | x ::y::r,_,hl,b=>by
   have hx0:(x::y::r)[Int.toNat 0]? =some x:=rfl;have c1:=lO op (y::r) (by simp) (by simp at hl ⊢;omega);refine lh kZ ?_;have hs:=Sn
   conv=>whnf
   repeat'((first|apply st|(apply sq;intro K U)|(apply si;intro A B Y Z)|(apply Y;clear Z B Y A)|(apply U;clear U K)|apply dr|refine rk ?_ ?_|exact fun s e=>by cases e;rfl|refine⟨rfl,?_⟩|refine⟨kZ,?_⟩|refine Lt ?_|refine ld ?_|refine CX fun σ hs=>?_|refine Pure.use (c1 _) ?_|refine uI fun b=>?_|(constructor<;>intro hc<;>(try rw[hc])<;>(replace hc:=bp hc)<;>(try simp(disch:=omega) only[BW,wrap64,AN]at hc))|(intro nn hnn;generalize hg:Az _ nn _=σ;refine CN hg fun hs=>?_;clear hg)|clear U K)<;>conv=>whnf)
   all_goals try(exfalso;simp at hc;done)
   all_goals try(exfalso;rename_i h;simp at h;done)
   all_goals try(exfalso;rename_i h _ _ _ _ _ _;simp at h;done)
   all_goals try(exfalso;simp at hx;done)
   all_goals try(exfalso;simp at hc;omega)
   all_goals try exact AI rfl
   all_goals
    refine An (.a (.cons (.refl _) (.cons (.refl _) (.cons CQ (.cons (.refl _) (.cons (.refl _) (.cons ?_ .nil)))))));refine .l (fun h=>by cases h) ?_;simp only[bD,Fact.kids,List.map,BC];exact CA _
def cz {p:Prog} {gen:Int}: ∀x∈Jr p gen,Jg p x=true:=fun x hx=>by
 have:=(List.contains_iff_mem).2 hx;rw[jW,BU]at this;exact this.1
def SQ:Pure Tryz.prog 90 [] (.a (xF (Fact.mk 1 0 [] 0 0 []))):=by
 refine th kZ ?_;have hs:=Sn
 conv=>whnf
 repeat'((first|apply st|(apply sq;intro K U)|(apply si;intro A B Y Z)|(apply Y;clear Z B Y A)|(apply U;clear U K)|refine⟨kZ,?_⟩|refine ld ?_|refine CX fun σ hs=>?_|(intro nn hnn;generalize hg:Az _ nn _=σ;refine CN hg fun hs=>?_;clear hg)|fail)<;>conv=>whnf)
 all_goals exact An (.a (.cons (.refl _) (.cons (.refl _) (.cons CQ (.cons (.refl _) (.cons (.refl _) (.cons CQ .nil)))))))
def T5:Fact:= .mk 0 0 [] 0 0 []
def Gr {σ σ':AH} {a b:Bool}:FF σ σ' (.a [.i .i64 0,.i .i64 0,.l [] a,.i .i64 0,.i .i64 0,.l [] b]) (.a (xF T5)):= .a (.cons (.refl _) (.cons (.refl _) (.cons CQ (.cons (.refl _) (.cons (.refl _) (.cons CQ .nil))))))
end Go.Gl
namespace Go.Gl
open Go.Proofs
attribute [local irreducible] A8 Ap Ag AT AL Ae AS AU AK Ad AO AP Aw A2 Sat AX A0 Ai W
attribute [local irreducible] Fz
def vE (f:Fact):Pure Tryz.prog 82 [.a (xF f)] (.a (xF (ED f))):=by
 refine tn kZ ?_;have hs:=Sn
 conv=>whnf
 repeat'((first|apply st|(apply sq;intro K U)|(apply si;intro A B Y Z)|(apply Y;clear Z B Y A)|(apply U;clear U K)|refine⟨kZ,?_⟩|refine ld ?_|refine CX fun σ hs=>?_|(intro nn hnn;generalize hg:Az _ nn _=σ;refine CN hg fun hs=>?_;clear hg)|fail)<;>conv=>whnf)
 refine An (.a (.cons (.refl _) (.cons (.refl _) (.cons CQ (.cons (.refl _) (.cons (.refl _) (.cons ?_ .nil)))))));refine .l (fun h=>by cases h) ?_;simp only[ED,Fact.kids,List.map,BC];exact CA _
def sh (op:Int): ∀(l:List Fact),l.length≤100→ ∀b,Pure Tryz.prog 84 [eI op,.l (facts l) b] (.a (xF (bD op l)))
 | [],_,b=>by
   have h0: ¬((([]:List Fact).length:Nat):Int)≠0:=fun h=>h rfl
   refine cA kZ ?_;have hs:=Sn
   conv=>whnf
   repeat'((first|apply st|(apply sq;intro K U)|(apply si;intro A B Y Z)|(apply Y;clear Z B Y A)|(apply U;clear U K)|refine⟨rfl,?_⟩|refine⟨kZ,?_⟩|refine ld ?_|refine CX fun σ hs=>?_|(constructor<;>intro hc<;>(try rw[hc])<;>(replace hc:=bp hc)<;>(try simp(disch:=omega) only[BW,wrap64,AN]at hc)<;>try(exfalso;omega))|(intro nn hnn;generalize hg:Az _ nn _=σ;refine CN hg fun hs=>?_;clear hg)|clear U K)<;>conv=>whnf)
   all_goals try exact absurd ‹_≠_› h0
   all_goals try(exfalso;simp at hc;done)
   all_goals try(exfalso;rename_i h;simp at h;done)
   all_goals try(exfalso;rename_i h _ _ _ _ _ _;simp at h;done)
   all_goals try(exfalso;simp at hx;done)
   all_goals try(exfalso;simp at hc;omega)
   all_goals try exact AI rfl
   all_goals
    refine An (.a (.cons (.refl _) (.cons (.refl _) (.cons CQ (.cons (.refl _) (.cons (.refl _) (.cons ?_ .nil)))))));refine .l (fun h=>by cases h) ?_;simp only[bD,Fact.kids,List.map,BC];exact CA _
 | [x],_,b=>by
   have hx0: [x][Int.toNat 0]? =some x:=rfl;refine cA kZ ?_;have hs:=Sn
   conv=>whnf
   repeat'((first|apply st|(apply sq;intro K U)|(apply si;intro A B Y Z)|(apply Y;clear Z B Y A)|(apply U;clear U K)|apply dr|refine⟨rfl,?_⟩|refine⟨kZ,?_⟩|refine Lt ?_|refine ld ?_|refine CX fun σ hs=>?_|refine uI fun b=>?_|(constructor<;>intro hc<;>(try rw[hc])<;>(replace hc:=bp hc)<;>(try simp(disch:=omega) only[BW,wrap64,AN]at hc))|(intro nn hnn;generalize hg:Az _ nn _=σ;refine CN hg fun hs=>?_;clear hg)|clear U K)<;>conv=>whnf)
   all_goals try(exfalso;simp at hc;done)
   all_goals try(exfalso;rename_i h;simp at h;done)
   all_goals try(exfalso;rename_i h _ _ _ _ _ _;simp at h;done)
   all_goals try(exfalso;simp at hx;done)
   all_goals try(exfalso;simp at hc;omega)
   all_goals try exact AI rfl
   all_goals
    refine An (.a (.cons (.refl _) (.cons (.refl _) (.cons CQ (.cons (.refl _) (.cons (.refl _) (.cons ?_ .nil)))))));refine .l (fun h=>by cases h) ?_;simp only[bD,Fact.kids,List.map,BC];exact CA _
 | x ::y::r,hl,b=>by
   have hx0:(x::y::r)[Int.toNat 0]? =some x:=rfl;have c1:=sh op (y::r) (by simp at hl ⊢;omega);refine cA kZ ?_;have hs:=Sn
   conv=>whnf
   repeat'((first|apply st|(apply sq;intro K U)|(apply si;intro A B Y Z)|(apply Y;clear Z B Y A)|(apply U;clear U K)|apply dr|refine rk ?_ ?_|exact fun s e=>by cases e;rfl|refine⟨rfl,?_⟩|refine⟨kZ,?_⟩|refine Lt ?_|refine ld ?_|refine CX fun σ hs=>?_|refine Pure.use (c1 _) ?_|refine uI fun b=>?_|(constructor<;>intro hc<;>(try rw[hc])<;>(replace hc:=bp hc)<;>(try simp(disch:=omega) only[BW,wrap64,AN]at hc))|(intro nn hnn;generalize hg:Az _ nn _=σ;refine CN hg fun hs=>?_;clear hg)|clear U K)<;>conv=>whnf)
   all_goals try(exfalso;simp at hc;done)
   all_goals try(exfalso;rename_i h;simp at h;done)
   all_goals try(exfalso;rename_i h _ _ _ _ _ _;simp at h;done)
   all_goals try(exfalso;simp at hx;done)
   all_goals try(exfalso;simp at hc;omega)
   all_goals try exact AI rfl
   all_goals
    refine An (.a (.cons (.refl _) (.cons (.refl _) (.cons CQ (.cons (.refl _) (.cons (.refl _) (.cons ?_ .nil)))))));refine .l (fun h=>by cases h) ?_;simp only[bD,Fact.kids,List.map,BC];exact CA _
def OT (f:Fact):Bw f.op≤2:=by
 unfold Bw
 repeat' split
 all_goals omega
def kD (f:Fact):arity f=true→Pure Tryz.prog 147 [.a (xF f)] (.a (xF f)):=by
 induction f using Fact.ind with
 | h f ih=>
   intro har;rw[EA,BU,D4,GP]at har;have hk2:=OT f;have hM:=Mx;have c1:=O2 f.path false;refine rW kZ ?_;have hs:=Sn
   conv=>whnf
   repeat'((first|apply st|(apply sq;intro K U)|(apply si;intro A B Y Z)|(apply Y;clear Z B Y A)|(apply U;clear U K)|refine⟨kZ,?_⟩|refine IA fun σ hs=>?_|refine CX fun σ hs=>?_|refine c1.use ?_|(intro nn hnn;generalize hg:Az _ nn _=σ;refine CN hg fun hs=>?_;clear hg)|fail)<;>conv=>whnf)
   rename_i n2 _ _ _ _ _ _ _ _ _;refine CD f.kids.length (fun k (_:V)=>[(15,eI (BM k))]) (fun k v=>[.box nn [eI f.op,eI f.arg,.l (iL f.path) false,eI f.cls,eI f.n,v],.box n2 [.i .i64 0,.i .i64 0,.l [] true,.i .i64 0,.i .i64 0,.l [] true],.own v 6 (facts (f.kids.take k))]) (fun _ _=>True) (.l [] true) rfl trivial (Ed hs 6) ?_;clear hs;rintro k v σ hk - hs;rcases BS f.kids hk with⟨x,hx,hlt⟩|hke
   ·have hck:BM k=k:=AN (by omega)
    have hst:=AR hx;have c2:=ih x (Ck hx) (har.2 x (Ck hx));have hzl:(f.kids.take k).length≤2:=by rw[Mo];omega
    generalize f.kids.take k=zs at *;have hll:zs.length<Aj∧(zs.length+1)*80≤140737488355328:=by omega
    conv=>whnf
    repeat'((first|apply st|(apply sq;intro K U)|(apply si;intro A B Y Z)|(apply Y;clear Z B Y A)|(apply U;clear U K)|apply dr|refine rk ?_ ?_|exact fun s e=>by cases e;rfl|refine⟨rfl,?_⟩|refine⟨kZ,?_⟩|refine Nc ?_|refine ld ?_|refine IA fun σ hs=>?_|refine CX fun σ hs=>?_|refine kr fun v σ hs hsl=>?_|(refine C8 (fun hc=>?_)<;>(try rw[hc])<;>clear hc)|refine c2.use ?_|(intro nn hnn;generalize hg:Az _ nn _=σ;refine CN hg fun hs=>?_;clear hg)|clear U K)<;>conv=>whnf)
    exact⟨hlt,_,rfl,trivial,by rw[hst];exact hs.less (IV _ _)⟩
   ·rw[Av hke]at hs
    conv=>whnf
    repeat'((first|apply st|(apply sq;intro K U)|(apply si;intro A B Y Z)|(apply Y;clear Z B Y A)|(apply U;clear U K)|refine⟨rfl,?_⟩|refine⟨kZ,?_⟩|refine ld ?_|(refine Es (fun hc=>?_)<;>(try rw[hc])<;>clear hc)|clear U K)<;>conv=>whnf)
    have o1:=Ft hs 2 rfl;refine F4 hs 1 rfl rfl rfl (by simp[o1]) (by decide) fun σ hs=>?_
    clear o1
    conv=>whnf
    repeat'((first|apply st|(apply Y;clear Z B Y A)|(apply U;clear U K)|refine⟨kZ,?_⟩|refine ld ?_|fail)<;>conv=>whnf)
    exact An (.a (.cons (.refl _) (.cons (.refl _) (.cons (.refl _) (.cons (.refl _) (.cons (.refl _) (.cons (hs.G7 2 rfl) .nil)))))))
def m8 (p:Prog) (gen:Int) (x:Fact) (h:(Bg p).isSome=true):Pure Tryz.prog 83 [.a (ko p gen),.a (xF x)] (.t [.a (xF (if Co (AW p) x then x else T5)),eI (if Co (AW p) x then 0 else 3)]):=by
 have c1:=Y7 p;rw[h,if_pos rfl]at c1;have c2:=Pf (lR h) x;cases h4:Co (AW p) x<;>rw[h4]at c2
 ·rw[if_neg (by decide)]at c2
  refine lj kZ ?_;have hs:=Sn
  conv=>whnf
  repeat'((first|apply st|(apply sq;intro K U)|(apply si;intro A B Y Z)|(apply Y;clear Z B Y A)|(apply U;clear U K)|refine⟨rfl,?_⟩|refine⟨kZ,?_⟩|refine ld ?_|refine CX fun σ hs=>?_|refine c1.use ?_|refine c2.use ?_|(constructor<;>intro hc<;>(try rw[hc])<;>(replace hc:=bp hc)<;>try(exfalso;omega))|(intro nn hnn;generalize hg:Az _ nn _=σ;refine CN hg fun hs=>?_;clear hg)|clear U K)<;>conv=>whnf)
  all_goals exact An (.t (.cons Gr (.cons (.refl _) .nil)))
 ·rw[if_pos rfl]at c2
  have hn:=h4;simp only[Co,BU]at hn;have c3:=kD x (A7 x hn.2.2);refine lj kZ ?_;have hs:=Sn
  conv=>whnf
  repeat'((first|apply st|(apply sq;intro K U)|(apply si;intro A B Y Z)|(apply Y;clear Z B Y A)|(apply U;clear U K)|refine⟨rfl,?_⟩|refine⟨kZ,?_⟩|refine ld ?_|refine CX fun σ hs=>?_|refine c1.use ?_|refine c2.use ?_|refine c3.use ?_|(constructor<;>intro hc<;>(try rw[hc])<;>(replace hc:=bp hc)<;>(try simp(disch:=omega) only[BW,wrap64,AN]at hc)<;>try(exfalso;omega))|(intro nn hnn;generalize hg:Az _ nn _=σ;refine CN hg fun hs=>?_;clear hg)|fail)<;>conv=>whnf)
  all_goals exact AI rfl
end Go.Gl
namespace Go.Gl
open Go.Proofs
attribute [local irreducible] A8 Ap Ag AT AL Ae AS AU AK Ad AO AP Aw A2 Sat AX A0 Ai W
def IZ:List (Int→Fact×Int)→Fact→Int→Fact×Int
 | [],o,n=>(o,n)
 | g::r,o,n=>if 0≤n then IZ r (g n).1 (g n).2 else(o,n)
def so (f:Fact) (l:List (Int→Fact×Int)) (n:Int):Fact×Int:=if n=0 then(f,-1)else IZ l f (n - 1)
def Ds (f:Fact):Int→Fact×Int:=f.Ff so
def Gc (f:Fact) (n:Int):Ds f n=if n=0 then(f,-1)else IZ (f.kids.map Ds) f (n - 1):=congrFun (Fact.Cm so f) n
def Ui: ∀(l:List (Int→Fact×Int)) (o:Fact) (n:Int),(∀g∈l,∀m,0≤m→ -1≤(g m).2∧(g m).2≤m)→ -1≤n→ -1≤(IZ l o n).2∧(IZ l o n).2≤n
 | [],_,n,_,h=>⟨h,Int.le_refl _⟩
 | g ::r,o,n,hg,h=>by
   rw[IZ];split
   ·rename_i h0
    have h1:=hg g (.head _) n h0;have h2:=Ui r (g n).1 (g n).2 (fun x hx=>hg x (.tail _ hx)) h1.1;exact⟨h2.1,by omega⟩
   ·exact⟨h,Int.le_refl _⟩
def ec (f:Fact): ∀n,0≤n→ -1≤(Ds f n).2∧(Ds f n).2≤n:=by
 induction f using Fact.ind with
 | h f ih=>
   intro n hn;rw[Gc];split
   ·exact⟨Int.le_refl _,by omega⟩
   ·have:=Ui (f.kids.map Ds) f (n - 1) (fun g hg=>by
     obtain⟨k,hk,rfl⟩:=NP.1 hg
     exact ih k hk) (by omega)
    exact⟨this.1,by omega⟩
def nf (f : Fact): ∀n:Int,0≤n→n≤1000→Pure Tryz.prog 230 [.a (xF f),eI n] (.t [.a (xF (Ds f n).1),eI (Ds f n).2]):=by
 induction f using Fact.ind with
 | h f ih=>
   intro n h0 hn;refine Pure.fit (by kernel_rfl) fun hf=>?_
   have⟨h2,h3,h4⟩:=HG hf.1;have hM:=Mx;rw[Gc];by_cases hz:n=0
   ·subst hz
    rw[if_pos rfl];refine dL kZ ?_;have hs:=Sn
    conv=>whnf
    repeat'((first|apply st|(apply sq;intro K U)|(apply si;intro A B Y Z)|(apply Y;clear Z B Y A)|(apply U;clear U K)|refine⟨rfl,?_⟩|refine⟨kZ,?_⟩|refine ld ?_|refine CX fun σ hs=>?_|(constructor<;>intro hc<;>(try rw[hc])<;>(replace hc:=bp hc)<;>(try simp(disch:=omega) only[BW,wrap64,AN]at hc)<;>try(exfalso;omega))|(intro nn hnn;generalize hg:Az _ nn _=σ;refine CN hg fun hs=>?_;clear hg)|clear U K)<;>conv=>whnf)
    all_goals exact AI rfl
   ·rw [if_neg hz]
    have hw:IntKind.i64.wrap (n - 1)=n - 1:=wrap64 (by omega) (by omega);refine dL kZ ?_;have hs:=Sn
    conv=>whnf
    repeat'((first|apply st|(apply sq;intro K U)|(apply si;intro A B Y Z)|(apply Y;clear Z B Y A)|(apply U;clear U K)|refine⟨rfl,?_⟩|refine⟨kZ,?_⟩|refine CX fun σ hs=>?_|(constructor<;>intro hc<;>(try rw[hc])<;>(replace hc:=bp hc)<;>try(exfalso;omega))|(intro nn hnn;generalize hg:Az _ nn _=σ;refine CN hg fun hs=>?_;clear hg)|fail)<;>conv=>whnf)
    rename_i n4 _ _ _ _ _;refine CD f.kids.length (fun k (x:Fact×Int)=>[(1,eI x.2),(7,eI (BM k))]) (fun _ x=>[.box nn (xF x.1),.box n4 [.i .i64 0,.i .i64 0,.l [] true,.i .i64 0,.i .i64 0,.l [] true]]) (fun k x=> -1≤x.2∧x.2≤1000∧IZ (f.kids.map Ds) f (n - 1)=IZ ((f.kids.drop k).map Ds) x.1 x.2) (f,IntKind.i64.wrap (n - 1)) rfl ⟨by dsimp only;omega,by dsimp only;omega,by dsimp only;rw[hw];rfl⟩ hs ?_;clear hs hw;rintro k ⟨o,j⟩ σ hk ⟨hj1,hj2,hn⟩ hs;dsimp only at hj1 hj2 hn hs;dsimp only;have hck:BM k=k:=AN (by omega);rcases BS f.kids hk with⟨y,hy,hlt⟩|hke
    ·rw[drop_cons hy,C0,IZ]at hn
     by_cases hge:0≤j
     ·rw[if_pos hge]at hn
      have c1:=ih y (Ck hy) j hge hj2;have hb:=ec y j hge;generalize Ds y j=q at *;obtain⟨q1,q2⟩:=q;dsimp only at c1 hn hb
      conv=>whnf
      repeat'((first|apply st|(apply sq;intro K U)|(apply si;intro A B Y Z)|(apply Y;clear Z B Y A)|(apply U;clear U K)|refine⟨rfl,?_⟩|refine⟨kZ,?_⟩|refine Nc ?_|refine CX fun σ hs=>?_|(refine C8 (fun hc=>?_)<;>(try rw[hc])<;>clear hc)|refine c1.use ?_|(constructor<;>intro hc<;>(try rw[hc])<;>(replace hc:=bp hc)<;>try(exfalso;omega))|clear U K)<;>conv=>whnf)
      all_goals exact⟨hlt,(q1,q2),rfl,⟨hb.1,by dsimp only;omega,hn⟩,hs⟩
     ·rw[if_neg hge]at hn
      conv=>whnf
      repeat'((first|apply st|(apply sq;intro K U)|(apply si;intro A B Y Z)|(apply Y;clear Z B Y A)|(apply U;clear U K)|refine⟨rfl,?_⟩|refine⟨kZ,?_⟩|refine ld ?_|refine CX fun σ hs=>?_|(refine C8 (fun hc=>?_)<;>(try rw[hc])<;>clear hc)|(constructor<;>intro hc<;>(try rw[hc])<;>(replace hc:=bp hc)<;>try(exfalso;omega))|clear U K)<;>conv=>whnf)
      all_goals exact AI (by rw[hn];rfl)
    ·rw[Al hke,List.map_nil,IZ]at hn
     conv=>whnf
     repeat'((first|apply st|(apply sq;intro K U)|(apply si;intro A B Y Z)|(apply Y;clear Z B Y A)|(apply U;clear U K)|refine⟨rfl,?_⟩|refine⟨kZ,?_⟩|refine ld ?_|refine CX fun σ hs=>?_|(refine Es (fun hc=>?_)<;>(try rw[hc])<;>clear hc)|clear U K)<;>conv=>whnf)
     all_goals exact AI (by rw[hn];rfl)
end Go.Gl
namespace Go.Gl
open Go.Proofs
def NC {b sz:Nat} {σ:AH} {ys:List (List V)} {f:Bool} {K:V→AH→Prop} (h:AL b σ sz (.l [] true) (.l ys f) fun v' σ'=>(ys≠[]→(Dg v').isSome=true)→K v' σ'):AL b σ sz (.l [] true) (.l ys f) K:=by
 obtain⟨h1,h2,h3⟩:=h;exact⟨h1,h2,h3.1,h3.2.1,fun e=>h3.2.2.1 e fun hn=>absurd e hn,fun e=>⟨(h3.2.2.2 e).1,fun n cap hn hc=>(h3.2.2.2 e).2 n cap hn hc fun _=>rfl⟩⟩
attribute [local irreducible] A8 Ap Ag AT AL Ae AS AU AK Ad AO AP Aw A2 Sat AX A0 Ai W
def wk (f:Fact) (l:List Fact):Fact:= .mk f.op f.arg f.path f.cls f.n l
def Px:List Fact→List (Int→Fact×Int)→Int→List Fact×Int
 | k::ks,g::gs,n=>if 0≤n then((g n).1::(Px ks gs (g n).2).1,(Px ks gs (g n).2).2)else(k::ks,n)
 | ks,_,n=>(ks,n)
def iU (gs:List (Int→Fact×Int)) (n:Int):Px [] gs n=([],n):=by cases gs<;>rfl
def zF (x:Fact) (f:Fact) (l:List (Int→Fact×Int)) (n:Int):Fact×Int:=if n=0 then(x,-1)else(wk f (Px f.kids l (n - 1)).1,(Px f.kids l (n - 1)).2)
def JA (x f:Fact):Int→Fact×Int:=f.Ff (zF x)
def R1 (x f:Fact) (n:Int):JA x f n=if n=0 then(x,-1)else(wk f (Px f.kids (f.kids.map (JA x)) (n - 1)).1,(Px f.kids (f.kids.map (JA x)) (n - 1)).2):=congrFun (Fact.Cm (zF x) f) n
def YC {x:Fact}: ∀(l:List Fact) (n:Int),(∀k∈l,∀m,0≤m→ -1≤(JA x k m).2∧(JA x k m).2≤m)→ -1≤n→ -1≤(Px l (l.map (JA x)) n).2∧(Px l (l.map (JA x)) n).2≤n
 | [],n,_,h=>⟨h,Int.le_refl _⟩
 | g ::r,n,hg,h=>by
   rw[C0,Px];split
   ·rename_i h0
    have h1:=hg g (.head _) n h0;have h2:=YC r (JA x g n).2 (fun x hx=>hg x (.tail _ hx)) h1.1;exact⟨h2.1,by have:=h2.2;dsimp only;omega⟩
   ·exact⟨h,Int.le_refl _⟩
def iT (x f:Fact): ∀n,0≤n→ -1≤(JA x f n).2∧(JA x f n).2≤n:=by
 induction f using Fact.ind with
 | h f ih=>
   intro n hn;rw[R1];split
   ·exact⟨Int.le_refl _,by dsimp only;omega⟩
   ·have:=YC f.kids (n - 1) ih (by omega)
    exact⟨this.1,by dsimp only;omega⟩
def nP (x f:Fact):arity f=true→ ∀n:Int,0≤n→n≤1000→Pure Tryz.prog 231 [.a (xF f),eI n,.a (xF x)] (.t [.a (xF (JA x f n).1),eI (JA x f n).2]):=by
 induction f using Fact.ind with
 | h f ih=>
   intro har n h0 hn;rw[EA,BU,D4,GP]at har;have hk2:=OT f;have hM:=Mx;rw[R1];by_cases hz:n=0
   ·subst hz
    rw[if_pos rfl];refine dK kZ ?_;have hs:=Sn
    conv=>whnf
    repeat'((first|apply st|(apply sq;intro K U)|(apply si;intro A B Y Z)|(apply Y;clear Z B Y A)|(apply U;clear U K)|refine⟨rfl,?_⟩|refine⟨kZ,?_⟩|refine ld ?_|refine CX fun σ hs=>?_|(constructor<;>intro hc<;>(try rw[hc])<;>(replace hc:=bp hc)<;>(try simp(disch:=omega) only[BW,wrap64,AN]at hc)<;>try(exfalso;omega))|(intro nn hnn;generalize hg:Az _ nn _=σ;refine CN hg fun hs=>?_;clear hg)|clear U K)<;>conv=>whnf)
    all_goals exact AI rfl
   ·rw [if_neg hz]
    have hw:IntKind.i64.wrap (n - 1)=n - 1:=wrap64 (by omega) (by omega);refine dK kZ ?_;have hs:=Sn
    conv=>whnf
    repeat'((first|apply st|(apply sq;intro K U)|(apply si;intro A B Y Z)|(apply Y;clear Z B Y A)|(apply U;clear U K)|refine⟨rfl,?_⟩|refine ld ?_|(constructor<;>intro hc<;>(try rw[hc])<;>(replace hc:=bp hc)<;>try(exfalso;omega))|(intro nn hnn;generalize hg:Az _ nn _=σ;refine CN hg fun hs=>?_;clear hg)|fail)<;>conv=>whnf)
    refine NC (GS (Ed hs 6) 2 (xs:=[]) (ys:=f.kids) (enc:=Ef) rfl ⟨by simp only[List.length_nil];omega,by simp only[List.length_nil];omega⟩ F5 fun v σ hs hvn=>?_);rw[List.nil_append]at hs
    conv=>whnf
    repeat'((first|apply st|(apply sq;intro K U)|(apply si;intro A B Y Z)|(apply Y;clear Z B Y A)|(apply U;clear U K)|fail)<;>conv=>whnf)
    rename_i n3 _ _ _ _ _;refine CD f.kids.length (fun k (x:List Fact×Int)=>[(1,eI x.2),(9,eI (BM k))]) (fun k y=>[.box nn [.i .i64 0,.i .i64 0,.l [] true,.i .i64 0,.i .i64 0,.l [] true],.box n3 (xF f),.own v 6 (facts (y.1++f.kids.drop k))]) (fun k y=> -1≤y.2∧y.2≤1000∧y.1.length=k∧(Px f.kids (f.kids.map (JA x)) (n - 1)).1=y.1++(Px (f.kids.drop k) ((f.kids.drop k).map (JA x)) y.2).1∧(Px f.kids (f.kids.map (JA x)) (n - 1)).2=(Px (f.kids.drop k) ((f.kids.drop k).map (JA x)) y.2).2) ([],IntKind.i64.wrap (n - 1)) rfl ⟨by dsimp only;omega,by dsimp only;omega,rfl,by dsimp only;rw[hw];rfl,by dsimp only;rw[hw];rfl⟩ hs ?_;clear hs hw;rintro k ⟨zs,j⟩ σ hk ⟨hj1,hj2,hzl,hn1,hn2⟩ hs;dsimp only at hj1 hj2 hzl hn1 hn2 hs;dsimp only;have hck:BM k=k:=AN (by omega);rcases BS f.kids hk with⟨y,hy,hlt⟩|hke
    ·rw[drop_cons hy,C0,Px]at hn1 hn2
     by_cases hge:0≤j
     ·rw[if_pos hge]at hn1 hn2
      have c1:=ih y (Ck hy) (har.2 y (Ck hy)) j hge hj2;have hb:=iT x y j hge;generalize JA x y j=q at *;obtain⟨q1,q2⟩:=q;dsimp only at c1 hn1 hn2 hb;have hyk:(zs++f.kids.drop k)[k]? =some y:=by rw[List.getElem?_append_right (by omega),hzl,Nat.sub_self,drop_cons hy];rfl
      have hwl:(zs++f.kids.drop k).length≤2:=by rw[KY,kX];omega
      have hwt:(zs++f.kids.drop k).set k q1=(zs++[q1])++f.kids.drop (k+1):=by rw[List.set_append_right _ _ (by omega),hzl,Nat.sub_self,drop_cons hy,TR];rfl
      have hwk:k<(zs++f.kids.drop k).length:=by rw[KY,kX];omega
      generalize zs++f.kids.drop k=ws at *;have hv:=hvn (by intro e;rw[List.map_eq_nil_iff]at e;rw[e]at hlt;simp at hlt);have hct:(BM k).toNat=k:=by rw[hck];rfl
      have hyk2:ws[(BM k).toNat]? =some y:=by rw[hct];exact hyk
      conv=>whnf
      repeat'((first|apply st|(apply sq;intro K U)|(apply si;intro A B Y Z)|(apply Y;clear Z B Y A)|(apply U;clear U K)|apply dr|refine⟨rfl,?_⟩|refine⟨kZ,?_⟩|refine lo ?_|refine oi ?_|refine P3 ?_|(refine C8 (fun hc=>?_)<;>(try rw[hc])<;>clear hc)|refine c1.use ?_|(constructor<;>intro hc<;>(try rw[hc])<;>(replace hc:=bp hc)<;>try(exfalso;omega))|fail)<;>conv=>whnf)
      refine oset (enc:=Ef) (xs:=ws) (y:=q1) (fun σ hs=>?_) (he:=(BC q1).symm) (h1:=by rw[hct];exact hwk)
      conv=>whnf
      repeat'((first|(apply si;intro A B Y Z)|(apply Y;clear Z B Y A)|(apply U;clear U K)|apply dr|refine⟨rfl,?_⟩|clear U K)<;>conv=>whnf)
      all_goals exact⟨hlt,(zs++[q1],q2),rfl,⟨hb.1,by dsimp only;omega,by simp[hzl],by rw[hn1,TR];rfl,hn2⟩,by dsimp only;rw[←hwt,←hct];exact hs⟩
     ·rw[if_neg hge,←drop_cons hy]at hn1 hn2
      have hyk:(zs++f.kids.drop k)[k]? =some y:=by rw[List.getElem?_append_right (by omega),hzl,Nat.sub_self,drop_cons hy];rfl
      have hwl:(zs++f.kids.drop k).length≤2:=by rw[KY,kX];omega
      dsimp only at hn1 hn2;generalize zs++f.kids.drop k=ws at *
      conv=>whnf
      repeat'((first|apply st|(apply sq;intro K U)|(apply si;intro A B Y Z)|(apply Y;clear Z B Y A)|(apply U;clear U K)|refine⟨rfl,?_⟩|refine⟨kZ,?_⟩|refine lo ?_|refine ld ?_|refine IA fun σ hs=>?_|(refine C8 (fun hc=>?_)<;>(try rw[hc])<;>clear hc)|(constructor<;>intro hc<;>(try rw[hc])<;>(replace hc:=bp hc)<;>try(exfalso;omega))|clear U K)<;>conv=>whnf)
      have o1:=Ft hs 2 rfl;refine F4 hs 0 rfl rfl rfl (by simp[o1]) (by decide) fun σ hs=>?_
      clear o1
      conv=>whnf
      repeat'((first|apply st|(apply Y;clear Z B Y A)|(apply U;clear U K)|refine⟨kZ,?_⟩|refine ld ?_|fail)<;>conv=>whnf)
      rw[hn1,hn2];exact An (.t (.cons (.a (.cons (.refl _) (.cons (.refl _) (.cons (.refl _) (.cons (.refl _) (.cons (.refl _) (.cons (hs.G7 2 rfl) .nil))))))) (.cons (.refl _) .nil)))
    ·rw[Al hke,List.map_nil,iU]at hn1 hn2
     rw[Al hke,JW]at hs
     conv=>whnf
     repeat'((first|apply st|(apply sq;intro K U)|(apply si;intro A B Y Z)|(apply Y;clear Z B Y A)|(apply U;clear U K)|refine⟨rfl,?_⟩|refine⟨kZ,?_⟩|refine lo ?_|refine ld ?_|refine IA fun σ hs=>?_|(constructor<;>intro hc<;>(try rw[hc])<;>(replace hc:=bp hc)<;>(try simp(disch:=omega) only[BW,wrap64,AN]at hc)<;>try(exfalso;omega))|clear U K)<;>conv=>whnf)
     have o1:=Ft hs 2 rfl;refine F4 hs 0 rfl rfl rfl (by simp[o1]) (by decide) fun σ hs=>?_
     clear o1
     conv=>whnf
     repeat'((first|apply st|(apply Y;clear Z B Y A)|(apply U;clear U K)|refine⟨kZ,?_⟩|refine ld ?_|fail)<;>conv=>whnf)
     rw[hn1,hn2,JW];exact An (.t (.cons (.a (.cons (.refl _) (.cons (.refl _) (.cons (.refl _) (.cons (.refl _) (.cons (.refl _) (.cons (hs.G7 2 rfl) .nil))))))) (.cons (.refl _) .nil)))
end Go.Gl
namespace Go.Gl
open Go.Proofs
attribute [local irreducible] A8 Ap Ag AT AL Ae AS AU AK Ad AO AP Aw A2 Sat AX A0 Ai W
def rm (a:List Fact) (f:Bool) (hl:a.length≤1000000):By Tryz.prog 294 [.l (facts a) f] [] fun r post=> ∃v,r= .ret v∧post= [.own v 6 (facts a)]∧(a≠[]→(Dg v).isSome=true):=by
 intro σ hs;have hM:=Mx;refine qC kZ ?_
 conv=>whnf
 repeat'((first|(apply sq;intro K U)|(apply si;intro A B Y Z)|(apply Y;clear Z B Y A)|(apply U;clear U K)|fail)<;>conv=>whnf)
 refine⟨fun e t=>?_,fun _=>?_⟩
 ·have hxe:a= []:=List.map_eq_nil_iff.1 e
  subst hxe
  conv=>whnf
  repeat'((first|apply st|(apply sq;intro K U)|(apply si;intro A B Y Z)|(apply Y;clear Z B Y A)|(apply U;clear U K)|(constructor<;>intro hc<;>(try rw[hc])<;>(replace hc:=bp hc))|clear U K)<;>conv=>whnf)
  ·exact Aa ⟨_,⟨_,rfl,rfl,fun h=>absurd rfl h⟩,FN hs 6⟩
  ·replace hs:=FN hs 6
   refine GS hs 0 (xs:=[]) (ys:=[]) rfl (by simp) F5 fun v σ hs=>?_
   conv=>whnf
   repeat'((first|apply st|(apply Y;clear Z B Y A)|(apply U;clear U K)|fail)<;>conv=>whnf)
   exact Aa ⟨_,⟨_,rfl,rfl,fun h=>absurd rfl h⟩,hs⟩
 ·conv=>whnf
  repeat'((first|apply st|(apply sq;intro K U)|(apply si;intro A B Y Z)|(apply Y;clear Z B Y A)|(apply U;clear U K)|fail)<;>conv=>whnf)
  replace hs:=FN hs 6;refine NC (GS hs 0 (xs:=[]) (ys:=a) rfl (by simp;omega) F5 fun v σ hs hv=>?_)
  conv=>whnf
  repeat'((first|apply st|(apply Y;clear Z B Y A)|(apply U;clear U K)|fail)<;>conv=>whnf)
  exact Aa ⟨_,⟨_,rfl,rfl,fun h=>hv fun e=>h (List.map_eq_nil_iff.1 e)⟩,hs⟩
def a8:List Fact→List (Int→Fact)→Int→Int→List Fact
 | k::ks,g::gs,n,m=>g (n - m)::a8 ks gs n (m+B0 k)
 | _,_,_,_=>[]
def iG (gs:List (Int→Fact)) (n m:Int):a8 [] gs n m= []:=by cases gs<;>rfl
def zE (y:Fact) (f:Fact) (l:List (Int→Fact)) (n:Int):Fact:=if n=0 then y else wk f (a8 f.kids l n 1)
def Ka (y f:Fact):Int→Fact:=f.Ff (zE y)
def Jy (y f:Fact) (n:Int):Ka y f n=if n=0 then y else wk f (a8 f.kids (f.kids.map (Ka y)) n 1):=congrFun (Fact.Cm (zE y) f) n
def Yp {f:Fact} (har:f.kids.length≤2): ∀k,1+((f.kids.take k).map B0).sum≤B0 f:=fun k=>by
 rw[D3];have:((f.kids.take k).map B0).sum+((f.kids.drop k).map B0).sum=(f.kids.map B0).sum:=by rw[←List.sum_append,←Pw,List.take_append_drop]
 omega
set_option maxHeartbeats 2000000 in
def vB (y f:Fact):arity f=true→B0 f≤1000→ ∀n:Int,(B0 f:Int) - 3000≤n→n≤1000→Pure Tryz.prog 228 [.a (xF f),eI n,.a (xF y)] (.t [.a (xF (Ka y f n)),eI (B0 f)]):=by
 induction f using Fact.ind with
 | h f ih=>
   intro har hcn;rw[EA,BU,D4,GP]at har;have hk2:=OT f;have hM:=Mx
   have main: ∀n:Int,n≠0→(B0 f:Int) - 3000≤n→n≤1000→Pure Tryz.prog 228 [.a (xF f),eI n,.a (xF y)] (.t [.a (xF (Ka y f n)),eI (B0 f)]):=by
    intro n hz h0 hn;rw[Jy,if_neg hz];refine dM kZ ?_;have hs:=Sn
    conv=>whnf
    repeat'((first|apply st|(apply sq;intro K U)|(apply si;intro A B Y Z)|(apply Y;clear Z B Y A)|(apply U;clear U K)|refine⟨rfl,?_⟩|refine ld ?_|(constructor<;>intro hc<;>(try rw[hc])<;>(replace hc:=bp hc)<;>try(exfalso;omega))|(intro nn hnn;generalize hg:Az _ nn _=σ;refine CN hg fun hs=>?_;clear hg)|fail)<;>conv=>whnf)
    rename_i n3 _ _ _;refine(rm f.kids false (by omega)).use (rest:=_) hs ?_;clear hs;rintro r post σ ⟨v,rfl,rfl,hvn⟩ hs;replace hs:=Sat.front (j:=2) (hs.perm TO) rfl
    conv=>whnf
    repeat'((first|apply st|(apply sq;intro K U)|(apply si;intro A B Y Z)|(apply Y;clear Z B Y A)|(apply U;clear U K)|refine lo ?_|refine ld ?_|refine IA fun σ hs=>?_|fail)<;>conv=>whnf)
    refine CD f.kids.length (fun k (x:List Fact×Int)=>[(10,eI x.2),(32,eI (BM k))]) (fun k x=>[.own v 6 (facts (x.1++f.kids.drop k)),.box nn [.i .i64 0,.i .i64 0,.l [] true,.i .i64 0,.i .i64 0,.l [] true],.box n3 [eI f.op,eI f.arg,.l (iL f.path) false,eI f.cls,eI f.n,v]]) (fun k x=>x.1.length=k∧x.2=1+(((f.kids.take k).map B0).sum:Nat)∧a8 f.kids (f.kids.map (Ka y)) n 1=x.1++a8 (f.kids.drop k) ((f.kids.drop k).map (Ka y)) n x.2) ([],1) rfl ⟨rfl,rfl,rfl⟩ hs ?_;clear hs;rintro k ⟨zs,m⟩ σ hk ⟨hzl,hm,hn1⟩ hs;dsimp only at hzl hm hn1 hs;dsimp only;have hck:BM k=k:=AN (by omega);have hsum:=Yp (f:=f) (by omega) k;rcases BS f.kids hk with⟨x,hx,hlt⟩|hke
    ·have hsum2:=Yp (f:=f) (by omega) (k+1)
     have hm2:(1:Int)+(((f.kids.take (k+1)).map B0).sum:Nat)=m+B0 x:=by
      rw[AR hx,Pw,List.sum_append,hm];simp;omega
     rw[drop_cons hx,C0,a8]at hn1;have hcx:B0 x≤B0 f:=by omega
     have hwn:IntKind.i64.wrap (n - m)=n - m:=wrap64 (by omega) (by omega);have hwm:IntKind.i64.wrap (m+(B0 x:Int))=m+B0 x:=wrap64 (by omega) (by omega)
     have c1:Pure Tryz.prog 228 [.a (xF x),eI (IntKind.i64.wrap (n - m)),.a (xF y)] (.t [.a (xF (Ka y x (n - m))),eI (B0 x)]):=by
      rw[hwn];exact ih x (Ck hx) (har.2 x (Ck hx)) (by omega) (n - m) (by omega) (by omega)
     have hv:=hvn (by intro e;rw[e]at hlt;simp at hlt);have hct:(BM k).toNat=k:=by rw[hck];rfl
     have hyk:(zs++f.kids.drop k)[(BM k).toNat]? =some x:=by rw[hct,List.getElem?_append_right (by omega),hzl,Nat.sub_self,drop_cons hx];rfl
     have hwl:(zs++f.kids.drop k).length≤2:=by rw[KY,kX];omega
     have hwk:(BM k).toNat<(zs++f.kids.drop k).length:=by rw[hct,KY,kX];omega
     have hwt:(zs++f.kids.drop k).set (BM k).toNat (Ka y x (n - m))=(zs++[Ka y x (n - m)])++f.kids.drop (k+1):=by rw[hct,List.set_append_right _ _ (by omega),hzl,Nat.sub_self,drop_cons hx,TR];rfl
     generalize zs++f.kids.drop k=ws at *;generalize hq:Ka y x (n - m)=q at *;clear hwn
     conv=>whnf
     repeat'((first|apply st|(apply sq;intro K U)|(apply si;intro A B Y Z)|(apply Y;clear Z B Y A)|(apply U;clear U K)|refine⟨rfl,?_⟩|refine⟨kZ,?_⟩|refine ld ?_|refine CX fun σ hs=>?_|refine oi ?_|refine P3 ?_|(refine C8 (fun hc=>?_)<;>(try rw[hc])<;>clear hc)|refine c1.use ?_|(intro nn hnn;generalize hg:Az _ nn _=σ;refine CN hg fun hs=>?_;clear hg)|fail)<;>conv=>whnf)
     refine oset (enc:=Ef) (xs:=ws) (y:=q) (fun σ hs=>?_) (he:=(BC q).symm) (h1:=hwk)
     conv=>whnf
     repeat'((first|(apply si;intro A B Y Z)|(apply Y;clear Z B Y A)|(apply U;clear U K)|refine⟨rfl,?_⟩|clear U K)<;>conv=>whnf)
     all_goals exact⟨hlt,(zs++[q],m+B0 x),by rw[hwm];rfl,⟨by simp[hzl],hm2.symm,by rw[hn1,TR];rfl⟩,by dsimp only;rw[←hwt];exact hs.less ((IV _ _).trans (IV _ _))⟩
    ·rw[Al hke,List.map_nil,iG,JW]at hn1
     rw[Al hke,JW]at hs
     have hmf:m=B0 f:=by
      rw[hm,hke,List.take_of_length_le (He _),D3];omega
     conv=>whnf
     repeat'((first|apply st|(apply sq;intro K U)|(apply si;intro A B Y Z)|(apply Y;clear Z B Y A)|(apply U;clear U K)|refine⟨rfl,?_⟩|refine⟨kZ,?_⟩|refine ld ?_|(refine Es (fun hc=>?_)<;>(try rw[hc])<;>clear hc)|clear U K)<;>conv=>whnf)
     have o1:=Ft hs 0 rfl;refine F4 hs 1 rfl rfl rfl (by simp[o1]) (by decide) fun σ hs=>?_
     clear o1
     conv=>whnf
     repeat'((first|apply st|(apply Y;clear Z B Y A)|(apply U;clear U K)|refine⟨kZ,?_⟩|refine ld ?_|fail)<;>conv=>whnf)
     rw[hn1,←hmf];exact An (.t (.cons (.a (.cons (.refl _) (.cons (.refl _) (.cons (.refl _) (.cons (.refl _) (.cons (.refl _) (.cons (hs.G7 0 rfl) .nil))))))) (.cons (.refl _) .nil)))
   intro n h0 hn;by_cases hz:n=0
   ·subst hz
    have c1:=main (-1) (by omega) (by omega) (by omega);rw[Jy,if_pos rfl];refine dM kZ ?_;have hs:=Sn
    conv=>whnf
    repeat'((first|apply st|(apply sq;intro K U)|(apply si;intro A B Y Z)|(apply Y;clear Z B Y A)|(apply U;clear U K)|refine⟨rfl,?_⟩|refine⟨kZ,?_⟩|refine ld ?_|refine CX fun σ hs=>?_|refine c1.use ?_|(constructor<;>intro hc<;>(try rw[hc])<;>(replace hc:=bp hc)<;>(try simp(disch:=omega) only[BW,wrap64,AN]at hc)<;>try(exfalso;omega))|(intro nn hnn;generalize hg:Az _ nn _=σ;refine CN hg fun hs=>?_;clear hg)|clear U K)<;>conv=>whnf)
    all_goals exact AI rfl
   ·exact main n hz h0 hn
def Da:Fact:=ED CK
def F1 (x:Fact):List Fact:=(if B3 x CK then []else if B3 x Da then [CK]else [CK,Da])++x.kids
def Rr (w:AM) (f g:Fact):Bool:=Tj w f g&&Tj w g f
def Ly (w:AM) (f:Fact) (n:Int):Option Fact:=((F1 (Ds f n).1).map fun y=>(JA y f n).1).find? (Rr w f)
def IC (w:AM) (f:Fact):List Nat→Option Fact
 | []=>none
 | n::r=>(Ly w f n).or (IC w f r)
def C9 (w:AM) (f:Fact):Option Fact:=IC w f (List.range (B0 f))
def WH (w:AM) (f:Fact):Prop:=A9 w f=true∧lv f≤12∧arity f=true∧Bh f 24=B0 f∧B0 f≤24∧ ∀n:Nat,n<B0 f→(Ds f n).1.kids.length≤2∧ ∀y∈F1 (Ds f n).1,A9 w (JA y f n).1=true∧lv (JA y f n).1≤12
set_option maxHeartbeats 8000000 in
def gz (w : AM) (hw:gF w) (f:Fact) (h:WH w f):Pure Tryz.prog 154 [.a (BI w),.a (xF f)] (.t [.a (xF ((C9 w f).getD f)),.b (C9 w f).isSome]):=by
 obtain⟨hnf,hlf,har,hcn,hcf,hall⟩:=h;have hM:=Mx;have c1:=R5 CK;have c2:=Ol f;rw[hcn]at c2;have hst0:C9 w f=IC w f ((List.range (B0 f)).drop 0):=rfl;refine rP kZ ?_;have hs:=Sn
 conv=>whnf
 repeat'((first|apply st|(apply sq;intro K U)|(apply si;intro A B Y Z)|(apply Y;clear Z B Y A)|(apply U;clear U K)|refine CX fun σ hs=>?_|refine c1.use ?_|refine SQ.use ?_|(intro nn hnn;generalize hg:Az _ nn _=σ;refine CN hg fun hs=>?_;clear hg)|fail)<;>conv=>whnf)
 rename_i n4 _ _ _ _ _;refine CD (B0 f) (fun k (_:Unit)=>[(7,eI (BM k))]) (fun _ _=>[.box nn (xF Da),.box n4 [.i .i64 0,.i .i64 0,.l [] true,.i .i64 0,.i .i64 0,.l [] true]]) (fun k _=>C9 w f=IC w f ((List.range (B0 f)).drop k)) () rfl hst0 hs ?_;clear hs hst0;rintro k - σ hk hn hs;have hck:BM k=k:=AN (by omega);rcases BS (List.range (B0 f)) (k:=k) (by rw[sF];exact hk)with⟨y,hy,hlt⟩|hke
 ·rw [sF] at hlt
  obtain rfl:k=y:=by
   rw[List.getElem?_range hlt]at hy;exact Option.some.inj hy
  rw[drop_cons hy,IC]at hn;have c3:=nf f (k:Int) (by omega) (by omega);rw[←hck]at c3;obtain⟨hk2,hal⟩:=hall k hlt;rw[Ly]at hn;rw[hck]at c3;have c3':Pure Tryz.prog 230 [.a (xF f),eI (BM k)] (.t [.a (xF (Ds f k).1),eI (Ds f k).2]):=by rw[hck];exact c3
  clear c3;generalize hqq:Ds f (k:Int)=q at *;obtain⟨x,q2⟩:=q;dsimp only at c3' hk2 hal hn;have c4:=Ky x CK;have c5:=Ky x Da;replace hs:Sat σ [.box nn (xF Da),.box n4 [.i .i64 0,.i .i64 0,.l [] true,.i .i64 0,.i .i64 0,.l [] true],.own (.l [] true) 6 (facts [])]:=Ed hs 6;clear hnn;generalize nn=n6 at *
  have hcl:(F1 x).length≤4:=by
   rw[F1,KY]
   have:(if B3 x CK then []else if B3 x Da then [CK]else [CK,Da]:List Fact).length≤2:=by
    split
    ·simp
    ·split<;>simp
   omega
  cases hx1:B3 x CK<;>cases hx2:B3 x Da<;>rw[hx1]at c4<;>rw[hx2]at c5
  all_goals
   conv=>whnf
   repeat'((first|apply st|(apply sq;intro K U)|(apply si;intro A B Y Z)|(apply Y;clear Z B Y A)|(apply U;clear U K)|apply dr|refine rk ?_ ?_|exact fun s e=>by cases e;rfl|refine⟨rfl,?_⟩|refine⟨kZ,?_⟩|refine ld ?_|refine CX fun σ hs=>?_|refine kr fun v σ hs hsl=>?_|refine JB ?_|refine G3 ?_|(refine GS hs 3 (ys:=x.kids) (enc:=Ef) rfl ⟨by simp only[KY,KX,List.length_nil];omega,by simp only[KY,KX,List.length_nil];omega⟩ F5 fun v σ hs=>?_)|refine c2.use ?_|refine Pure.use c3' ?_|refine c4.use ?_|refine c5.use ?_|refine SQ.use ?_|(constructor<;>intro hc<;>(try rw[hc])<;>(replace hc:=bp hc)<;>(try simp(disch:=omega) only[BW,wrap64,AN]at hc)<;>try(exfalso;omega))|(intro nn hnn;generalize hg:Az _ nn _=σ;refine CN hg fun hs=>?_;clear hg)|fail)<;>conv=>whnf)
   replace hs:Sat σ [.box nn (xF x),.box n6 (xF Da),.box n4 [.i .i64 0,.i .i64 0,.l [] true,.i .i64 0,.i .i64 0,.l [] true],.own v 6 (facts (F1 x))]:=by
    rw[F1,hx1,hx2];exact hs
   clear c4 c5 hx1 hx2 c1;generalize F1 x=L at *
   conv=>whnf
   repeat'((first|apply st|(apply Y;clear Z B Y A)|(apply U;clear U K)|refine lo ?_|fail)<;>conv=>whnf)
   refine CD L.length (fun j (_:Unit)=>[(51,eI (BM j))]) (fun _ _=>[.box nn (xF x),.box n6 (xF Da),.box n4 [.i .i64 0,.i .i64 0,.l [] true,.i .i64 0,.i .i64 0,.l [] true],.own v 6 (facts L)]) (fun j _=>C9 w f=(((L.drop j).map fun y=>(JA y f k).1).find? (Rr w f)).or (IC w f ((List.range (B0 f)).drop (k+1)))) () rfl hn hs ?_;clear hs hn;rintro j - σ hj hn hs;have hcj:BM j=j:=AN (by omega);rcases BS L hj with⟨y,hy,hjl⟩|hje
   ·rw [drop_cons hy,C0,List.find?_cons]at hn
    obtain⟨hg1,hg2⟩:=hal y (Ck hy);have c6:Pure Tryz.prog 231 [.a (xF f),eI (BM k),.a (xF y)] (.t [.a (xF (JA y f k).1),eI (JA y f k).2]):=by rw[hck];exact nP y f har k (by omega) (by omega)
    have hyj:L[(BM j).toNat]? =some y:=by rw[hcj];exact hy
    generalize JA y f (k:Int)=q at *;obtain⟨g,q3⟩:=q;dsimp only at c6 hn hg1 hg2;have c7:=Qz w f g hw hnf hg1 hlf hg2;have c8:=Qz w g f hw hg1 hnf hg2 hlf;rw[Rr]at hn;cases hi1:Tj w f g<;>rw[hi1]at c7 hn
    ·conv=>whnf
     repeat'((first|apply st|(apply sq;intro K U)|(apply si;intro A B Y Z)|(apply Y;clear Z B Y A)|(apply U;clear U K)|refine⟨rfl,?_⟩|refine⟨kZ,?_⟩|refine ld ?_|refine CX fun σ hs=>?_|refine oi ?_|refine P3 ?_|(refine C8 (fun hc=>?_)<;>(try rw[hc])<;>clear hc)|refine c6.use ?_|refine c7.use ?_|(intro nn hnn;generalize hg:Az _ nn _=σ;refine CN hg fun hs=>?_;clear hg)|clear U K)<;>conv=>whnf)
     all_goals exact⟨hjl,(),rfl,hn,hs.less ((IV _ _).trans (IV _ _))⟩
    ·cases hi2:Tj w g f<;>rw[hi2]at c8 hn
     ·conv=>whnf
      repeat'((first|apply st|(apply sq;intro K U)|(apply si;intro A B Y Z)|(apply Y;clear Z B Y A)|(apply U;clear U K)|refine⟨rfl,?_⟩|refine⟨kZ,?_⟩|refine ld ?_|refine CX fun σ hs=>?_|refine oi ?_|refine P3 ?_|refine G3 ?_|(refine C8 (fun hc=>?_)<;>(try rw[hc])<;>clear hc)|refine c6.use ?_|refine c7.use ?_|refine c8.use ?_|(intro nn hnn;generalize hg:Az _ nn _=σ;refine CN hg fun hs=>?_;clear hg)|clear U K)<;>conv=>whnf)
      all_goals exact⟨hjl,(),rfl,hn,hs.less ((IV _ _).trans (IV _ _))⟩
     ·conv=>whnf
      repeat'((first|apply st|(apply sq;intro K U)|(apply si;intro A B Y Z)|(apply Y;clear Z B Y A)|(apply U;clear U K)|refine⟨rfl,?_⟩|refine⟨kZ,?_⟩|refine ld ?_|refine CX fun σ hs=>?_|refine oi ?_|refine P3 ?_|refine JB ?_|(refine C8 (fun hc=>?_)<;>(try rw[hc])<;>clear hc)|refine c6.use ?_|refine c7.use ?_|refine c8.use ?_|(intro nn hnn;generalize hg:Az _ nn _=σ;refine CN hg fun hs=>?_;clear hg)|clear U K)<;>conv=>whnf)
      all_goals exact AI (by rw[hn];rfl)
   ·rw[hje,List.drop_of_length_le (He _),List.map_nil,List.find?_nil,Option.none_or]at hn
    conv=>whnf
    repeat'((first|apply st|(apply sq;intro K U)|(apply si;intro A B Y Z)|(apply Y;clear Z B Y A)|(apply U;clear U K)|refine⟨rfl,?_⟩|(refine Es (fun hc=>?_)<;>(try rw[hc])<;>clear hc)|clear U K)<;>conv=>whnf)
    all_goals exact⟨hlt,(),rfl,hn,hs.less (.cons _ (.cons₂ _ (.cons₂ _ (.cons _ .slnil))))⟩
 ·rw[sF]at hke
  rw[hke,List.drop_of_length_le (by rw[sF];exact He _),IC]at hn
  conv=>whnf
  repeat'((first|apply st|(apply sq;intro K U)|(apply si;intro A B Y Z)|(apply Y;clear Z B Y A)|(apply U;clear U K)|refine⟨rfl,?_⟩|refine⟨kZ,?_⟩|refine ld ?_|refine CX fun σ hs=>?_|refine c2.use ?_|(constructor<;>intro hc<;>(try rw[hc])<;>(replace hc:=bp hc)<;>(try simp(disch:=omega) only[BW,wrap64,AN]at hc)<;>try(exfalso;omega))|clear U K)<;>conv=>whnf)
  rw[hn]
  all_goals exact AI rfl
section
variable {S:Type}
def bM:List (S→Bool×S)→S→Bool×S
 | [],s=>(false,s)
 | g::r,s=>if(g s).1 then g s else bM r (g s).2
def zD (stp:Fact→S→Bool×S) (f:Fact) (l:List (S→Bool×S)) (s:S):Bool×S:=if(stp f s).1 then stp f s else bM l (stp f s).2
def P0 (stp:Fact→S→Bool×S) (f:Fact):S→Bool×S:=f.Ff (zD stp)
def WE (stp:Fact→S→Bool×S) (f:Fact) (s:S):P0 stp f s=if(stp f s).1 then stp f s else bM (f.kids.map (P0 stp)) (stp f s).2:=congrFun (Fact.Cm (zD stp) f) s
def UK (stp:Fact→S→Bool×S): ∀(xs:List Fact) (k:Nat) (s:S),bM (xs.map (P0 stp)) s=(decide ((B8 (P0 stp) xs k s).1≥0),(B8 (P0 stp) xs k s).2)
 | [],_,_=>rfl
 | y ::r,k,s=>by
   rw[C0,bM,B8];cases h:(P0 stp y s).1
   ·rw[if_neg (by decide),if_neg (by decide)]
    exact UK stp r (k+1) _
   ·rw[if_pos rfl,if_pos rfl]
    dsimp only;rw[decide_eq_true (by omega),←h]
end
abbrev SN:=Int×Fact
def sM (AF:Fact→Prop) (y:Fact) (s:SN):Prop:=AF y∧ -1≤s.1∧s.1+(B0 y:Int)≤900
def m4 {stp:Fact→SN→Bool×SN} (h1: ∀y s,(stp y s).2.1=s.1+1) (f:Fact): ∀s,s.1≤(P0 stp f s).2.1∧(P0 stp f s).2.1≤s.1+B0 f:=by
 induction f using Fact.ind with
 | h f ih=>
   intro s;rw[WE,D3];have h2:=h1 f s
   have hl: ∀(l:List Fact),(∀k∈l,k∈f.kids)→ ∀s:SN,s.1≤(bM (l.map (P0 stp)) s).2.1∧(bM (l.map (P0 stp)) s).2.1≤s.1+((l.map B0).sum:Nat):=fun l=>by
    induction l with
    | nil=>exact fun _ s=>⟨Int.le_refl _,by simp[bM]⟩
    | cons k r ih2=>
      intro hm s;have h3:=ih k (hm k (.head _)) s;rw[C0,bM,C0,List.sum_cons];split
      ·exact⟨h3.1,by omega⟩
      ·have h4:=ih2 (fun x hx=>hm x (.tail _ hx)) (P0 stp k s).2
       exact⟨by omega,by omega⟩
   split
   ·exact⟨by omega,by omega⟩
   ·have:=hl f.kids (fun _ h=>h) (stp f s).2
    exact⟨by omega,by omega⟩
def Ug {stp:Fact→SN→Bool×SN} (h1: ∀y s,(stp y s).2.1=s.1+1) {AF:Fact→Prop}: ∀(l:List Fact) (s:SN),(∀k∈l,AF k)→ -1≤s.1→s.1+((l.map B0).sum:Nat)≤900→RZ (P0 stp) (sM AF) l s
 | [],_,_,_,_=>trivial
 | k::r,s,hc,h0,hs=>by
   rw[C0,List.sum_cons]at hs;have hb:=m4 h1 k s;exact⟨⟨hc k (.head _),h0,by omega⟩,Ug h1 r _ (fun x hx=>hc x (.tail _ hx)) (by omega) (by omega)⟩
def YK {S:Type} {stp:Fact→S→Bool×S} {D:Fact→S→Prop} {l:List Fact}: ∀ {xs:List Fact} {s:S},RZ stp D xs s→(∀y∈xs,y∈l)→RZ stp (fun y s=>y∈l∧D y s) xs s
 | [],_,_,_=>trivial
 | y::r,_,h,hm=>⟨⟨hm y (.head _),h.1⟩,YK h.2 fun z hz=>hm z (.tail _ hz)⟩
def fM {g:FuncId} {fi ca:List V} {H:SN→List At} {stp:Fact→SN→Bool×SN} {AF:Fact→Prop} (h1: ∀y s,(stp y s).2.1=s.1+1) (hC: ∀y,AF y→y.kids.length≤2∧ ∀k∈y.kids,AF k)
    (hx:Cy Tryz.prog (.f (.func g) fi ca) (fun y=> .a (xF y)) H stp (sM AF)) (f:Fact): ∀s,sM AF f s→By Tryz.prog 225 [.a (xF f),.f (.func g) fi ca] (H s) fun r post=>r= .ret (.b (P0 stp f s).1)∧post=H (P0 stp f s).2:=by
 induction f using Fact.ind with
 | h f ih=>
   intro s ⟨hc,hs0,hs9⟩ σ hs;have hM:=Mx;obtain⟨hk2,hkc⟩:=hC f hc;have hst: ∀k∈f.kids,True:=fun _ _=>trivial
   have hcl:Cy Tryz.prog (.f (.func 292) [] [.rp [.f (.func g) fi ca]]) (fun y=> .a (xF y)) H (fun y s=>P0 stp y s) (fun y s=>y∈f.kids∧sM AF y s):=by
    rintro y s ⟨hy,hd⟩ σ hs;refine Bs ?_;show A8 Tryz.prog 292 ([]++[.a (xF y)]++[.rp [.f (.func g) fi ca]]) σ _;refine qD kZ ?_
    conv=>whnf
    repeat'((first|apply st|(apply sq;intro K U)|(apply si;intro A B Y Z)|(apply Y;clear Z B Y A)|(apply U;clear U K)|refine⟨kZ,?_⟩|fail)<;>conv=>whnf)
    refine(ih y hy s hd).use (rest:=[]) (by simpa using hs) ?_;clear hs;rintro r post σ ⟨rfl,rfl⟩ hs
    conv=>whnf
    repeat'((first|apply st|(apply Y;clear Z B Y A)|(apply U;clear U K)|fail)<;>conv=>whnf)
    exact A5 hs (by simp) (.refl _) fun σ' hs'=>⟨rfl,hs'⟩
   have hres:=WE stp f s;have h2:=h1 f s;rw[D3]at hs9
   have hokS:(stp f s).1=false→RZ (P0 stp) (fun y s=>y∈f.kids∧sM AF y s) f.kids (stp f s).2:=fun _=>by
    have:=Ug h1 f.kids (stp f s).2 hkc (by omega) (by omega);exact YK this fun y hy=>hy
   refine qn kZ ?_
   conv=>whnf
   repeat'((first|apply st|(apply sq;intro K U)|(apply si;intro A B Y Z)|(apply Y;clear Z B Y A)|(apply U;clear U K)|refine⟨kZ,?_⟩|fail)<;>conv=>whnf)
   refine hx.use ⟨hc,hs0,by rw[D3];exact hs9⟩ hs ?_;clear hs;intro σ hs;cases hr:(stp f s).1
   ·rw[hr,if_neg (by decide),UK stp f.kids 0]at hres
    conv=>whnf
    repeat'((first|apply st|fail)<;>conv=>whnf)
    refine(IS 292 [] [.rp [.f (.func g) fi ca]] H _ _ hcl f.kids false (stp f s).2 (by omega) (hokS hr)).use (rest:=[]) (by simpa using hs) ?_;clear hs;rintro r post σ ⟨rfl,rfl⟩ hs
    conv=>whnf
    repeat'((first|apply st|(apply Y;clear Z B Y A)|(apply U;clear U K)|fail)<;>conv=>whnf)
    rw[hres];exact A5 hs (by simp) (.refl _) fun σ' hs'=>⟨_,⟨rfl,rfl⟩,hs'⟩
   ·rw[hr,if_pos rfl]at hres
    conv=>whnf
    repeat'((first|apply st|(apply Y;clear Z B Y A)|(apply U;clear U K)|fail)<;>conv=>whnf)
    rw[hres];exact A5 hs (List.Sublist.refl _) (.refl _) fun σ' hs'=>⟨_,⟨by rw[hr];rfl,rfl⟩,hs'⟩
def od (xs ys:List Fact) (a b:Bool) (hxl:xs.length≤Aj) (hyl:ys.length≤Aj) (ih: ∀x∈xs,∀y,Pure Tryz.prog 227 [.a (xF x),.a (xF y)] (.b (B3 x y))) :
    Pure Tryz.prog 293 [.l (facts xs) a,.l (facts ys) b,.f (.func 227) [] []] (.b (xs.length==ys.length&&Ih (xs.map B3) ys)):=by
 have hM:=Mx;refine dG kZ ?_;have hs:=Sn;by_cases hl:xs.length=ys.length
 ·have he:(xs.length==ys.length&&Ih (xs.map B3) ys)=Ih (xs.map B3) ys:=by rw[D4.2 hl,I8]
  rw[he]
  conv=>whnf
  repeat'((first|apply st|(apply sq;intro K U)|(apply si;intro A B Y Z)|(apply Y;clear Z B Y A)|(apply U;clear U K)|refine⟨rfl,?_⟩|(constructor<;>intro hc<;>(try rw[hc])<;>(replace hc:=bp hc)<;>(try simp(disch:=omega) only[BW,wrap64,AN]at hc)<;>try(exfalso;omega))|fail)<;>conv=>whnf)
  refine CD xs.length (fun k (_:Unit)=>[(17,eI (BM k))]) (fun _ _=>[]) (fun k _=>Ih (xs.map B3) ys=Ih ((xs.drop k).map B3) (ys.drop k)) () rfl rfl hs ?_;clear hs;rintro k - σ hk hn hs;have hck:BM k=k:=AN (by omega);rcases BS xs hk with⟨x,hx,hlt⟩|hke
  ·obtain⟨y,hy⟩: ∃y,ys[k]? =some y:=⟨_,Et (by omega)⟩
   have hy2:ys[(BM k).toNat]? =some y:=by rw[hck];exact hy
   have c1:=ih x (Ck hx) y;rw[drop_cons hx,drop_cons hy,C0,Ih]at hn;cases hxy:B3 x y<;>rw[hxy]at c1 hn
   ·conv=>whnf
    repeat'((first|apply st|(apply sq;intro K U)|(apply si;intro A B Y Z)|(apply Y;clear Z B Y A)|(apply U;clear U K)|refine⟨rfl,?_⟩|refine⟨kZ,?_⟩|refine Nc ?_|refine ld ?_|refine CX fun σ hs=>?_|refine JB ?_|(refine C8 (fun hc=>?_)<;>(try rw[hc])<;>clear hc)|refine Bs (c1.use ?_)|(intro nn hnn;generalize hg:Az _ nn _=σ;refine CN hg fun hs=>?_;clear hg)|clear U K)<;>conv=>whnf)
    all_goals exact AI (by rw[hn];rfl)
   ·conv=>whnf
    repeat'((first|apply st|(apply sq;intro K U)|(apply si;intro A B Y Z)|(apply Y;clear Z B Y A)|(apply U;clear U K)|refine⟨rfl,?_⟩|refine⟨kZ,?_⟩|refine Nc ?_|refine ld ?_|refine CX fun σ hs=>?_|refine G3 ?_|(refine C8 (fun hc=>?_)<;>(try rw[hc])<;>clear hc)|refine Bs (c1.use ?_)|(intro nn hnn;generalize hg:Az _ nn _=σ;refine CN hg fun hs=>?_;clear hg)|clear U K)<;>conv=>whnf)
    all_goals exact⟨hlt,(),rfl,by rw[hn];rfl,hs.less (QI _)⟩
  ·rw[Al hke,Al (show k=ys.length by omega)]at hn
   conv=>whnf
   repeat'((first|apply st|(apply sq;intro K U)|(apply si;intro A B Y Z)|(apply Y;clear Z B Y A)|(apply U;clear U K)|refine⟨rfl,?_⟩|(refine Es (fun hc=>?_)<;>(try rw[hc])<;>clear hc)|clear U K)<;>conv=>whnf)
   all_goals exact AI (by rw[hn];rfl)
 ·have he:(xs.length==ys.length&&Ih (xs.map B3) ys)=false:=by rw[beq_eq_false_iff_ne.2 hl,Bool.false_and]
  rw[he]
  conv=>whnf
  repeat'((first|apply st|(apply sq;intro K U)|(apply si;intro A B Y Z)|(apply Y;clear Z B Y A)|(apply U;clear U K)|refine⟨rfl,?_⟩|(constructor<;>intro hc<;>(try rw[hc])<;>(replace hc:=bp hc)<;>(try simp(disch:=omega) only[BW,wrap64,AN]at hc)<;>try(exfalso;omega))|clear U K)<;>conv=>whnf)
  all_goals try(exfalso;omega)
  all_goals exact AI rfl
set_option maxHeartbeats 2000000 in
def tC (f g:Fact):Pure Tryz.prog 227 [.a (xF f),.a (xF g)] (.b (B3 f g)):=by
 induction f using Fact.ind generalizing g with
 | h f ih=>
   refine Pure.fit (by kernel_rfl) fun hf=>?_
   have⟨h2,h3,h4⟩:=HG hf.1;have⟨g2,g3,g4⟩:=HG hf.2.1;have c2:=fun a b=>od f.kids g.kids a b h2 g2 fun x hx y=>ih x hx y
   rw[Ix];refine dN kZ ?_;have hs:=Sn
   conv=>whnf
   repeat'((first|apply st|(apply sq;intro K U)|(apply si;intro A B Y Z)|(apply Y;clear Z B Y A)|(apply U;clear U K)|refine⟨rfl,?_⟩|refine Pure.use (X2 _ _ _ _) ?_|refine Pure.use (c2 _ _) ?_|(constructor<;>intro hc<;>(try rw[hc])<;>(replace hc:=bp hc))|fail)<;>conv=>whnf)
   all_goals exact AI (by simp[*])
def HH (x:Fact):List Fact:=(if x.op=1 then []else if B3 x Da then [CK]else [CK,Da])++x.kids
def Lo (w:AM) (f x:Fact) (s:SN):Bool×SN:=match((HH x).map fun y=>Ka y f (s.1+1)).find? (Rr w f)with|some g=>(true,(s.1+1,g))|none=>(false,(s.1+1,s.2))
def m7 (w:AM) (f x:Fact) (s:SN):(Lo w f x s).2.1=s.1+1:=by
 rw[Lo];split<;>rfl
def uP (w:AM) (f x:Fact):Prop:=x.kids.length≤2∧ ∀y∈HH x,arity y=true∧ ∀n,A9 w (Ka y f n)=true∧lv (Ka y f n)≤40
abbrev zS (n1 n2 n3 n6:Nat) (s:SN):List At:=[.box n1 [eI s.1],.box n2 (xF CK),.box n3 (xF Da),.box n6 (xF s.2)]
set_option maxHeartbeats 8000000 in
def gy (w : AM) (hw:FO w) (f:Fact) (hnf:A9 w f=true) (hlf:lv f≤12) (har:arity f=true) (hcf:B0 f≤100) (n1 n2 n3 n6:Nat) :
    Cy Tryz.prog (.f (.func 226) [] [.p n1 0,.p n2 0,.p n3 0,.rp (xF f),.rp [.rp (wC w (D5 w.parents))],.p n6 0]) (fun y=> .a (xF y)) (zS n1 n2 n3 n6) (Lo w f) (sM (uP w f)):=by
 rintro x ⟨n,o⟩ ⟨⟨hk2,hal⟩,hn0,hn9⟩ σ hs;dsimp only at hn0 hn9;have hcx:1≤B0 x:=by rw[D3];omega
 have hM:=Mx;refine Bs ?_;show A8 Tryz.prog 226 ([]++[.a (xF x)]++_) σ _;have c5:=tC x Da;have hwn:IntKind.i64.wrap (n+1)=n+1:=wrap64 (by omega) (by omega);refine qm kZ ?_;replace hs:Sat σ [.box n1 [eI n],.box n2 (xF CK),.box n3 (xF Da),.box n6 (xF o),.own (.l [] true) 6 (facts [])]:=Ed hs 6
 have hcl:(HH x).length≤4:=by
  rw[HH,KY]
  have:(if x.op=1 then []else if B3 x Da then [CK]else [CK,Da]:List Fact).length≤2:=by
   split
   ·simp
   ·split<;>simp
  omega
 have hst: ∀g,((HH x).map fun y=>Ka y f (n+1)).find? (Rr w f)=g→Lo w f x (n,o)=match g with|some g=>(true,(n+1,g))|none=>(false,(n+1,o)):=fun g e=>by rw[Lo,e]
 by_cases hx1:x.op=1<;>cases hx2:B3 x Da<;>rw[hx2]at c5
 all_goals
  conv=>whnf
  repeat'((first|apply st|(apply sq;intro K U)|(apply si;intro A B Y Z)|(apply Y;clear Z B Y A)|(apply U;clear U K)|refine⟨rfl,?_⟩|refine⟨kZ,?_⟩|refine ld ?_|refine IA fun σ hs=>?_|refine kr fun v σ hs hsl=>?_|refine JB ?_|refine G3 ?_|(refine GS hs 4 (ys:=x.kids) (enc:=Ef) rfl ⟨by simp only[KY,KX,List.length_nil]<;>omega,by simp only[KY,KX,List.length_nil]<;>omega⟩ F5 fun v σ hs=>?_)|refine c5.use ?_|(constructor<;>intro hc<;>(try rw[hc])<;>(replace hc:=bp hc)<;>try(exfalso;omega))|fail)<;>conv=>whnf)
  rw[hwn]at hs
  replace hs:Sat σ [.box n1 [eI (n+1)],.box n2 (xF CK),.box n3 (xF Da),.box n6 (xF o),.own v 6 (facts (HH x))]:=by
   first|rw[HH,if_pos hx1]|rw[HH,if_neg hx1,hx2]
   exact hs
  clear c5 hx1 hx2;generalize HH x=L at *
  conv=>whnf
  repeat'((first|apply st|(apply Y;clear Z B Y A)|(apply U;clear U K)|refine lo ?_|fail)<;>conv=>whnf)
  refine CD L.length (fun j (_:Unit)=>[(36,eI (BM j))]) (fun _ _=>[.box n1 [eI (n+1)],.box n2 (xF CK),.box n3 (xF Da),.box n6 (xF o),.own v 6 (facts L)]) (fun j _=>(L.map fun y=>Ka y f (n+1)).find? (Rr w f)=((L.drop j).map fun y=>Ka y f (n+1)).find? (Rr w f)) () rfl rfl hs ?_;clear hs;rintro j - σ hj hn hs;have hcj:BM j=j:=AN (by omega);rcases BS L hj with⟨y,hy,hjl⟩|hje
  ·rw [drop_cons hy,C0,List.find?_cons]at hn
   obtain⟨hya,hgn⟩:=hal y (Ck hy);obtain⟨hg1,hg2⟩:=hgn (n+1);have c6:=vB y f har (by omega) (n+1) (by omega) (by omega);have hyj:L[(BM j).toNat]? =some y:=by rw[hcj];exact hy
   generalize Ka y f (n+1)=g at *;have c7:=Pd w hw f g hnf hg1 (by omega);have c8:=Pd w hw g f hg1 hnf (by omega);rw[Rr]at hn;cases hi1:Tj w f g<;>rw[hi1]at c7 hn
   ·conv=>whnf
    repeat'((first|apply st|(apply sq;intro K U)|(apply si;intro A B Y Z)|(apply Y;clear Z B Y A)|(apply U;clear U K)|refine⟨rfl,?_⟩|refine⟨kZ,?_⟩|refine ld ?_|refine CX fun σ hs=>?_|refine oi ?_|refine P3 ?_|(refine C8 (fun hc=>?_)<;>(try rw[hc])<;>clear hc)|refine c6.use ?_|refine c7.use ?_|(intro nn hnn;generalize hg:Az _ nn _=σ;refine CN hg fun hs=>?_;clear hg)|clear U K)<;>conv=>whnf)
    all_goals exact⟨hjl,(),rfl,hn,hs.less ((IV _ _).trans (IV _ _))⟩
   ·cases hi2:Tj w g f<;>rw[hi2]at c8 hn
    ·conv=>whnf
     repeat'((first|apply st|(apply sq;intro K U)|(apply si;intro A B Y Z)|(apply Y;clear Z B Y A)|(apply U;clear U K)|refine⟨rfl,?_⟩|refine⟨kZ,?_⟩|refine ld ?_|refine CX fun σ hs=>?_|refine oi ?_|refine P3 ?_|refine G3 ?_|(refine C8 (fun hc=>?_)<;>(try rw[hc])<;>clear hc)|refine c6.use ?_|refine c7.use ?_|refine c8.use ?_|(intro nn hnn;generalize hg:Az _ nn _=σ;refine CN hg fun hs=>?_;clear hg)|clear U K)<;>conv=>whnf)
     all_goals exact⟨hjl,(),rfl,hn,hs.less ((IV _ _).trans (IV _ _))⟩
    ·conv=>whnf
     repeat'((first|apply st|(apply sq;intro K U)|(apply si;intro A B Y Z)|(apply Y;clear Z B Y A)|(apply U;clear U K)|refine⟨rfl,?_⟩|refine⟨kZ,?_⟩|refine ld ?_|refine CX fun σ hs=>?_|refine oi ?_|refine P3 ?_|refine JB ?_|(refine C8 (fun hc=>?_)<;>(try rw[hc])<;>clear hc)|refine c6.use ?_|refine c7.use ?_|refine c8.use ?_|(intro nn hnn;generalize hg:Az _ nn _=σ;refine CN hg fun hs=>?_;clear hg)|clear U K)<;>conv=>whnf)
     rw[hst _ hn];exact A5 hs (.cons _ (.cons _ (.cons₂ _ (.cons₂ _ (.cons₂ _ (.cons₂ _ (.cons _ .slnil))))))) (.refl _) fun σ' hs'=>⟨rfl,hs'⟩
  ·rw[hje,List.drop_of_length_le (He _),List.map_nil,List.find?_nil]at hn
   conv=>whnf
   repeat'((first|apply st|(apply sq;intro K U)|(apply si;intro A B Y Z)|(apply Y;clear Z B Y A)|(apply U;clear U K)|refine⟨rfl,?_⟩|(refine Es (fun hc=>?_)<;>(try rw[hc])<;>clear hc)|clear U K)<;>conv=>whnf)
   rw[hst _ hn];exact A5 hs (.cons₂ _ (.cons₂ _ (.cons₂ _ (.cons₂ _ (.cons _ .slnil))))) (.refl _) fun σ' hs'=>⟨rfl,hs'⟩
def CS (w:AM):Nat→Fact→Fact
 | 0,f=>f
 | n+1,f=>match C9 w f with|some g=>CS w n g|none=>f
def iC (w:AM) (hw:gF w) (AF:Fact→Prop) (hC: ∀f,AF f→WH w f∧ ∀g,C9 w f=some g→AF g) (f:Fact) (hf:AF f):Pure Tryz.prog 94 [.a (BI w),.a (xF f)] (.a (xF (CS w 200 f))):=by
 have hM:=Mx;obtain⟨R,G⟩: ∃R,R=CS w 200 f:=⟨_,rfl⟩
 rw[←G];refine tf kZ ?_;have hs:=Sn
 conv=>whnf
 repeat'((first|apply st|(apply sq;intro K U)|(apply si;intro A B Y Z)|(apply Y;clear Z B Y A)|(apply U;clear U K)|(intro nn hnn;generalize hg:Az _ nn _=σ;refine CN hg fun hs=>?_;clear hg)|fail)<;>conv=>whnf)
 rename_i n3 _ _ _;refine CD 200 (fun k (_:Fact)=>[(5,eI (BM k))]) (fun _ g=>[.box nn [.i .i64 0,.i .i64 0,.l [] true,.i .i64 0,.i .i64 0,.l [] true],.box n3 (xF g)]) (fun k g=>AF g∧R=CS w (200 - k) g) f rfl ⟨hf,G⟩ hs ?_;clear hs G;rintro k g σ hk ⟨hg,hn⟩ hs;have hck:BM k=k:=AN (by omega);by_cases hlt:k<200
 ·obtain⟨hok,hnx⟩:=hC g hg
  have c1:=gz w hw g hok;rw[show 200 - k=(200 - (k+1))+1 by omega,CS]at hn;cases hst:C9 w g with
  | none=>
    rw[hst]at c1 hn;dsimp only[Option.getD,Option.isSome]at c1 hn
    conv=>whnf
    repeat'((first|apply st|(apply sq;intro K U)|(apply si;intro A B Y Z)|(apply Y;clear Z B Y A)|(apply U;clear U K)|refine⟨rfl,?_⟩|refine⟨kZ,?_⟩|refine ld ?_|refine CX fun σ hs=>?_|refine JB ?_|refine c1.use ?_|(constructor<;>intro hc<;>(try rw[hc])<;>(replace hc:=bp hc)<;>(try simp(disch:=omega) only[BW,wrap64,AN]at hc)<;>try(exfalso;omega))|(intro nn hnn;generalize hg:Az _ nn _=σ;refine CN hg fun hs=>?_;clear hg)|clear U K)<;>conv=>whnf)
    all_goals try(exfalso;omega)
    all_goals exact AI (by rw[hn];rfl)
  | some g2=>
    rw[hst]at c1 hn;dsimp only[Option.getD,Option.isSome]at c1 hn
    conv=>whnf
    repeat'((first|apply st|(apply sq;intro K U)|(apply si;intro A B Y Z)|(apply Y;clear Z B Y A)|(apply U;clear U K)|refine⟨rfl,?_⟩|refine⟨kZ,?_⟩|refine ld ?_|refine CX fun σ hs=>?_|refine G3 ?_|refine c1.use ?_|(constructor<;>intro hc<;>(try rw[hc])<;>(replace hc:=bp hc)<;>(try simp(disch:=omega) only[BW,wrap64,AN]at hc)<;>try(exfalso;omega))|(intro nn hnn;generalize hg:Az _ nn _=σ;refine CN hg fun hs=>?_;clear hg)|clear U K)<;>conv=>whnf)
    all_goals try(exfalso;omega)
    all_goals exact⟨hlt,g2,rfl,⟨hnx g2 hst,hn⟩,hs.less (IV _ _)⟩
 ·rw[show 200 - k=0 by omega,CS]at hn
  conv=>whnf
  repeat'((first|apply st|(apply sq;intro K U)|(apply si;intro A B Y Z)|(apply Y;clear Z B Y A)|(apply U;clear U K)|refine⟨rfl,?_⟩|refine⟨kZ,?_⟩|refine ld ?_|refine CX fun σ hs=>?_|(constructor<;>intro hc<;>(try rw[hc])<;>(replace hc:=bp hc)<;>(try simp(disch:=omega) only[BW,wrap64,AN]at hc)<;>try(exfalso;omega))|clear U K)<;>conv=>whnf)
  all_goals try(exfalso;omega)
  all_goals exact AI (by rw[hn];rfl)
attribute [local irreducible] Fz
def Kj (w:AM) (f:Fact):Bool×SN:=P0 (Lo w f) f (-1,f)
def vD (f:Fact):Pure Tryz.prog 224 [.a (xF f)] (.a (xF (ED f))):=by
 refine dO kZ ?_;have hs:=Sn
 conv=>whnf
 repeat'((first|apply st|(apply sq;intro K U)|(apply si;intro A B Y Z)|(apply Y;clear Z B Y A)|(apply U;clear U K)|refine⟨kZ,?_⟩|refine ld ?_|refine CX fun σ hs=>?_|(intro nn hnn;generalize hg:Az _ nn _=σ;refine CN hg fun hs=>?_;clear hg)|fail)<;>conv=>whnf)
 refine An (.a (.cons (.refl _) (.cons (.refl _) (.cons CQ (.cons (.refl _) (.cons (.refl _) (.cons ?_ .nil)))))));refine .l (fun h=>by cases h) ?_;simp only[ED,Fact.kids,List.map,BC];exact CA _
def hX (w:AM) (hw:FO w) (f:Fact) (hnf:A9 w f=true) (hlf:lv f≤12) (har:arity f=true) (hcf:B0 f≤100) (D:Fact→Prop) (hDf:D f) (hD: ∀y,D y→uP w f y∧ ∀k∈y.kids,D k) :
    Pure Tryz.prog 152 [.rp (wC w (D5 w.parents)),.a (xF f)] (.t [.a (xF (Kj w f).2.2),.b (Kj w f).1]):=by
 have c1:Pure Tryz.prog 224 [.a [.i .i64 1,.i .i64 0,.l [] true,.i .i64 0,.i .i64 0,.l [] true]] (.a (xF Da)):=Pure.arg (vD CK) (.cons (.a (.cons (.refl _) (.cons (.refl _) (.cons CQ (.cons (.refl _) (.cons (.refl _) (.cons CQ .nil))))))) .nil);refine rR kZ ?_;have hs:=Sn
 conv=>whnf
 repeat'((first|(refine gM ?_;intro K U)|(apply si;intro A B Y Z)|(apply Y;clear Z B Y A)|(apply U;clear U K)|(intro nn hnn;generalize hg:Az _ nn _=σ;refine CN hg fun hs=>?_;clear hg)|fail)<;>conv=>whnf)
 clear hnn;generalize nn=n4 at *;refine mK ?_
 conv=>whnf
 repeat'((first|(refine gM ?_;intro K U)|(apply si;intro A B Y Z)|(apply Y;clear Z B Y A)|(apply U;clear U K)|refine CX fun σ hs=>?_|refine c1.use ?_|(intro nn hnn;generalize hg:Az _ nn _=σ;refine CN hg fun hs=>?_;clear hg)|fail)<;>conv=>whnf)
 replace hs:=Ed hs 6;refine tZ hs 3 1 rfl rfl (vs2:=xF CK) (fun σ2 h=> .cons (.refl _) (.cons (.refl _) (.cons h (.cons (.refl _) (.cons (.refl _) (.cons h .nil)))))) (fun σ2 h=> .cons (.refl _) (.cons (.refl _) (.cons (.refl _) (.cons (.refl _) (.cons (.refl _) .nil))))) fun σ hs=>?_
 clear hnn;generalize nn=n7 at *
 conv=>whnf
 repeat'((first|apply st|(refine gM ?_;intro K U)|(apply si;intro A B Y Z)|(apply Y;clear Z B Y A)|(apply U;clear U K)|refine⟨kZ,?_⟩|refine IA fun σ hs=>?_|refine CX fun σ hs=>?_|(intro nn hnn;generalize hg:Az _ nn _=σ;refine CN hg fun hs=>?_;clear hg)|fail)<;>conv=>whnf)
 replace hs:Sat σ [.box nn [eI (-1)],.box _ (xF f),.box n7 (xF Da),.box _ (xF CK),.box n4 [.i .i64 0,.i .i64 0,.l [] true,.i .i64 0,.i .i64 0,.l [] true]]:=hs;replace hs:=Sat.front (j:=3) (Sat.front (j:=3) (Sat.front (j:=2) (Sat.front (j:=1) hs rfl) rfl) rfl) rfl;refine mK ?_
 conv=>whnf
 repeat'((first|apply st|(refine gM ?_;intro K U)|(apply si;intro A B Y Z)|refine⟨kZ,?_⟩|fail)<;>conv=>whnf)
 refine(fM (AF:=D) (m7 w f) (fun y hy=>⟨(hD y hy).1.1,(hD y hy).2⟩) (fun y s hd=>gy w hw f hnf hlf har hcf _ _ _ _ y s ⟨(hD y hd.1).1,hd.2⟩) f (-1,f) ⟨hDf,by dsimp only;omega,by dsimp only;omega⟩).use (rest:=[_]) hs ?_;clear hs;rintro r post σ ⟨rfl,rfl⟩ hs;have hsp:Kj w f=P0 (Lo w f) f (-1,f):=rfl;generalize P0 (Lo w f) f (-1,f)=q at *;obtain⟨b,i,g⟩:=q;replace hs:Sat σ [.box _ [eI i],.box _ (xF CK),.box n7 (xF Da),.box _ (xF g),.box n4 [.i .i64 0,.i .i64 0,.l [] true,.i .i64 0,.i .i64 0,.l [] true]]:=hs
 conv=>whnf
 repeat'((first|apply st|(apply sq;intro K U)|(apply si;intro A B Y Z)|(apply Y;clear Z B Y A)|(apply U;clear U K)|refine⟨kZ,?_⟩|refine ld ?_|refine CX fun σ hs=>?_|refine mK ?_|fail)<;>conv=>whnf)
 all_goals exact AI (by rw[hsp];rfl)
end Go.Gl
namespace Go.Gl
open Go.Proofs
attribute [local irreducible] A8 Ap Ag AT AL Ae AS AU AK Ad AO AP Aw A2 Sat AX A0 Ai W
structure gY (w:AM) (AF:Fact→Prop) (M:Fact→Nat):Prop where
 node: ∀f,AF f→A9 w f=true∧lv f≤12∧arity f=true∧B0 f≤100∧ ∃D:Fact→Prop,D f∧ ∀y,D y→uP w f y∧ ∀k∈y.kids,D k
 step: ∀f,AF f→Kj w f=((C9 w f).isSome,(Kj w f).2.1,(C9 w f).getD f)
 next: ∀f g,AF f→C9 w f=some g→AF g∧M g<M f
def VL {w:AM} {f g:Fact} (h:C9 w f=some g) (n:Nat):CS w (n+1) f=CS w n g:=by rw[CS,h]
def sd {w:AM} {AF:Fact→Prop} {M:Fact→Nat} (hS:gY w AF M): ∀(m:Nat) (f:Fact),AF f→M f≤m→ ∀n n',M f<n→M f<n'→CS w n f=CS w n' f:=fun m=>by
 induction m with
 | zero=>
   intro f hf hm n n' h1 h2;obtain⟨a,rfl⟩: ∃a,n=a+1:=⟨n - 1,by omega⟩
   obtain⟨b,rfl⟩: ∃b,n'=b+1:=⟨n' - 1,by omega⟩
   rw[CS,CS];cases hst:C9 w f with
   | none=>rfl
   | some g=>have:=(hS.next f g hf hst).2;omega
 | succ m ih=>
   intro f hf hm n n' h1 h2;obtain⟨a,rfl⟩: ∃a,n=a+1:=⟨n - 1,by omega⟩
   obtain⟨b,rfl⟩: ∃b,n'=b+1:=⟨n' - 1,by omega⟩
   rw[CS,CS];cases hst:C9 w f with
   | none=>rfl
   | some g=>
     have:=hS.next f g hf hst
     exact ih g this.1 (by omega) a b (by omega) (by omega)
def kC (f:Fact):arity f=true→Pure Tryz.prog 153 [.a (xF f)] (.a (xF f)):=by
 induction f using Fact.ind with
 | h f ih=>
   intro har;rw[EA,BU,D4,GP]at har;have hk2:=OT f;have hM:=Mx;have c1:=O2 f.path false;refine rQ kZ ?_;have hs:=Sn
   conv=>whnf
   repeat'((first|apply st|(apply sq;intro K U)|(apply si;intro A B Y Z)|(apply Y;clear Z B Y A)|(apply U;clear U K)|refine ld ?_|refine IA fun σ hs=>?_|refine c1.use ?_|(intro nn hnn;generalize hg:Az _ nn _=σ;refine CN hg fun hs=>?_;clear hg)|fail)<;>conv=>whnf)
   rename_i n1 _ _ _ _ _ _ _;refine CD f.kids.length (fun k (_:V)=>[(15,eI (BM k))]) (fun k v=>[.box nn [.i .i64 0,.i .i64 0,.l [] true,.i .i64 0,.i .i64 0,.l [] true],.box n1 [eI f.op,eI f.arg,.l (iL f.path) false,eI f.cls,eI f.n,v],.own v 6 (facts (f.kids.take k))]) (fun _ _=>True) (.l [] true) rfl trivial (Ed hs 6) ?_;clear hs;rintro k v σ hk - hs;rcases BS f.kids hk with⟨x,hx,hlt⟩|hke
   ·have hck:BM k=k:=AN (by omega)
    have hst:=AR hx;have c2:=ih x (Ck hx) (har.2 x (Ck hx));have hzl:(f.kids.take k).length≤2:=by rw[Mo];omega
    generalize f.kids.take k=zs at *;have hll:zs.length<Aj∧(zs.length+1)*80≤140737488355328:=by omega
    conv=>whnf
    repeat'((first|apply st|(apply sq;intro K U)|(apply si;intro A B Y Z)|(apply Y;clear Z B Y A)|(apply U;clear U K)|apply dr|refine rk ?_ ?_|exact fun s e=>by cases e;rfl|refine⟨rfl,?_⟩|refine⟨kZ,?_⟩|refine Nc ?_|refine ld ?_|refine IA fun σ hs=>?_|refine CX fun σ hs=>?_|refine kr fun v σ hs hsl=>?_|(refine C8 (fun hc=>?_)<;>(try rw[hc])<;>clear hc)|refine c2.use ?_|(intro nn hnn;generalize hg:Az _ nn _=σ;refine CN hg fun hs=>?_;clear hg)|clear U K)<;>conv=>whnf)
    exact⟨hlt,_,rfl,trivial,by rw[hst];exact hs.less (IV _ _)⟩
   ·rw[Av hke]at hs
    conv=>whnf
    repeat'((first|apply st|(apply sq;intro K U)|(apply si;intro A B Y Z)|(apply Y;clear Z B Y A)|(apply U;clear U K)|refine⟨rfl,?_⟩|refine⟨kZ,?_⟩|refine ld ?_|(refine Es (fun hc=>?_)<;>(try rw[hc])<;>clear hc)|clear U K)<;>conv=>whnf)
    have o1:=Ft hs 2 rfl;refine F4 hs 0 rfl rfl rfl (by simp[o1]) (by decide) fun σ hs=>?_
    clear o1
    conv=>whnf
    repeat'((first|apply st|(apply Y;clear Z B Y A)|(apply U;clear U K)|refine⟨kZ,?_⟩|refine ld ?_|fail)<;>conv=>whnf)
    exact An (.a (.cons (.refl _) (.cons (.refl _) (.cons (.refl _) (.cons (.refl _) (.cons (.refl _) (.cons (hs.G7 2 rfl) .nil)))))))
def iD (w:AM) (hw:FO w) {AF:Fact→Prop} {M:Fact→Nat} (hS:gY w AF M) (f:Fact) (hf:AF f) (hfm:Kp w f=true) (hM2:M f<200):Pure Tryz.prog 93 [.a (BI w),.a (xF f)] (.t [.a (xF (CS w 200 f)),eI 0]):=by
 have c1:Pure Tryz.prog 118 [.a (BI w),.l [xF f] true] (.t [.rp (wC w (D5 w.parents)),.b true]):=by
  have:=X7 w hw [f] true (by simp);simp only[facts,C0,List.map_nil,BC,NN,List.all_nil,Bool.and_true,hfm]at this;exact this
 have c2: ∀g,AF g→Pure Tryz.prog 152 [.rp (wC w (D5 w.parents)),.a (xF g)] (.t [.a (xF ((C9 w g).getD g)),.b (C9 w g).isSome]):=fun g hg=>by
  obtain⟨h1,h2,h3,h4,D,h5,h6⟩:=hS.node g hg;have:=hX w hw g h1 h2 h3 h4 D h5 h6;rw[hS.step g hg]at this;exact this
 obtain⟨Rv,G⟩: ∃Rv,Rv=CS w 200 f:=⟨_,rfl⟩
 rw[←G];replace G: ∀n,M f<n→CS w n f=Rv:=fun n hn=>by rw[G];exact sd hS _ f hf (He _) _ _ hn hM2
 have hgo: ∀x g,AF x→(∀n,M x<n→CS w n x=Rv)→C9 w x=some g→AF g∧M g<M x∧ ∀n,M g<n→CS w n g=Rv:=fun x g hx h hst=>by
  obtain⟨h1,h2⟩:=hS.next x g hx hst
  refine⟨h1,h2,fun n hn=>?_⟩;rw[sd hS _ g h1 (He _) n (M x+1) hn (by omega),←h (M x+2) (by omega),VL hst]
 have hnone: ∀x,(∀n,M x<n→CS w n x=Rv)→C9 w x=none→x=Rv:=fun x h hst=>by
  rw[←h (M x+1) (by omega),CS,hst]
 refine tg kZ ?_;have hs:=Sn
 conv=>whnf
 repeat'((first|apply st|(apply sq;intro K U)|(apply si;intro A B Y Z)|(apply Y;clear Z B Y A)|(apply U;clear U K)|refine⟨kZ,?_⟩|refine ld ?_|refine G3 ?_|refine c1.use ?_|(intro nn hnn;generalize hg:Az _ nn _=σ;refine CN hg fun hs=>?_;clear hg)|fail)<;>conv=>whnf)
 refine Pure.use (c2 f hf) ?_;rename_i n3 _ _ _
 conv=>whnf
 repeat'((first|apply st|(apply sq;intro K U)|(apply Y;clear Z B Y A)|(apply U;clear U K)|refine CX fun σ hs=>?_|fail)<;>conv=>whnf)
 refine It (fun x:Fact×Bool=>if x.2 then M x.1+1 else 0) (fun x=>[(8,.b x.2)]) (fun x=>[.box nn [.i .i64 0,.i .i64 0,.l [] true,.i .i64 0,.i .i64 0,.l [] true],.box n3 (xF x.1)]) (fun x=>AF x.1∧(∀n,M x.1<n→CS w n x.1=Rv)∧(x.2=false→C9 w x.1=none)) ((C9 w f).getD f,(C9 w f).isSome) rfl ?_ hs ?_
 ·cases hst:C9 w f with
  | none=>exact⟨hf,G,fun _=>hst⟩
  | some g=>
    obtain⟨h1,h2,h3⟩:=hgo f g hf G hst;exact⟨h1,h3,fun h=>by cases h⟩
 clear hs;rintro⟨x,b⟩ σ ⟨hx,hxn,hxf⟩ hs;dsimp only at hx hxn hxf hs;dsimp only;cases b
 ·have hxR:=hnone x hxn (hxf rfl)
  have c3:=kC x (hS.node x hx).2.2.1
  conv=>whnf
  repeat'((first|apply st|(apply sq;intro K U)|(apply si;intro A B Y Z)|(apply Y;clear Z B Y A)|(apply U;clear U K)|refine⟨kZ,?_⟩|refine ld ?_|refine CX fun σ hs=>?_|refine c3.use ?_|clear U K)<;>conv=>whnf)
  all_goals exact AI (by rw[←hxR];rfl)
 ·have c3:=c2 x hx
  cases hst:C9 w x with
  | none=>
    rw[hst]at c3;dsimp only[Option.getD,Option.isSome]at c3
    conv=>whnf
    repeat'((first|apply st|(apply sq;intro K U)|(apply si;intro A B Y Z)|(apply Y;clear Z B Y A)|(apply U;clear U K)|refine⟨kZ,?_⟩|refine ld ?_|refine CX fun σ hs=>?_|refine c3.use ?_|clear U K)<;>conv=>whnf)
    all_goals exact⟨(x,false),by simp,rfl,⟨hx,hxn,fun _=>hst⟩,hs⟩
  | some g=>
    rw[hst]at c3;dsimp only[Option.getD,Option.isSome]at c3;obtain⟨h1,h2,h3⟩:=hgo x g hx hxn hst
    conv=>whnf
    repeat'((first|apply st|(apply sq;intro K U)|(apply si;intro A B Y Z)|(apply Y;clear Z B Y A)|(apply U;clear U K)|refine⟨kZ,?_⟩|refine ld ?_|refine CX fun σ hs=>?_|refine c3.use ?_|clear U K)<;>conv=>whnf)
    all_goals exact⟨(g,true),by simp;omega,rfl,⟨h1,h3,fun h=>by cases h⟩,hs⟩
attribute [local irreducible] Fz
def Dy (p:Prog) (l:List Int):List Fact:=(l.filter fun m=>(De p m).kind==1).map fun m=>(De p m).fact
def ES (p:Prog) (gen:Int):Fact:=if(Dy p (Jr p gen)).isEmpty then .mk 1 0 [] 0 0 []else ED (bD 7 (Dy p (Jr p gen)))
def PM (p:Prog) (l:List Int) (x:Int):Dy p (l++[x])=if(De p x).kind==1 then Dy p l++[(De p x).fact]else Dy p l:=by
 rw[Dy,List.filter_append];cases h:(De p x).kind==1<;>simp[Dy,h]
def JP (p:Prog) (l:List Int):(Dy p l).length≤l.length:=by
 rw[Dy,BW];exact QJ _ _
def Pr (p:Prog) (gen:Int) (h16:p.methods.length≤16):Pure Tryz.prog 30 [.a (Ba p),eI gen] (.a (xF (ES p gen))):=by
 refine Pure.fit (by kernel_rfl) fun hf=>?_
 have F:=IJ hf.1;have⟨p1,p2,p3,p4⟩:=Fx hf.1;have hM:=Mx;have c1:=VF p gen h16;have hml:=Nt p gen p.methods.length;rw[←Jr]at hml;have hmm:=cz (p:=p) (gen:=gen);rw[ES];generalize Jr p gen=ms at *;refine tx kZ ?_;have hs:=Sn
 conv=>whnf
 repeat'((first|apply st|(apply sq;intro K U)|(apply si;intro A B Y Z)|(apply Y;clear Z B Y A)|(apply U;clear U K)|refine⟨kZ,?_⟩|refine c1.use ?_|(intro nn hnn;generalize hg:Az _ nn _=σ;refine CN hg fun hs=>?_;clear hg)|fail)<;>conv=>whnf)
 refine CD ms.length (fun k v=>[(5,v),(12,eI (BM k))]) (fun k v=>[.box nn [.i .i64 0,.i .i64 0,.l [] true,.i .i64 0,.i .i64 0,.l [] true],.own v 6 (facts (Dy p (ms.take k)))]) (fun _ _=>True) (.l [] true) rfl trivial (Ed hs 6) ?_;clear hs;rintro k v σ hk - hs;rcases BS ms hk with⟨x,hx,hlt⟩|hke
 ·have hck:BM k=k:=AN (by omega)
  have hst:=PM p (ms.take k) x;rw[←AR hx]at hst;have hmx:=hmm x (Ck hx);have hxP:=Oo hmx;have hxr:=hmx;simp only[Jg,BU,DZ]at hxr;have hzl:(Dy p (ms.take k)).length≤16:=Nat.le_trans (JP _ _) (by rw[Mo];omega);generalize Dy p (ms.take k)=zs at *;have hll:zs.length<Aj∧(zs.length+1)*80≤140737488355328:=by omega
  generalize De p x=mx at *;by_cases hkd:mx.kind=1
  ·rw[if_pos (D4.2 hkd)]at hst
   conv=>whnf
   repeat'((first|apply st|(apply sq;intro K U)|(apply si;intro A B Y Z)|(apply Y;clear Z B Y A)|(apply U;clear U K)|refine⟨rfl,?_⟩|refine⟨kZ,?_⟩|refine ix ?_|refine TX ?_|refine kr fun v σ hs hsl=>?_|(refine C8 (fun hc=>?_)<;>(try rw[hc])<;>clear hc)|(constructor<;>intro hc<;>(try rw[hc])<;>(replace hc:=bp hc)<;>try(exfalso;omega))|clear U K)<;>conv=>whnf)
   all_goals try(exfalso;simp[hkd]at hc;done)
   all_goals exact⟨hlt,_,rfl,trivial,by rw[hst];exact hs⟩
  ·rw[if_neg (by simpa using hkd)]at hst
   conv=>whnf
   repeat'((first|apply st|(apply sq;intro K U)|(apply si;intro A B Y Z)|(apply Y;clear Z B Y A)|(apply U;clear U K)|refine⟨rfl,?_⟩|refine ix ?_|refine TX ?_|(refine C8 (fun hc=>?_)<;>(try rw[hc])<;>clear hc)|(constructor<;>intro hc<;>(try rw[hc])<;>(replace hc:=bp hc)<;>try(exfalso;omega))|clear U K)<;>conv=>whnf)
   all_goals try(exfalso;simp[hkd]at hc;done)
   all_goals exact⟨hlt,_,rfl,trivial,by rw[hst];exact hs⟩
 ·rw[Av hke]at hs
  have hpl:(Dy p ms).length≤16:=Nat.le_trans (JP _ _) (by omega);generalize Dy p ms=ls at *;have c3:=lO 7 ls
  conv=>whnf
  repeat'((first|(refine gM ?_;intro K U)|(apply si;intro A B Y Z)|(apply Y;clear Z B Y A)|(apply U;clear U K)|refine⟨rfl,?_⟩|fail)<;>conv=>whnf)
  refine mK ?_
  conv=>whnf
  repeat'((first|apply st|(refine gM ?_;intro K U)|(apply si;intro A B Y Z)|(apply Y;clear Z B Y A)|(apply U;clear U K)|refine⟨rfl,?_⟩|refine lo ?_|(refine Es (fun hc=>?_)<;>(try rw[hc])<;>clear hc)|clear U K)<;>conv=>whnf)
  refine lS hs 1 rfl (fun σ2 h=> .cons (.refl _) (.cons h (.cons (.refl _) .nil))) fun σ hs=>?_
  cases ls with
  | nil=>
    conv=>whnf
    repeat'((first|apply st|(apply sq;intro K U)|(apply si;intro A B Y Z)|(apply Y;clear Z B Y A)|(apply U;clear U K)|refine⟨kZ,?_⟩|refine ld ?_|refine CX fun σ hs=>?_|refine SQ.use ?_|(constructor<;>intro hc<;>(try rw[hc])<;>(replace hc:=bp hc)<;>(try simp(disch:=omega) only[BW,wrap64,AN]at hc))|clear U K)<;>conv=>whnf)
    all_goals try(exfalso;simp at hc;done)
    all_goals exact AI rfl
  | cons x r=>
    have c2:=R5 (bD 7 (x::r))
    conv=>whnf
    repeat'((first|apply st|(apply sq;intro K U)|(apply si;intro A B Y Z)|(apply Y;clear Z B Y A)|(apply U;clear U K)|refine⟨kZ,?_⟩|refine ld ?_|refine CX fun σ hs=>?_|refine SQ.use ?_|(constructor<;>intro hc<;>(try rw[hc])<;>(replace hc:=bp hc)<;>(try simp(disch:=omega) only[BW,wrap64,AN]at hc))|clear U K)<;>conv=>whnf)
    all_goals try(exfalso;simp at hc;omega)
    refine mK ?_;replace c3:=fun b=>c3 (by simp) (by simp at hpl ⊢;omega) b
    conv=>whnf
    repeat'((first|apply st|(apply sq;intro K U)|(apply si;intro A B Y Z)|(apply Y;clear Z B Y A)|(apply U;clear U K)|refine⟨kZ,?_⟩|refine ld ?_|refine CX fun σ hs=>?_|refine c2.use ?_|refine Pure.use (c3 _) ?_|fail)<;>conv=>whnf)
    exact AI rfl
end Go.Gl
