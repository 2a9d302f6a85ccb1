import Derived.Test.YtijbpgdmpejgoaaGreatX11
import Derived.Test.YtijbpgdmpejgoaaGreatX12
import Derived.Test.YtijbpgdmpejgoaaGreatX13
import Derived.Test.YtijbpgdmpejgoaaGreatX17
import Derived.Test.YtijbpgdmpejgoaaGreatX18
import Derived.Test.YtijbpgdmpejgoaaGreatX19
set_option linter.all false
set_option linter.defProp false
noncomputable section
namespace Go.Gl
open Go.Proofs
attribute [local irreducible] BL A5 Aj AW AN Ai AV AX AO Ah AS AU BA BK Sat Ad BH Al W
def XS (w:AK) (hg:CS w) (hw:Ja w) (os:List Ob) (b:Bool) (args:List (Int×Int)) (g:Bool) (f:Fact) (hf:Cg w f=true) (hsp:DF f≤args.length) (hh:Jf w os args=true) :
    Pure Tryz.prog 81 [.a (Aq w),.a (xF f),.l (os.map Fa) b,.l (pP args) g] (.t [.b (CF w os args f),eI 0]):=by
 refine Pure.fit (by kernel_rfl) fun hfi=>?_
 have hM:=Mx
 have hfo: ∀b,Pure Tryz.prog 109 [.a (Aq w),.l [Fx f] b] (.t [.rp (wC w (CG w.parents)),.b true]):=fun b=>by
  have:=NH w hg [f] b (by simp);simpa[NR,hf]using this
 rw[Be]at hfo;have c2:=Qd w hg hw os b args g;rw[hh]at c2;have c3:=Xr f (XL hf);simp only[Jf,BZ,CY,E0]at hh;have hno:Bi w f=true:=by simp only[Cg,BZ]at hf;exact hf.2.2
 have c4:=bw w os b args g hg hw (We hh.1) hh.2.2.2 f hno hsp;refine gd kZ ?_;have hs:=Sn
 conv=>whnf
 repeat'((first|apply st|(apply sq;intro K U)|(apply si;intro A B Y Z)|(apply Y;clear Z B Y A)|(apply U;clear U K)|refine⟨rfl,?_⟩|refine⟨kZ,?_⟩|refine Lq ?_|refine Pure.use (hfo _) ?_|refine c2.use ?_|refine c3.use ?_|refine c4.use ?_|(constructor<;>intro hc<;>(try rw[hc])<;>(replace hc:=bp hc)<;>(try simp(disch:=omega) only[BD,wrap64,AL]at hc))|clear U K)<;>conv=>whnf)
 all_goals first
  | exact AI rfl
  | (exfalso;simp at hc;omega)
def ct (w:AK) (hg:CS w) (hw:Ja w) (os:List Ob) (b:Bool) (args:List (Int×Int)) (g:Bool) (f:Fact) (hf:Cg w f=true) (hh:Jf w os args=false) :
    Pure Tryz.prog 81 [.a (Aq w),.a (xF f),.l (os.map Fa) b,.l (pP args) g] (.t [.b false,eI 2]):=by
 refine Pure.fit (by kernel_rfl) fun hfi=>?_
 have hM:=Mx
 have hfo: ∀b,Pure Tryz.prog 109 [.a (Aq w),.l [Fx f] b] (.t [.rp (wC w (CG w.parents)),.b true]):=fun b=>by
  have:=NH w hg [f] b (by simp);simpa[NR,hf]using this
 rw[Be]at hfo;have c2:=Qd w hg hw os b args g;rw[hh]at c2;refine gd kZ ?_;have hs:=Sn
 conv=>whnf
 repeat'((first|apply st|(apply sq;intro K U)|(apply si;intro A B Y Z)|(apply Y;clear Z B Y A)|(apply U;clear U K)|refine⟨kZ,?_⟩|refine Xf ?_|refine Lq ?_|refine Pure.use (hfo _) ?_|refine c2.use ?_|clear U K)<;>conv=>whnf)
 all_goals exact AI rfl
abbrev V8:Fact:=Fact.mk 1 0 [] 0 0 []
def Od (w:AK):Cg w V8=true:=by
 rw[Cg,Hd,F7,Ci];rfl
def S7 {w:V} {o a:V}:Dq emp emp [w,.a [eI 1,eI 0,.l [] true,eI 0,eI 0,.l [] true],o,a] [w,.a (xF V8),o,a]:=
 .cons (.refl _) (.cons (.a (.cons (.refl _) (.cons (.refl _) (.cons CI (.cons (.refl _) (.cons (.refl _) (.cons CI .nil))))))) (.cons (.refl _) (.cons (.refl _) .nil)))
def fg (os:List Ob) (f:Bool) (gen:Int) (args:List (Int×Int)) (g:Bool):Pure Tryz.prog 56 [.pn,.l (os.map Fa) f,eI gen,.l (pP args) g] (.b false):=by
 have c1:=Up gen;refine P4 kZ ?_;have hs:=Sn
 conv=>whnf
 repeat'((first|apply st|(apply sq;intro K U)|(apply si;intro A B Y Z)|(apply Y;clear Z B Y A)|(apply U;clear U K)|refine Xf ?_|refine c1.use ?_|clear U K)<;>conv=>whnf)
 all_goals exact AI rfl
set_option maxHeartbeats 1000000 in
def call56 (p:Prog) (L:Nat) (os:List Ob) (f:Bool) (gen:Int) (args:List (Int×Int)) (g:Bool) (h:(BX p).isSome=true):Pure Tryz.prog 56 [Fu p L,.l (os.map Fa) f,eI gen,.l (pP args) g] (.b (Cy p os gen args)):=by
 refine Pure.fit (by kernel_rfl) fun hf=>?_
 have hM:=Mx;have hok:=look_ok h;have hgw:=No h;have c1:=ZZ p L gen;cases h2:Jt p gen<;>rw[h2]at c1
 ·refine P4 kZ ?_
  have hs:=Sn
  conv=>whnf
  repeat'((first|apply st|(apply sq;intro K U)|(apply si;intro A B Y Z)|(apply Y;clear Z B Y A)|(apply U;clear U K)|refine Xf ?_|refine c1.use ?_|clear U K)<;>conv=>whnf)
  all_goals exact AI (by simp[Cy,h2])
 have hgr:=h2;simp only[Jt,BZ,CY]at hgr;obtain⟨x,hx⟩: ∃x,p.Cz[gen.toNat]? =some x:=⟨_,Ct (by omega)⟩
 have hxd:p.Cz.getD gen.toNat 0=x:=by rw[DK,hx];rfl
 have hx3:1≤x∧x≤3:=by
  have hh:=(Eo h).1;simp only[C0,BZ,CY,E0]at hh;exact hh.2.2.2.2.2 x (B1 hx)
 by_cases he:(args.length:Int)=x
 ·have e:Cy p os gen args=(Fe (AM p) os&&args.all (Bz os.length)):=by simp only[Cy,h,h2,hxd,decide_eq_true he,Ey]
  rw[e];have c2:=cE os f args g (by omega);by_cases hv: ∀v∈args,Bz os.length v=true
  ·rw [List.filter_eq_self.2 hv]at c2
   have hva:args.all (Bz os.length)=true:=E0.2 hv;rw[hva,Bool.and_true]
   have hha:Jf (AM p) os args=Fe (AM p) os:=by
    rw[Jf,hva,decide_eq_true (show 1≤args.length by omega),decide_eq_true (show args.length≤3 by omega)];simp
   cases ho:Fe (AM p) os<;>rw[ho]at hha
   ·have c3:=(ct (AM p) hgw hok.iB os f args g V8 (Od _) hha).arg S7
    clear hva e hv;refine P4 kZ ?_;have hs:=Sn
    conv=>whnf
    repeat'((first|apply st|(apply sq;intro K U)|(apply si;intro A B Y Z)|(apply Y;clear Z B Y A)|(apply U;clear U K)|apply dr|refine⟨rfl,?_⟩|refine⟨kZ,?_⟩|refine FE ?_|refine Lq ?_|refine c1.use ?_|refine c2.use ?_|refine c3.use ?_|(constructor<;>intro hc<;>(try rw[hc])<;>(replace hc:=bp hc)<;>(try simp(disch:=omega) only[BD,wrap64,AL]at hc)<;>try(exfalso;omega))|clear U K)<;>conv=>whnf)
    all_goals first
     | exact AI rfl
     | (exfalso;simp[he]at hc;done)
   ·have c3:=(XS (AM p) hgw hok.iB os f args g V8 (Od _) (by
     rw[D8]
     exact Int.natCast_nonneg _) hha).arg S7
    clear hva e hv;refine P4 kZ ?_;have hs:=Sn
    conv=>whnf
    repeat'((first|apply st|(apply sq;intro K U)|(apply si;intro A B Y Z)|(apply Y;clear Z B Y A)|(apply U;clear U K)|apply dr|refine⟨rfl,?_⟩|refine⟨kZ,?_⟩|refine FE ?_|refine Lq ?_|refine c1.use ?_|refine c2.use ?_|refine c3.use ?_|(constructor<;>intro hc<;>(try rw[hc])<;>(replace hc:=bp hc)<;>(try simp(disch:=omega) only[BD,wrap64,AL]at hc)<;>try(exfalso;omega))|clear U K)<;>conv=>whnf)
    all_goals first
     | exact AI rfl
     | (exfalso;simp[he]at hc;done)
  ·have hlt:(args.filter (Bz os.length)).length≠args.length:=fun e=>hv (List.length_filter_eq_length_iff.1 e)
   have hva:args.all (Bz os.length)=false:=by
    rw[←Bool.not_eq_true,E0];exact hv
   rw[hva,Bool.and_false];generalize args.filter (Bz os.length)=ys at *;clear hva e hv;refine P4 kZ ?_;have hs:=Sn
   conv=>whnf
   repeat'((first|apply st|(apply sq;intro K U)|(apply si;intro A B Y Z)|(apply Y;clear Z B Y A)|(apply U;clear U K)|refine⟨rfl,?_⟩|refine FE ?_|refine Lq ?_|refine c1.use ?_|refine c2.use ?_|(constructor<;>intro hc<;>(try rw[hc])<;>(replace hc:=bp hc)<;>(try simp(disch:=omega) only[BD,wrap64,AL]at hc)<;>try(exfalso;omega))|clear U K)<;>conv=>whnf)
   all_goals first
    | exact AI rfl
    | (exfalso;simp[he]at hc;done)
    | (exfalso;simp at hc;omega)
 ·have e:Cy p os gen args=false:=by simp only[Cy,hxd,decide_eq_false he,Bool.false_and,Bool.and_false]
  rw[e];refine P4 kZ ?_;have hs:=Sn
  conv=>whnf
  repeat'((first|apply st|(apply sq;intro K U)|(apply si;intro A B Y Z)|(apply Y;clear Z B Y A)|(apply U;clear U K)|refine⟨rfl,?_⟩|refine FE ?_|refine Lq ?_|refine c1.use ?_|(constructor<;>intro hc<;>(try rw[hc])<;>(replace hc:=bp hc)<;>(try simp(disch:=omega) only[BD,wrap64,AL]at hc))|clear U K)<;>conv=>whnf)
  all_goals first
   | exact AI rfl
   | (exfalso;simp[he]at hc;done)
def Yn (p:Prog) (L:Nat) (os:List Ob) (f:Bool) (gen:Int) (args:List (Int×Int)) (g:Bool) (ha:Ask p os gen args) (hh:Jf (AM p) os args=true) (m:Int) (hm:A7 p m=true) (hg:(BJ p m).gen=gen) :
    Pure Tryz.prog 85 [eI m,.rp [Fu p L],.rp [.l (os.map Fa) f],.rp [.l (pP args) g]] (.b (CF (AM p) os args (BJ p m).fact)):=by
 refine Pure.fit (by kernel_rfl) fun hf=>?_
 have hM:=Mx;have hok:=look_ok ha.look;have hxm:=B0 hm;obtain⟨-,hfo,hno,hsp⟩:=Rm ha.look (B1 hxm);rw[hg,←ha.len]at hsp;have c1:=XS (AM p) (No ha.look) hok.iB os f args g (BJ p m).fact hfo hsp hh;simp only[A7,BZ,CY]at hm;clear hg hfo hno hsp;generalize BJ p m=x at *;cases hb:CF (AM p) os args x.fact<;>rw[hb]at c1
 all_goals
  refine qM kZ ?_;have hs:=Sn
  conv=>whnf
  repeat'((first|apply st|(apply sq;intro K U)|(apply si;intro A B Y Z)|(apply Y;clear Z B Y A)|(apply U;clear U K)|apply dr|refine⟨rfl,?_⟩|refine⟨kZ,?_⟩|refine FE ?_|refine c1.use ?_|fail)<;>conv=>whnf)
  all_goals exact AI rfl
def e9 {p:Prog} {os:List Ob} {gen:Int} {args:List (Int×Int)} (h:Cy p os gen args=true):Jf (AM p) os args=true:=by
 have ha:=Uw h;simp only[Cy,BZ]at h;have hg:=ha.po;simp only[Jt,BZ,CY]at hg;obtain⟨x,hx⟩: ∃x,p.Cz[gen.toNat]? =some x:=⟨_,Ct (by omega)⟩
 have hxd:p.Cz.getD gen.toNat 0=x:=by rw[DK,hx];rfl
 have hx3:1≤x∧x≤3:=by
  have hh:=(Eo ha.look).1;simp only[C0,BZ,CY,E0]at hh;exact hh.2.2.2.2.2 x (B1 hx)
 have hl:=ha.len;rw[hxd]at hl;rw[Jf,h.2.1,decide_eq_true (show 1≤args.length by omega),decide_eq_true (show args.length≤3 by omega),h.2.2.2.2];rfl
def YC (p:Prog) (os:List Ob) (gen:Int) (args:List (Int×Int)):(FN p gen p.methods.length).filter (fun m=>CF (AM p) os args (BJ p m).fact)=Ng p os gen args:=by
 rw[FN,Ng,Pb,List.filter_filter];congr 1;funext m;rw[Bool.and_comm]
def Oy {p:Prog} {g m:Int} (h:m∈FN p g p.methods.length):A7 p m=true∧(BJ p m).gen=g:=by
 have:=JZ.1 h;have h1:=FT.1 this.1;exact⟨by simp only[A7,BZ,CY];exact h1,by simpa using this.2⟩
def Yv (p:Prog) (L:Nat) (os:List Ob) (f:Bool) (gen:Int) (args:List (Int×Int)) (g:Bool) (h:Cy p os gen args=true):Pure Tryz.prog 58 [Fu p L,.l (os.map Fa) f,eI gen,.l (pP args) g] (.l (iL (Ng p os gen args)) true):=by
 have ha:=Uw h;have hok:=look_ok ha.look;have hml:=Oz p gen p.methods.length;have h16:=hok.many;have c1:=Td 85 [] [.rp [Fu p L],.rp [.l (os.map Fa) f],.rp [.l (pP args) g]] (fun m=>CF (AM p) os args (BJ p m).fact) (FN p gen p.methods.length) (fun m hm=>Yn p L os f gen args g ha (e9 h) m (Oy hm).1 (Oy hm).2) false (by omega);rw[YC]at c1;refine Pure.of ?_;refine qe kZ ?_;have hs:=Sn
 conv=>whnf
 repeat'((first|apply st|(apply sq;intro K U)|(apply si;intro A B Y Z)|(apply Y;clear Z B Y A)|(apply U;clear U K)|refine Pure.use (XW _ _ _) ?_|fail)<;>conv=>whnf)
 refine(Vn p L gen h16).use (rest:=[]) (by simpa using hs) ?_;clear hs;rintro r post σ ⟨v,rfl,rfl⟩ hs
 conv=>whnf
 obtain⟨σ2,h1,h2,h3⟩:=Ir hs 0 rfl;refine BL.P0 (c1.use ?_) h1 (.cons h2 (.cons (.refl _) .nil));clear hs h1 h2;have hs:=h3
 conv=>whnf
 repeat'((first|apply st|(apply Y;clear Z B Y A)|(apply U;clear U K)|fail)<;>conv=>whnf)
 exact AR (by rfl)
end Go.Gl
namespace Go.Gl
open Go.Proofs
def Qx {p:Prog} {os:List Ob} {gen:Int} {args:List (Int×Int)} (h16:p.methods.length≤16):Nl p (Ng p os gen args):=by
 have hm: ∀x∈Ng p os gen args,A7 p x=true∧(BJ p x).gen=gen:=fun x hx=>by
  have:=JZ.1 hx;have h1:=FT.1 this.1;have h2:=this.2;simp only[BZ,Dn]at h2;exact⟨by simp only[A7,BZ,CY];exact h1,h2.1⟩
 refine⟨fun x hx=>(hm x hx).1,fun x hx y hy=>(hm x hx).2.trans (hm y hy).2.symm,?_,Nat.le_trans (Tk p os gen args _) h16⟩;refine List.Nodup.sublist (List.filter_sublist ..) ?_;exact(Jj _).imp fun h e=>by omega
def pS (x:Pl×Bool):Pl×Int:=if x.2 then(x.1,0)else(oq,5)
def Ix (p:Prog) (os:List Ob) (gen:Int) (args:List (Int×Int)):Pl×Int:=if Cy p os gen args then pS (El (Am p) p (Ng p os gen args))else(oq,2)
abbrev vI (x:Pl×Int) (g:Bool):V:= .t [.a (om x.1 g (x.2 != 0)),eI x.2]
attribute [local irreducible] BL A5 Aj AW AN Ai AV AX AO Ah AS AU BA BK Sat Ad BH Al W
def oe (p:Prog) (os:List Ob) (f:Bool) (gen:Int) (args:List (Int×Int)) (g:Bool):Pure Tryz.prog 21 [.a (BV p),.l (os.map Fa) f,eI gen,.l (pP args) g] (vI (Ix p os gen args) ((Ix p os gen args).2 != 0)):=by
 have c1:=fj p os f gen args g;rw[Ix];cases h:Cy p os gen args<;>rw[h]at c1
 ·refine gq kZ ?_
  have hs:=Sn
  conv=>whnf
  repeat'((first|apply st|(apply sq;intro K U)|(apply si;intro A B Y Z)|(apply Y;clear Z B Y A)|(apply U;clear U K)|refine⟨kZ,?_⟩|refine ld ?_|refine DB fun σ hs=>?_|refine E2 ?_|refine c1.use ?_|(intro nn hnn;generalize hg:A6 _ nn _=σ;refine CW hg fun hs=>?_;clear hg)|clear U K)<;>conv=>whnf)
  all_goals exact AI rfl
 ·have ha:=Uw h
  have hok:=look_ok ha.look;have c2:=UP p os f gen args g ha;have c3:=bJ p (Ng p os gen args) false hok (Qx hok.many);rw[if_pos rfl];clear ha hok h;generalize El (Am p) p (Ng p os gen args)=x at *;obtain⟨x,b⟩:=x;cases b
  all_goals
   refine gq kZ ?_;have hs:=Sn
   conv=>whnf
   repeat'((first|apply st|(apply sq;intro K U)|(apply si;intro A B Y Z)|(apply Y;clear Z B Y A)|(apply U;clear U K)|apply dr|refine⟨kZ,?_⟩|refine ld ?_|refine DB fun σ hs=>?_|refine E2 ?_|refine D2 ?_|refine⟨_,c2,?_⟩|refine⟨_,c3,?_⟩|refine c1.use ?_|(intro nn hnn;generalize hg:A6 _ nn _=σ;refine CW hg fun hs=>?_;clear hg)|clear U K)<;>conv=>whnf)
   all_goals exact AI rfl
def U0 (p:Prog) (os:List Ob) (f:Bool) (gen:Int) (args:List (Int×Int)) (g:Bool):Pure Tryz.prog 20 [.a (BV p),.l (os.map Fa) f,eI gen,.l (pP args) g] (vI (Ix p os gen args) true):=by
 refine Pure.of ?_;have hr:=I3 p;generalize hX:Ix p os gen args=X;rw[Ix]at hX;refine qu kZ ?_;have hs:=Sn
 conv=>whnf
 repeat'((first|apply st|(apply sq;intro K U)|(apply si;intro A B Y Z)|(apply Y;clear Z B Y A)|(apply U;clear U K)|refine⟨kZ,?_⟩|(intro nn hnn;generalize hg:A6 _ nn _=σ;refine CW hg fun hs=>?_;clear hg)|fail)<;>conv=>whnf)
 refine hr.use (rest:=_) hs ?_;clear hs;cases h:(BX p).isSome
 ·have c1:=fg os f gen args g
  have hb:Cy p os gen args=false:=by simp only[Cy,h,Bool.false_and]
  rw[hb,if_neg (by decide)]at hX;subst hX;rintro r post σ ⟨rfl,rfl⟩ hs
  conv=>whnf
  repeat'((first|apply st|(apply sq;intro K U)|(apply si;intro A B Y Z)|(apply Y;clear Z B Y A)|(apply U;clear U K)|refine⟨kZ,?_⟩|refine ld ?_|refine DB fun σ hs=>?_|refine E2 ?_|refine c1.use ?_|clear U K)<;>conv=>whnf)
  exact AR (by rfl)
 ·rintro r post σ ⟨L,rfl,rfl⟩ hs
  have c1:=call56 p L os f gen args g h;cases hb:Cy p os gen args<;>rw[hb]at c1 hX
  ·rw[if_neg (by decide)]at hX
   subst hX
   conv=>whnf
   repeat'((first|apply st|(apply sq;intro K U)|(apply si;intro A B Y Z)|(apply Y;clear Z B Y A)|(apply U;clear U K)|refine⟨kZ,?_⟩|refine ld ?_|refine DB fun σ hs=>?_|refine E2 ?_|refine c1.use ?_|clear U K)<;>conv=>whnf)
   exact AR (by rfl)
  ·have c2:=Yv p L os f gen args g hb
   have c3:=jG p L (Ng p os gen args) true h (Qx (look_ok h).many) [];rw[if_pos rfl]at hX;generalize El (Am p) p (Ng p os gen args)=x at *;obtain⟨x,b⟩:=x;cases b
   all_goals
    subst hX
    conv=>whnf
    repeat'((first|apply st|(apply sq;intro K U)|(apply si;intro A B Y Z)|(apply Y;clear Z B Y A)|(apply U;clear U K)|refine D2 ?_|refine c1.use ?_|refine c2.use ?_|fail)<;>conv=>whnf)
    refine c3.use (rest:=_) hs ?_;clear hs;rintro r post σ ⟨rfl,M,rfl⟩ hs
    conv=>whnf
    repeat'((first|apply st|(apply sq;intro K U)|(apply si;intro A B Y Z)|(apply Y;clear Z B Y A)|(apply U;clear U K)|refine⟨kZ,?_⟩|refine ld ?_|refine DB fun σ hs=>?_|refine E2 ?_|refine D2 ?_|(intro nn hnn;generalize hg:A6 _ nn _=σ;refine CW hg fun hs=>?_;clear hg)|clear U K)<;>conv=>whnf)
    exact AR (by rfl)
def Uj (x:Pl) (g h g' h':Bool):Pure Tryz.prog 22 [.a (om x g h),.a (om x g' h')] (.b true):=by
 obtain⟨a,t,b,c,u,d⟩:=x
 have c1: ∀(xs:List Int) (f g:Bool),Pure Tryz.prog 30 [.l (iL xs) f,.l (iL xs) g] (.b true):=fun xs f g=>by
  have:=H4 xs xs f g
  rwa [beq_self_eq_true]at this
 cases t
 all_goals
  cases u
  all_goals
   refine qt kZ ?_;have hs:=Sn
   conv=>whnf
   repeat'((first|apply st|(apply sq;intro K U)|(apply si;intro A B Y Z)|(apply Y;clear Z B Y A)|(apply U;clear U K)|refine E2 ?_|refine Pure.use (c1 _ _ _) ?_|fail)<;>conv=>whnf)
   all_goals exact AI rfl
end Go.Gl
namespace Go.Gl
open Go.Proofs
attribute [local irreducible] BL A5 Aj AW AN Ai AV AX AO Ah AS AU BA BK Sat Ad BH Al W
def VC (p:Prog) (os:List Ob) (f:Bool) (gen:Int) (args:List (Int×Int)) (g:Bool) (q3:Pure Tryz.prog 14 [] (.b true)):Pure Tryz.prog 5 [.a (BV p),.l (os.map Fa) f,eI gen,.l (pP args) g] (.b true):=by
 have q1:=U0 p os f gen args g;have q2:=oe p os f gen args g;generalize Ix p os gen args=x at *;obtain⟨x,e⟩:=x;dsimp only at q1 q2;refine vo kZ ?_;have hs:=Sn
 conv=>whnf
 repeat'((first|apply st|(apply sq;intro K U)|(apply si;intro A B Y Z)|(apply Y;clear Z B Y A)|(apply U;clear U K)|refine⟨rfl,?_⟩|refine⟨kZ,?_⟩|refine ld ?_|refine DB fun σ hs=>?_|refine q1.use ?_|refine q2.use ?_|refine q3.use ?_|refine Pure.use (Uj _ _ _ _ _) ?_|(constructor<;>intro hc<;>(try rw[hc])<;>(replace hc:=bp hc)<;>(try simp(disch:=omega) only[BD,wrap64,AL]at hc)<;>try(exfalso;omega))|(intro nn hnn;generalize hg:A6 _ nn _=σ;refine CW hg fun hs=>?_;clear hg)|fail)<;>conv=>whnf)
 all_goals first
  | exact AI rfl
  | (exfalso;simp at hc;done)
end Go.Gl
namespace Go.Gl
open Go.Proofs
def ou (c:Int):Fact:=Fact.mk 2 0 [] c 0 []
def PS:Prog:=⟨[⟨[],[],[]⟩,⟨[3],[],[]⟩,⟨[3],[],[]⟩,⟨[4,5],[],[]⟩],0,[1],
 [⟨1,0,ou 3,0⟩,⟨1,0,ou 4,1⟩,⟨1,0,ou 5,2⟩,⟨2,0,Fact.mk 1 0 [] 0 0 [],3⟩,⟨2,0,ou 4,4⟩,⟨3,0,ou 3,5⟩,⟨3,0,ou 4,6⟩],
 [⟨2,0,[]⟩,⟨2,0,[]⟩,⟨2,0,[]⟩,⟨2,0,[]⟩,⟨2,0,[]⟩,⟨2,0,[]⟩,⟨2,0,[]⟩,⟨2,0,[]⟩],7⟩
def j5:Hr PS 1 0=(true,0):=by kernel_rfl
def j4:Hr PS 1 2=(false,0):=by kernel_rfl
def j6:Hr PS 0 3=(false,7):=by kernel_rfl
end Go.Gl
namespace Go.Gl
open Go.Proofs
attribute [local irreducible] BL A5 Aj AW AN Ai AV AX AO Ah AS AU BA BK Sat Ad BH Al W
def vZ (c:Int):Pure Tryz.prog 74 [eI c] (.a [eI 2,eI 0,.l [] true,eI c,eI 0,.l [] true]):=by
 refine qV kZ ?_;have hs:=Sn
 conv=>whnf
 repeat'((first|apply st|(apply sq;intro K U)|(apply si;intro A B Y Z)|(apply Y;clear Z B Y A)|(apply U;clear U K)|refine⟨kZ,?_⟩|refine ld ?_|refine DB fun σ hs=>?_|(intro nn hnn;generalize hg:A6 _ nn _=σ;refine CW hg fun hs=>?_;clear hg)|fail)<;>conv=>whnf)
 all_goals exact AI rfl
def u0 (k:Nat):Int:=if k<3 then 1 else if k<5 then 2 else 3
def xd (k:Nat):Int:=if k=3 then 1 else 2
def xe (k:Nat):Int:=if k=0 then 3 else if k=1 then 4 else if k=2 then 5 else if k=3 then 0 else if k=4 then 4 else if k=5 then 3 else 4
def mR (b:Bool) (k:Nat):List V:=[eI (u0 k),eI 0,eI (xd k),eI 0,.l [] b,eI (xe k),eI 0,.l [] b,eI (A3 k)]
def fR (k:Nat):List V:=[eI (xd k),eI 0,.l [] true,eI (xe k),eI 0,.l [] true]
def nR (b:Bool) (_:Nat):List V:=[eI 2,eI 0,.l [] b]
def fB:EO (mR true) 9:=fun x=>⟨rfl,fun v hv=>by
 simp only[mR,GB,List.not_mem_nil,or_false]at hv
 rcases hv with rfl|rfl|rfl|rfl|rfl|rfl|rfl|rfl|rfl<;>rfl⟩
def Wy:EO (nR true) 3:=fun x=>⟨rfl,fun v hv=>by
 simp only[nR,GB,List.not_mem_nil,or_false]at hv
 rcases hv with rfl|rfl|rfl<;>rfl⟩
abbrev dX:V:= .l [[.l [] true,.l [] true,.l [] true],[.l [[eI 3]] true,.l [] true,.l [] true],[.l [[eI 3]] true,.l [] true,.l [] true],[.l [[eI 4],[eI 5]] true,.l [] true,.l [] true]] true
def cF {σ:AH}:Gt σ emp dX (.l (PS.AP.map Pa) false):=
 .l (fun h=>by cases h) (.cons (.cons CI (.cons CI (.cons CI .nil))) (.cons (.cons Np (.cons CI (.cons CI .nil))) (.cons (.cons Np (.cons CI (.cons CI .nil))) (.cons (.cons Np (.cons CI (.cons CI .nil))) .nil))))
def jf {σ:AH} (k:Nat):Dq σ emp (mR true k) (mR false k):= .cons (.refl _) (.cons (.refl _) (.cons (.refl _) (.cons (.refl _) (.cons CI (.cons (.refl _) (.cons (.refl _) (.cons CI (.cons (.refl _) .nil))))))))
def jc {σ:AH} (k:Nat):Dq σ emp (nR true k) (nR false k):= .cons (.refl _) (.cons (.refl _) (.cons CI .nil))
set_option maxHeartbeats 4000000 in
def vg:Pure Tryz.prog 48 [] (.a (BV PS)):=by
 refine Pure.of ?_;have hM:=Mx;refine qj kZ ?_;have hs:=Sn
 conv=>whnf
 repeat'((first|apply st|(apply sq;intro K U)|(apply si;intro A B Y Z)|(apply Y;clear Z B Y A)|(apply U;clear U K)|refine DB fun σ hs=>?_|refine Pure.use (vZ _) ?_|(intro nn hnn;generalize hg:A6 _ nn _=σ;refine CW hg fun hs=>?_;clear hg)|fail)<;>conv=>whnf)
 rename_i n0 _ _ _ _ _;refine B4 (List.range 7).length (fun k (_:V×V)=>[(2,.l ((List.range 7).map fun k=>[eI (u0 k)]) true),(3,.l ((List.range 7).map fR) true),(4,eI (A3 k))]) (fun k x=>[.box nn [dX,eI 0,.l [[eI 1]] true,x.1,x.2,eI 0],.box n0 [.l [] true,eI 0,.l [] true,.l [] true,.l [] true,eI 0],.own x.1 9 ((List.range k).map (mR true)),.own x.2 3 ((List.range k).map (nR true))]) (fun _ _=>True) (.l [] true,.l [] true) rfl trivial (EM (EM hs 9) 3) ?_;clear hs;rintro k ⟨v,u⟩ σ hk - hs;dsimp only at hs;have hr7:(List.range 7).length=7:=vD;have hlr:(List.range k).length=k:=vD;rcases BE (List.range 7) hk with⟨y,hy,hlt⟩|hke
 ·obtain rfl:k=y:=by
   have h:=(Hk.1 hy).2;rw[List.getElem_range]at h;exact h
  have hck:A3 k=k:=AL (by omega);have e1:(List.range (k+1)).map (mR true)=(List.range k++[k]).map (mR true):=by rw[List.range_succ]
  have e2:(List.range (k+1)).map (nR true)=(List.range k++[k]).map (nR true):=by rw[List.range_succ]
  have hll:(List.range k).length<Ac∧((List.range k).length+1)*104≤140737488355328:=by omega
  have hl2:(List.range k).length<Ac∧((List.range k).length+1)*40≤140737488355328:=by omega
  generalize List.range k=ks at *
  conv=>whnf
  repeat'((first|apply st|(apply sq;intro K U)|(apply si;intro A B Y Z)|(apply Y;clear Z B Y A)|(apply U;clear U K)|apply dr|refine⟨rfl,?_⟩|refine⟨kZ,?_⟩|refine ix ?_|refine ld ?_|refine FB fun σ hs=>?_|(refine CA (fun hc=>?_)<;>(try rw[hc])<;>clear hc)|refine aq (enc:=mR true) (x:=k) (fun v σ hs hsl=>?_) (hg:=fB)|refine aq (enc:=nR true) (x:=k) (fun v σ hs hsl=>?_) (hg:=Wy)|clear U K)<;>conv=>whnf)
  rename_i v9 _ _ _ _ _ _ _;exact⟨hlt,(v9,v),rfl,trivial,by rw[e1,e2];exact hs⟩
 ·have hl2:(List.range k).length<Ac∧((List.range k).length+1)*40≤140737488355328:=by omega
  conv=>whnf
  repeat'((first|apply st|(apply sq;intro K U)|(apply si;intro A B Y Z)|(apply Y;clear Z B Y A)|(apply U;clear U K)|refine⟨rfl,?_⟩|refine⟨kZ,?_⟩|refine ld ?_|refine FB fun σ hs=>?_|(refine DU (fun hc=>?_)<;>(try rw[hc])<;>clear hc)|refine aq (enc:=nR true) (x:=k) (fun v σ hs hsl=>?_) (hg:=Wy)|clear U K)<;>conv=>whnf)
  obtain rfl:k=7:=by omega
  have o1:=Gx hs 2 rfl;have o2:=Gx hs 3 rfl;refine Hp hs 1 rfl rfl rfl (by simp[dX,o1,o2]) (by decide) fun σ hs=>?_
  clear o1 o2
  conv=>whnf
  repeat'((first|apply st|(apply Y;clear Z B Y A)|(apply U;clear U K)|refine⟨kZ,?_⟩|refine ld ?_|fail)<;>conv=>whnf)
  have hfr:Gt σ emp (V.a [dX,eI 0,.l [[eI 1]] true,_,v,eI (((List.range 7).map fun k=>[eI (u0 k)]).length:Nat)]) (V.a [.l (PS.AP.map Pa) false,eI 0,.l [[eI 1]] false,.l ((List.range 7).map (mR false)) false,.l ((List.range 7++[7]).map (nR false)) false,eI (((List.range 7).map fun k=>[eI (u0 k)]).length:Nat)]):= .a (.cons cF (.cons (.refl _) (.cons Np (.cons (Own.pD (hs.get (i:=2) rfl) (OL jf _)) (.cons (Own.pD (hs.get (i:=3) rfl) (OL jc _)) (.cons (.refl _) .nil))))));refine F3 (σ2:=emp) (fun n o ho=>by cases ho) hfr ?_;show R.ret _=R.ret _
  kernel_rfl
def TH {n:Nat} {f:Nat→Nat→Bool} {i:Nat} (h: ∀j,f i j=false):KV n f i= []:=by
 rw[KV,List.filter_eq_nil_iff.2 fun j _=>by rw[h j];decide];rfl
set_option maxHeartbeats 4000000 in
def eL (p : Prog) (gen kind:Int):Pure Tryz.prog 15 [.a (BV p),eI gen,eI kind] (.t [.l (pP (Gm p gen kind).1) true,eI (Gm p gen kind).2]):=by
 refine Pure.of ?_;have hM:=Mx;have hr:=I3 p;refine qx kZ ?_;have hs:=Sn
 conv=>whnf
 repeat'((first|apply st|(apply sq;intro K U)|(apply si;intro A B Y Z)|(apply Y;clear Z B Y A)|(apply U;clear U K)|refine⟨kZ,?_⟩|fail)<;>conv=>whnf)
 refine hr.use (rest:=[]) (by simpa using hs) ?_;clear hs;cases h:(BX p).isSome
 ·have hg:=Up gen
  rintro r post σ ⟨rfl,rfl⟩ hs
  conv=>whnf
  repeat'((first|apply st|(apply sq;intro K U)|(apply si;intro A B Y Z)|(apply Y;clear Z B Y A)|(apply U;clear U K)|refine ld ?_|refine FB fun σ hs=>?_|refine Xf ?_|refine hg.use ?_|(intro nn hnn;generalize hg:A6 _ nn _=σ;refine CW hg fun hs=>?_;clear hg)|clear U K)<;>conv=>whnf)
  exact AR (by simp[Gm,h])
 ·rintro r post σ ⟨L,rfl,rfl⟩ hs
  have hg:=ZZ p L gen;have hok:=look_ok h;have h16:=hok.many;have hgw:=No h;have hfm:=Kp h;cases h2:Jt p gen
  ·rw[h2]at hg
   conv=>whnf
   repeat'((first|apply st|(apply sq;intro K U)|(apply si;intro A B Y Z)|(apply Y;clear Z B Y A)|(apply U;clear U K)|refine ld ?_|refine FB fun σ hs=>?_|refine Xf ?_|refine hg.use ?_|(intro nn hnn;generalize hg:A6 _ nn _=σ;refine CW hg fun hs=>?_;clear hg)|clear U K)<;>conv=>whnf)
   exact AR (by simp[Gm,h,h2])
  rw[h2]at hg;by_cases h3:Sp kind=true
  ·have hk :=h3
   simp only[Sp,BZ,CY]at hk
   conv=>whnf
   repeat'((first|apply st|(apply sq;intro K U)|(apply si;intro A B Y Z)|(apply Y;clear Z B Y A)|(apply U;clear U K)|refine⟨rfl,?_⟩|refine ld ?_|refine FB fun σ hs=>?_|refine Lq ?_|refine hg.use ?_|refine Pure.use (XW _ _ _) ?_|(constructor<;>intro hc<;>(try rw[hc])<;>(replace hc:=bp hc)<;>try(exfalso;omega))|(intro nn hnn;generalize hg:A6 _ nn _=σ;refine CW hg fun hs=>?_;clear hg)|clear U K)<;>conv=>whnf)
   ·rename_i nr _ _ _ _ _ _ nO _ _ _
    refine Sm p L gen h16 (nn:=nn) (fun s:List (Int×Int)×List (Int×Int)×V=>[.box nO [s.2.2],.own s.2.2 2 (pP s.2.1),.box nr [Fu p L],.map L (FL p s.1)]) (fun k s=>s.2.1=(List.range k).flatMap (KV p.methods.length (IZ p gen kind))) ([],[],.l [] true) rfl ((Cx hs 2).perm (IK _ _ _ _)) ?_ ?_ ?_
    ·intro k s hlt hne hi
     rw[Hf,←hi,TH (fun j=>by simp[IZ,hne]),Hj]
    ·clear hs hnn
     intro k s hlt hgk hi rest σ hs;have hck:A3 k=k:=AL (by omega);have hmk:A7 p (k:Int)=true:=by simp[A7];omega
     rw[←hck];refine Es (l:=[.box nO [s.2.2],.own s.2.2 2 (pP s.2.1),.box nr [Fu p L],.map L (FL p s.1)]++rest) rfl hs ?_;clear hs;intro σ hs
     conv=>whnf
     repeat'((first|apply st|(apply sq;intro K U)|(apply si;intro A B Y Z)|(apply Y;clear Z B Y A)|(apply U;clear U K)|refine ld ?_|refine FB fun σ hs=>?_|refine Pure.use (XW _ _ _) ?_|(intro nn hnn;generalize hg:A6 _ nn _=σ;refine CW hg fun hs=>?_;clear hg)|clear U K)<;>conv=>whnf)
     rename_i nm _ _ _ _ _;clear hnn;refine Sm p L gen h16 (nn:=nn) (fun s':List (Int×Int)×List (Int×Int)×V=> .box nm [eI (A3 k)]::([.box nO [s'.2.2],.own s'.2.2 2 (pP s'.2.1),.box nr [Fu p L],.map L (FL p s'.1)]++rest)) (fun j s'=>s'.2.1=(List.range k).flatMap (KV p.methods.length (IZ p gen kind))++Lh (IZ p gen kind) k j) s (by simp[Lh,hi]) hs ?_ ?_ ?_
     ·intro j s' hjlt hne hi'
      have:IZ p gen kind k j=false:=by
       rw[←Bool.not_eq_true,bN];exact fun e=>hne e.2.1.1
      rw[JO,this,hi'];simp
     ·clear hs hi
      intro j s' hjlt hgj hi' rest2 σ hs;have hcj:A3 j=j:=AL (by omega);have hmj:A7 p (j:Int)=true:=by simp[A7];omega
      obtain⟨x,hx⟩: ∃x,p.methods[k]? =some x:=⟨_,Ct hlt⟩
      have hxe:BJ p (k:Int)=x:=by
       have:=B0 hmk;rw[IT,hx]at this;exact(Option.some.inj this).symm
      have c4:Pure Tryz.prog 44 [Fu p L,eI (A3 k),eI (A3 j)] (.b (B3 p k j)):=by rw[hck,hcj];exact NV p L k j hmk hmj
      have c5:Bj Tryz.prog 45 [Fu p L,eI (A3 k),eI (A3 j)] [.map L (FL p s'.1)] fun r post=>r= .ret (.b (Am p k j))∧post= [.map L (FL p (Ni p s'.1 k j))]:=by rw[hck,hcj];exact OV p L k j hok hgw hfm hmk hmj s'.1
      have hoe:IZ p gen kind k j=(x.kind==kind&&(B3 p k j&&Am p k j)):=by rw[IZ,hxe,←hxe,hgk,hxe];simp
      have hrs:=JO (IZ p gen kind) k j;have hfl:=NS p.methods.length (IZ p gen kind) k;have hrl:=Ri (IZ p gen kind) k j;have hkk:k*p.methods.length≤16*16:=Nat.mul_le_mul (by omega) h16;have hll:s'.2.1.length<Ac∧(s'.2.1.length+1)*16≤140737488355328:=by rw[hi',PR];omega
      have hno:IZ p gen kind k j=false→s'.2.1=(List.range k).flatMap (KV p.methods.length (IZ p gen kind))++Lh (IZ p gen kind) k (j+1):=fun e=>by rw[hrs,e,hi'];simp
      rw[←hcj];refine Es (l:= .box nm [eI (A3 k)]::([.box nO [s'.2.2],.own s'.2.2 2 (pP s'.2.1),.box nr [Fu p L],.map L (FL p s'.1)]++rest)++rest2) rfl hs ?_;clear hs;intro σ hs;by_cases hkd:x.kind=kind
      ·cases hal:B3 p k j<;>rw[hal]at c4
       ·conv=>whnf
        repeat'((first|apply st|(apply sq;intro K U)|(apply si;intro A B Y Z)|(apply Y;clear Z B Y A)|(apply U;clear U K)|apply dr|refine⟨rfl,?_⟩|refine ix ?_|refine ld ?_|refine D2 ?_|refine c4.use ?_|(constructor<;>intro hc<;>(try rw[hc])<;>(replace hc:=bp hc)<;>try(exfalso;omega))|fail)<;>conv=>whnf)
        intro hn;exact⟨s',rfl,hno (by rw[hoe,hal];simp),hs.Ju hn⟩
       ·cases hah:Am p k j<;>rw[hah]at c5
        all_goals
         conv=>whnf
         repeat'((first|apply st|(apply sq;intro K U)|(apply si;intro A B Y Z)|(apply Y;clear Z B Y A)|apply dr|refine⟨rfl,?_⟩|refine ix ?_|refine ld ?_|refine E2 ?_|refine c4.use ?_|(constructor<;>intro hc<;>(try rw[hc])<;>(replace hc:=bp hc)<;>try(exfalso;omega))|fail)<;>conv=>whnf)
         refine c5.use (rest:=_) (hs.front (j:=4) rfl) ?_;clear hs;rintro r post σ ⟨rfl,rfl⟩ hs
         conv=>whnf
         repeat'((first|apply st|(apply si;intro A B Y Z)|(apply Y;clear Z B Y A)|(apply U;clear U K)|apply dr|refine ld ?_|refine FB fun σ hs=>?_|refine E2 ?_|refine D2 ?_|refine aq (enc:=pI) (x:=((_:Int),(_:Int))) (fun v σ hs hsl=>?_) (hg:=N1)|fail)<;>conv=>whnf)
        ·intro hn
         exact⟨(Ni p s'.1 k j,s'.2.1,s'.2.2),rfl,hno (by rw[hoe,hah];simp),(Sat.back (l:=(.box nm [eI (A3 k)]::([.box nO [s'.2.2],.own s'.2.2 2 (pP s'.2.1),.box nr [Fu p L],.map L (FL p (Ni p s'.1 k j))]++rest))++rest2) (j:=4) hs rfl).Ju hn⟩
        ·intro hn
         refine⟨(Ni p s'.1 k j,s'.2.1++[((k:Int),(j:Int))],v),rfl,?_,Sat.Ju ?_ hn⟩
         ·rw[hrs,show IZ p gen kind k j=true by rw[hoe,hah,hal];simp[hkd],hi',if_pos rfl,SS]
         ·rw[show((k:Int),(j:Int))=(A3 k,A3 j) by rw[hck,hcj]]
          exact Sat.back (l:=(.box nm [eI (A3 k)]::([.box nO [v],.own v 2 (pP (s'.2.1++[(A3 k,A3 j)])),.box nr [Fu p L],.map L (FL p (Ni p s'.1 k j))]++rest))++rest2) (j:=4) hs rfl
      ·conv=>whnf
       repeat'((first|apply st|(apply sq;intro K U)|(apply si;intro A B Y Z)|(apply Y;clear Z B Y A)|(apply U;clear U K)|apply dr|refine⟨rfl,?_⟩|refine ix ?_|refine ld ?_|(constructor<;>intro hc<;>(try rw[hc])<;>(replace hc:=bp hc)<;>try(exfalso;omega))|fail)<;>conv=>whnf)
       intro hn;exact⟨s',rfl,hno (by rw[hoe];simp[hkd]),hs.Ju hn⟩
     ·clear hs hi
      intro s' σ hi' hs;refine Fk hs fun σ hs=>?_
      conv=>whnf
      intro hn;exact⟨s',rfl,by rw[Hf];exact hi',(hs.less (Jp _ _)).Ju hn⟩
    ·clear hs hnn
     intro s σ hi hs;refine Fk hs fun σ hs=>?_
     conv=>whnf
     repeat'((first|(apply sq;intro K U)|(apply si;intro A B Y Z)|(apply U;clear U K)|refine ld ?_|fail)<;>conv=>whnf)
     refine(aH s.2.1 s.2.2 (by have:=NS p.methods.length (IZ p gen kind) p.methods.length;have:p.methods.length*p.methods.length≤16*16:=Nat.mul_le_mul h16 h16;rw[hi];omega)).use (rest:=_) (hs.front (j:=1) rfl) ?_;clear hs;rintro r post σ ⟨rfl,rfl⟩ hs
     conv=>whnf
     repeat'((first|apply st|(apply Y;clear Z B Y A)|(apply U;clear U K)|fail)<;>conv=>whnf)
     exact AR (by simp[Gm,h,h2,h3,RO,hi])
   ·exfalso
    simp at hc;omega
  ·have hk:kind<1∨4<kind:=by simp only[Sp,BZ,CY]at h3;omega
   have h3':Sp kind=false:=by simpa using h3
   rcases hk with hk|hk
   ·conv=>whnf
    repeat'((first|apply st|(apply sq;intro K U)|(apply si;intro A B Y Z)|(apply Y;clear Z B Y A)|(apply U;clear U K)|refine⟨rfl,?_⟩|refine ld ?_|refine FB fun σ hs=>?_|refine Lq ?_|refine hg.use ?_|refine Pure.use (XW _ _ _) ?_|(constructor<;>intro hc<;>(try rw[hc])<;>(replace hc:=bp hc)<;>try(exfalso;omega))|(intro nn hnn;generalize hg:A6 _ nn _=σ;refine CW hg fun hs=>?_;clear hg)|clear U K)<;>conv=>whnf)
    ·exfalso
     have q:(bif !true then true else decide (kind<1))=false:=by assumption
     simp at q;omega
    ·exact AR (by simp[Gm,h,h2,h3'])
   ·conv=>whnf
    repeat'((first|apply st|(apply sq;intro K U)|(apply si;intro A B Y Z)|(apply Y;clear Z B Y A)|(apply U;clear U K)|refine⟨rfl,?_⟩|refine ld ?_|refine FB fun σ hs=>?_|refine Lq ?_|refine hg.use ?_|(constructor<;>intro hc<;>(try rw[hc])<;>(replace hc:=bp hc)<;>try(exfalso;omega))|(intro nn hnn;generalize hg:A6 _ nn _=σ;refine CW hg fun hs=>?_;clear hg)|clear U K)<;>conv=>whnf)
    all_goals exact AR (by simp[Gm,h,h2,h3'])
set_option maxHeartbeats 4000000 in
def dh (p : Prog) (gen:Int):Pure Tryz.prog 17 [.a (BV p),eI gen] (.t [.l (pP (Lu p gen).1) true,eI (Lu p gen).2]):=by
 refine Pure.of ?_;have hM:=Mx;have hr:=I3 p;refine qw kZ ?_;have hs:=Sn
 conv=>whnf
 repeat'((first|apply st|(apply sq;intro K U)|(apply si;intro A B Y Z)|(apply Y;clear Z B Y A)|(apply U;clear U K)|refine⟨kZ,?_⟩|fail)<;>conv=>whnf)
 refine hr.use (rest:=[]) (by simpa using hs) ?_;clear hs;cases h:(BX p).isSome
 ·have hg:=Up gen
  rintro r post σ ⟨rfl,rfl⟩ hs
  conv=>whnf
  repeat'((first|apply st|(apply sq;intro K U)|(apply si;intro A B Y Z)|(apply Y;clear Z B Y A)|(apply U;clear U K)|refine ld ?_|refine FB fun σ hs=>?_|refine E2 ?_|refine hg.use ?_|(intro nn hnn;generalize hg:A6 _ nn _=σ;refine CW hg fun hs=>?_;clear hg)|clear U K)<;>conv=>whnf)
  exact AR (by simp[Lu,h])
 ·rintro r post σ ⟨L,rfl,rfl⟩ hs
  have hg:=ZZ p L gen;have hok:=look_ok h;have h16:=hok.many;have hgw:=No h;have hfm:=Kp h;cases h2:Jt p gen
  ·rw[h2]at hg
   conv=>whnf
   repeat'((first|apply st|(apply sq;intro K U)|(apply si;intro A B Y Z)|(apply Y;clear Z B Y A)|(apply U;clear U K)|refine ld ?_|refine FB fun σ hs=>?_|refine E2 ?_|refine hg.use ?_|(intro nn hnn;generalize hg:A6 _ nn _=σ;refine CW hg fun hs=>?_;clear hg)|clear U K)<;>conv=>whnf)
   exact AR (by simp[Lu,h,h2])
  rw[h2]at hg
  conv=>whnf
  repeat'((first|apply st|(apply sq;intro K U)|(apply si;intro A B Y Z)|(apply Y;clear Z B Y A)|(apply U;clear U K)|refine ld ?_|refine FB fun σ hs=>?_|refine D2 ?_|refine hg.use ?_|refine Pure.use (XW _ _ _) ?_|(intro nn hnn;generalize hg:A6 _ nn _=σ;refine CW hg fun hs=>?_;clear hg)|fail)<;>conv=>whnf)
  rename_i nr _ _ _ _ _ nO _ _ _;refine Sm p L gen h16 (nn:=nn) (fun s:List (Int×Int)×List (Int×Int)×V=>[.box nO [s.2.2],.own s.2.2 2 (pP s.2.1),.box nr [Fu p L],.map L (FL p s.1)]) (fun k s=>s.2.1=(List.range k).flatMap (KV p.methods.length (SP p gen))) ([],[],.l [] true) rfl ((Cx hs 2).perm (IK _ _ _ _)) ?_ ?_ ?_
  ·intro k s hlt hne hi
   rw[Hf,←hi,TH (fun j=>by simp[SP,hne]),Hj]
  ·clear hs hnn
   intro k s hlt hgk hi rest σ hs;have hck:A3 k=k:=AL (by omega);have hmk:A7 p (k:Int)=true:=by simp[A7];omega
   rw[←hck];refine Es (l:=[.box nO [s.2.2],.own s.2.2 2 (pP s.2.1),.box nr [Fu p L],.map L (FL p s.1)]++rest) rfl hs ?_;clear hs;intro σ hs
   conv=>whnf
   repeat'((first|apply st|(apply sq;intro K U)|(apply si;intro A B Y Z)|(apply Y;clear Z B Y A)|(apply U;clear U K)|refine ld ?_|refine FB fun σ hs=>?_|refine Pure.use (XW _ _ _) ?_|(intro nn hnn;generalize hg:A6 _ nn _=σ;refine CW hg fun hs=>?_;clear hg)|clear U K)<;>conv=>whnf)
   rename_i nm _ _ _ _ _;clear hnn;refine Sm p L gen h16 (nn:=nn) (fun s':List (Int×Int)×List (Int×Int)×V=> .box nm [eI (A3 k)]::([.box nO [s'.2.2],.own s'.2.2 2 (pP s'.2.1),.box nr [Fu p L],.map L (FL p s'.1)]++rest)) (fun j s'=>s'.2.1=(List.range k).flatMap (KV p.methods.length (SP p gen))++Lh (SP p gen) k j) s (by simp[Lh,hi]) hs ?_ ?_ ?_
   ·intro j s' hjlt hne hi'
    have:SP p gen k j=false:=by
     rw[←Bool.not_eq_true];exact fun e=>hne (di e).1.2
    rw[JO,this,hi'];simp
   ·clear hs hi
    intro j s' hjlt hgj hi' rest2 σ hs;have hcj:A3 j=j:=AL (by omega);have hmj:A7 p (j:Int)=true:=by simp[A7];omega
    have c4:Pure Tryz.prog 44 [Fu p L,eI (A3 k),eI (A3 j)] (.b (B3 p k j)):=by rw[hck,hcj];exact NV p L k j hmk hmj
    have c5:Bj Tryz.prog 54 [Fu p L,eI (A3 k),eI (A3 j)] [.map L (FL p s'.1)] fun r post=>r= .ret (.b (Df p k j))∧post= [.map L (FL p (Lr s'.1 (k,j)))]:=by rw[hck,hcj];exact H9 p L k j hok hgw hfm hmk hmj s'.1
    have c6:Bj Tryz.prog 54 [Fu p L,eI (A3 j),eI (A3 k)] [.map L (FL p (Lr s'.1 (k,j)))] fun r post=>r= .ret (.b (Df p j k))∧post= [.map L (FL p (Lr (Lr s'.1 (k,j)) (j,k)))]:=by rw[hck,hcj];exact H9 p L j k hok hgw hfm hmj hmk _
    generalize Lr (Lr s'.1 (k,j)) (j,k)=M2 at *;generalize Lr s'.1 (k,j)=M1 at *;have hoe:SP p gen k j=(decide (k<j)&&(B3 p k j&&(Df p k j&&Df p j k))):=by rw[SP,hgk];simp
    have hrs:=JO (SP p gen) k j;have hfl:=NS p.methods.length (SP p gen) k;have hrl:=Ri (SP p gen) k j;have hkk:k*p.methods.length≤16*16:=Nat.mul_le_mul (by omega) h16;have hll:s'.2.1.length<Ac∧(s'.2.1.length+1)*16≤140737488355328:=by rw[hi',PR];omega
    have hno:SP p gen k j=false→s'.2.1=(List.range k).flatMap (KV p.methods.length (SP p gen))++Lh (SP p gen) k (j+1):=fun e=>by rw[hrs,e,hi'];simp
    rw[←hcj];refine Es (l:= .box nm [eI (A3 k)]::([.box nO [s'.2.2],.own s'.2.2 2 (pP s'.2.1),.box nr [Fu p L],.map L (FL p s'.1)]++rest)++rest2) rfl hs ?_;clear hs;intro σ hs;by_cases hkj:k<j
    ·cases hal:B3 p k j<;>rw[hal]at c4
     ·conv=>whnf
      repeat'((first|apply st|(apply sq;intro K U)|(apply si;intro A B Y Z)|(apply Y;clear Z B Y A)|(apply U;clear U K)|refine⟨rfl,?_⟩|refine ld ?_|refine D2 ?_|refine c4.use ?_|(constructor<;>intro hc<;>(try rw[hc])<;>(replace hc:=bp hc)<;>(try simp(disch:=omega) only[BD,wrap64,AL]at hc)<;>try(exfalso;omega))|fail)<;>conv=>whnf)
      intro hn;exact⟨s',rfl,hno (by rw[hoe,hal];simp),hs.Ju hn⟩
     ·cases hi1:Df p k j<;>rw[hi1]at c5
      all_goals
       conv=>whnf
       repeat'((first|apply st|(apply sq;intro K U)|(apply si;intro A B Y Z)|(apply Y;clear Z B Y A)|refine⟨rfl,?_⟩|refine ld ?_|refine E2 ?_|refine c4.use ?_|(constructor<;>intro hc<;>(try rw[hc])<;>(replace hc:=bp hc)<;>(try simp(disch:=omega) only[BD,wrap64,AL]at hc)<;>try(exfalso;omega))|fail)<;>conv=>whnf)
       refine c5.use (rest:=_) (hs.front (j:=4) rfl) ?_;clear hs;rintro r post σ ⟨rfl,rfl⟩ hs
       conv=>whnf
       repeat'((first|apply st|(apply Y;clear Z B Y A)|(apply U;clear U K)|refine ld ?_|refine E2 ?_|refine D2 ?_|fail)<;>conv=>whnf)
      ·intro hn
       exact⟨(M1,s'.2.1,s'.2.2),rfl,hno (by rw[hoe,hi1];simp),(Sat.back (l:=(.box nm [eI (A3 k)]::([.box nO [s'.2.2],.own s'.2.2 2 (pP s'.2.1),.box nr [Fu p L],.map L (FL p M1)]++rest))++rest2) (j:=4) hs rfl).Ju hn⟩
      cases hi2:Df p j k<;>rw[hi2]at c6
      all_goals
       refine c6.use (rest:=_) hs ?_;clear hs;rintro r post σ ⟨rfl,rfl⟩ hs
       conv=>whnf
       repeat'((first|apply st|(apply si;intro A B Y Z)|(apply Y;clear Z B Y A)|(apply U;clear U K)|refine ld ?_|refine FB fun σ hs=>?_|refine E2 ?_|refine D2 ?_|refine aq (enc:=pI) (x:=((_:Int),(_:Int))) (fun v σ hs hsl=>?_) (hg:=N1)|fail)<;>conv=>whnf)
      ·intro hn
       exact⟨(M2,s'.2.1,s'.2.2),rfl,hno (by rw[hoe,hi2];simp),(Sat.back (l:=(.box nm [eI (A3 k)]::([.box nO [s'.2.2],.own s'.2.2 2 (pP s'.2.1),.box nr [Fu p L],.map L (FL p M2)]++rest))++rest2) (j:=4) hs rfl).Ju hn⟩
      ·intro hn
       refine⟨(M2,s'.2.1++[((k:Int),(j:Int))],v),rfl,?_,Sat.Ju ?_ hn⟩
       ·rw[hrs,show SP p gen k j=true by rw[hoe,hi1,hi2,hal];simp[hkj],hi',if_pos rfl,SS]
       ·rw[show((k:Int),(j:Int))=(A3 k,A3 j) by rw[hck,hcj]]
        exact Sat.back (l:=(.box nm [eI (A3 k)]::([.box nO [v],.own v 2 (pP (s'.2.1++[(A3 k,A3 j)])),.box nr [Fu p L],.map L (FL p M2)]++rest))++rest2) (j:=4) hs rfl
    ·conv=>whnf
     repeat'((first|apply st|(apply sq;intro K U)|(apply si;intro A B Y Z)|(apply Y;clear Z B Y A)|(apply U;clear U K)|refine⟨rfl,?_⟩|refine ld ?_|(constructor<;>intro hc<;>(try rw[hc])<;>(replace hc:=bp hc)<;>(try simp(disch:=omega) only[BD,wrap64,AL]at hc)<;>try(exfalso;omega))|fail)<;>conv=>whnf)
     intro hn;exact⟨s',rfl,hno (by rw[hoe,decide_eq_false hkj];rfl),hs.Ju hn⟩
   ·clear hs hi
    intro s' σ hi' hs;refine Fk hs fun σ hs=>?_
    conv=>whnf
    intro hn;exact⟨s',rfl,by rw[Hf];exact hi',(hs.less (Jp _ _)).Ju hn⟩
  ·clear hs hnn
   intro s σ hi hs;refine Fk hs fun σ hs=>?_
   conv=>whnf
   repeat'((first|(apply sq;intro K U)|(apply si;intro A B Y Z)|(apply U;clear U K)|refine ld ?_|fail)<;>conv=>whnf)
   refine(aH s.2.1 s.2.2 (by have:=NS p.methods.length (SP p gen) p.methods.length;have:p.methods.length*p.methods.length≤16*16:=Nat.mul_le_mul h16 h16;rw[hi];omega)).use (rest:=_) (hs.front (j:=1) rfl) ?_;clear hs;rintro r post σ ⟨rfl,rfl⟩ hs
   conv=>whnf
   repeat'((first|apply st|(apply Y;clear Z B Y A)|(apply U;clear U K)|fail)<;>conv=>whnf)
   exact AR (by simp[Lu,h,h2,RO,hi])
end Go.Gl
namespace Go.Gl
open Go.Proofs
abbrev xc:Pl:=⟨[],false,[4,3],[1,0],false,[5,6]⟩
abbrev xb:Pl:=⟨[],false,[4,3],[],true,[5,6]⟩
def p8:Ix PS [(4,[])] 0 [(3,0)]=(xc,0):=by kernel_rfl
def p7:Ix PS [(6,[])] 0 [(3,0)]=(xb,0):=by kernel_rfl
def p9:Ix PS [] 0 [(1,0)]=(oq,5):=by kernel_rfl
def p6:Hy PS [0,1,2]=(([],true),0):=by kernel_rfl
def p5:Gm PS 0 1=([(1,0),(2,0)],0):=by kernel_rfl
def pz:Lu PS 0=([],0):=by kernel_rfl
def pE (c:Int) (b b2:Bool):Pure Tryz.prog 20 [.a (BV PS),.l [[eI c,.l [] true]] b,eI 0,.l [[eI 3,eI 0]] b2] (vI (Ix PS [(c,[])] 0 [(3,0)]) true):=
 (U0 PS [(c,[])] false 0 [(3,0)] b2).arg (.cons (.refl _) (.cons (.l (fun h=>by cases h) (.cons (.cons (.refl _) (.cons CI .nil)) .nil)) (.cons (.refl _) (.cons (.refl _) .nil))))
attribute [local irreducible] BL A5 Aj AW AN Ai AV AX AO Ah AS AU BA BK Sat Ad BH Al W
set_option maxHeartbeats 4000000 in
def ee:Pure Tryz.prog 14 [] (.b true):=by
 have a1:=R5 PS 1 0;have a2:=R5 PS 1 2;have a3:=R5 PS 0 3;rw[j5]at a1;rw[j4]at a2;rw[j6]at a3;have k4:=fun b c=>pE 4 b c
 have k6:=fun b c=>pE 6 b c
 have k0:=fun b c=>U0 PS [] b 0 [(1,0)] c
 rw[p8]at k4;rw[p7]at k6;rw[p9]at k0;have ch:=fun b=>fe PS [0,1,2] b (by decide)
 rw[p6]at ch;have or:=eL PS 0 1;rw[p5]at or;have tw:=dh PS 0;rw[pz]at tw;have sp: ∀b c,Pure Tryz.prog 19 [.l (pP [(1,0),(2,0)]) b,.l (pP [(1,0),(2,0)]) c] (.b true):=fun b c=>Tv [(1,0),(2,0)] [(1,0),(2,0)] b c (by decide) (by decide)
 refine qy kZ ?_;have hs:=Sn
 conv=>whnf
 repeat'((first|apply st|(apply sq;intro K U)|(apply si;intro A B Y Z)|(apply Y;clear Z B Y A)|(apply U;clear U K)|refine⟨rfl,?_⟩|refine⟨kZ,?_⟩|refine ld ?_|refine DB fun σ hs=>?_|refine D2 ?_|refine Lq ?_|refine vg.use ?_|refine a1.use ?_|refine a2.use ?_|refine a3.use ?_|refine Pure.use (k4 _ _) ?_|refine Pure.use (k6 _ _) ?_|refine Pure.use (k0 _ _) ?_|refine Pure.use (ch _) ?_|refine or.use ?_|refine tw.use ?_|refine Pure.use (sp _ _) ?_|refine Pure.use (Uj xc _ _ _ _) ?_|refine Pure.use (Uj xb _ _ _ _) ?_|(constructor<;>intro hc<;>(try rw[hc])<;>(replace hc:=bp hc)<;>(try simp(disch:=omega) only[BD,wrap64,AL]at hc)<;>try(exfalso;omega))|(intro nn hnn;generalize hg:A6 _ nn _=σ;refine CW hg fun hs=>?_;clear hg)|clear U K)<;>conv=>whnf)
 all_goals first
  | exact AI rfl
  | (exfalso;simp at hc;done)
  | (exfalso;clear hc;rename_i hc;simp at hc;done)
end Go.Gl
