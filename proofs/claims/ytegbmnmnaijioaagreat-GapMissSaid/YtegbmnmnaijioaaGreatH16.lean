import Derived.Test.YtegbmnmnaijioaaGreatH5
import Derived.Test.YtegbmnmnaijioaaGreatH13
import Derived.Test.YtegbmnmnaijioaaGreatH15
set_option linter.all false
set_option linter.defProp false
noncomputable section
namespace Go.Gl
open Go.Proofs
structure wS where
 p:Prog
 gen:Int
 os:List Ob
 args:List (Int×Int)
abbrev Sp (c:wS):List V:=Be c.p++([eI c.gen]++([.l (c.os.map Gu) false]++([.l (pP c.args) false]++[])))
section
variable {H:Type} {enc:TypeId×Value→H} {W:World}
def xG:Qr enc Tryz.prog W 76 Sp:=fun n=>
 GH (Er Tryz.underlying76
  (fun n=>BK (c:=6) rfl (by kernel_rfl) (fun _=>rfl) (qp n)
   (BK (c:=1) rfl (by kernel_rfl) (fun _=>rfl) (K5 n) (BK (c:=1) rfl (by kernel_rfl) (fun _=>rfl) (xD n)
    (BK (c:=1) rfl (by kernel_rfl) (fun _=>rfl) (fX n) GI)))) (fun _=>(show _=9 from rfl).trans (by kernel_rfl)) n) (fun x=>⟨x.1,x.2.1,x.2.2.1,x.2.2.2.1⟩) fun _=>rfl
end
end Go.Gl
namespace Go.Gl
open Go.Proofs
attribute [local irreducible] A7 Ap Af AT AM Ae AS AU AL Ad AO AP Aw A1 Sat AX Az Ah W
def dM (c:wS) (m:Int):Pure Tryz.prog 50 [eI m,.rp (Sp c)] (.b (Dq c.p m&&(BG c.p m).kind==1)):=by
 refine Pure.fit (by kernel_rfl) fun hf=>?_
 have hM:=Mx;have c1:=iz c.p m;cases h:Dq c.p m<;>rw[h]at c1
 ·refine pK kZ ?_
  have hs:=Sn
  conv=>whnf
  repeat'((first|apply st|(apply sq;intro K U)|(apply si;intro A B Y Z)|(apply Y;clear Z B Y A)|(apply U;clear U K)|refine⟨kZ,?_⟩|refine c1.use ?_|fail)<;>conv=>whnf)
  all_goals exact AI rfl
 ·have hxP:=He h
  have hmr:=h;simp only[Dq,A9,Cf]at hmr;generalize BG c.p m=x at *;refine pK kZ ?_;have hs:=Sn
  conv=>whnf
  repeat'((first|apply st|(apply sq;intro K U)|(apply si;intro A B Y Z)|(apply Y;clear Z B Y A)|(apply U;clear U K)|refine⟨rfl,?_⟩|refine⟨kZ,?_⟩|refine MI ?_|refine c1.use ?_|fail)<;>conv=>whnf)
  all_goals exact AI rfl
set_option maxHeartbeats 4000000 in
def cg (c : wS) (c3:Pure Tryz.prog 17 [] (.b true)):Pure Tryz.prog 12 [.a (Sp c)] (.b true):=by
 refine Pure.fit (by kernel_rfl) fun hf=>?_
 have hM:=Mx;have c1:=oA c.p c.os false c.gen c.args false;cases h1:C8 c.p c.os c.gen c.args<;>rw[h1]at c1
 ·refine pN kZ ?_
  have hs:=Sn
  conv=>whnf
  repeat'((first|apply st|(apply sq;intro K U)|(apply si;intro A B Y Z)|(apply Y;clear Z B Y A)|(apply U;clear U K)|refine⟨kZ,?_⟩|refine Iw ?_|refine c1.use ?_|refine c3.use ?_|clear U K)<;>conv=>whnf)
  all_goals exact AI rfl
 have ha:=Xt h1;have hok:=look_ok ha.look;have c2:=dc c.p c.os false c.gen c.args false;rw[Lx,h1,if_pos rfl]at c2;dsimp only at c2;have hp16:=hok.many;refine pN kZ ?_;have hs:=Sn
 conv=>whnf
 repeat'((first|apply st|(apply sq;intro K U)|(apply si;intro A B Y Z)|(apply Y;clear Z B Y A)|(apply U;clear U K)|refine⟨rfl,?_⟩|refine⟨kZ,?_⟩|refine GS ?_|refine c1.use ?_|refine c2.use ?_|(constructor<;>intro hc<;>(try rw[hc])<;>(replace hc:=bp hc)<;>(try simp(disch:=omega) only[BT,wrap64,AN]at hc)<;>try(exfalso;omega))|fail)<;>conv=>whnf)
 refine C3 c.p.methods.length (fun k (n:Int)=>[(5,eI n),(41,eI (Bc k))]) (fun _ _=>[]) (fun k n=>n=av c.p c.gen k) 0 rfl (by simp[av,XA,Bk]) (hs.less (MJ _)) ?_;clear hs;rintro k n σ hk hn hs;have hck:Bc k=k:=AN (by omega);have hb:=ZN c.p c.gen k;rcases BU c.p.methods hk with⟨x,hx,hlt⟩|hke
 ·have hxe:=Zn hx
  have hst:=VR c.p c.gen k;rw[hxe]at hst;have hnp:=M3 x.fact;have c4:=Vj x.fact;generalize BV x.fact 24=d at *;have hw1:IntKind.i64.wrap (d+1)=d+1:=wrap64 (by omega) (by omega);have hw2:IntKind.i64.wrap (n+(d+1))=n+(d+1):=wrap64 (by omega) (by omega);by_cases hg:x.gen=c.gen
  ·rw[if_pos (DK.2 hg)]at hst
   conv=>whnf
   repeat'((first|apply st|(apply sq;intro K U)|(apply si;intro A B Y Z)|(apply Y;clear Z B Y A)|(apply U;clear U K)|refine⟨rfl,?_⟩|refine⟨kZ,?_⟩|refine ix ?_|refine ld ?_|refine Cg fun σ hs=>?_|(refine DR (fun hc=>?_)<;>(try rw[hc])<;>clear hc)|refine c4.use ?_|(constructor<;>intro hc<;>(try rw[hc])<;>(replace hc:=bp hc)<;>try(exfalso;omega))|(intro nn hnn;generalize hg:A5 _ nn _=σ;refine CN hg fun hs=>?_;clear hg)|clear U K)<;>conv=>whnf)
   all_goals try(exfalso;simp[hg]at hc;done)
   all_goals exact⟨hlt,n+(d+1),by first|rfl|(rw[hw1,hw2];rfl),by rw[hst,hn],hs.less (MJ _)⟩
  ·rw[if_neg (by simpa using hg)]at hst
   conv=>whnf
   repeat'((first|apply st|(apply sq;intro K U)|(apply si;intro A B Y Z)|(apply Y;clear Z B Y A)|(apply U;clear U K)|refine⟨rfl,?_⟩|refine⟨kZ,?_⟩|refine ix ?_|refine ld ?_|refine Cg fun σ hs=>?_|(refine DR (fun hc=>?_)<;>(try rw[hc])<;>clear hc)|(constructor<;>intro hc<;>(try rw[hc])<;>(replace hc:=bp hc)<;>try(exfalso;omega))|(intro nn hnn;generalize hg:A5 _ nn _=σ;refine CN hg fun hs=>?_;clear hg)|clear U K)<;>conv=>whnf)
   all_goals try(exfalso;simp[hg]at hc;done)
   all_goals exact⟨hlt,n,rfl,by rw[hst,hn],hs.less (MJ _)⟩
 ·rw [hke]at hn
  by_cases h12:12<n
  ·conv=>whnf
   repeat'((first|apply st|(apply sq;intro K U)|(apply si;intro A B Y Z)|(apply Y;clear Z B Y A)|(apply U;clear U K)|refine⟨rfl,?_⟩|(refine Ew (fun hc=>?_)<;>(try rw[hc])<;>clear hc)|refine c3.use ?_|(constructor<;>intro hc<;>(try rw[hc])<;>(replace hc:=bp hc)<;>try(exfalso;omega))|clear U K)<;>conv=>whnf)
   all_goals try(exfalso;simp at hc;omega)
   all_goals exact AI rfl
  ·have hsm:av c.p c.gen c.p.methods.length≤12:=by omega
   have hcm:=jm hsm;have hgen:KH c.p c.gen=true:=by rw[KH,ha.look,ha.ew];rfl
   have c5:=kL c.p c.gen fun _ hfm=>jw hfm (by rw[Kr _ 24 (by omega)];omega)
   rw[Ln,hgen,if_pos rfl]at c5;by_cases h8:(Hv c.p c.gen).length≤8
   ·rw [if_pos h8]at c5
    cases hfm:CA (AR c.p) (E4 c.p c.gen)<;>rw[hfm]at c5
    ·rw[if_neg (by decide)]at c5
     conv=>whnf
     repeat'((first|apply st|(apply sq;intro K U)|(apply si;intro A B Y Z)|(apply Y;clear Z B Y A)|(apply U;clear U K)|refine⟨rfl,?_⟩|refine⟨kZ,?_⟩|refine Cg fun σ hs=>?_|(refine Ew (fun hc=>?_)<;>(try rw[hc])<;>clear hc)|refine c3.use ?_|refine c5.use ?_|(constructor<;>intro hc<;>(try rw[hc])<;>(replace hc:=bp hc)<;>(try simp(disch:=omega) only[BT,wrap64,AN]at hc)<;>try(exfalso;omega))|(intro nn hnn;generalize hg:A5 _ nn _=σ;refine CN hg fun hs=>?_;clear hg)|clear U K)<;>conv=>whnf)
     all_goals try(exfalso;simp at hc;done)
     all_goals try(exfalso;simp at hc;omega)
     all_goals exact AI rfl
    ·rw[if_pos rfl]at c5
     dsimp only at c5
     have hsp:BQ (E4 c.p c.gen)≤c.args.length:=X2 (Int.natCast_nonneg _) fun m hm=>by
      have hmb:=gE (p:=c.p) (gen:=c.gen) m hm;have h4:=(Zm ha.look (DL (He hmb))).2.2.2;rw[Hv,XA]at hm;have hg:=(JS.1 hm).2;rw[DK.1 hg,←ha.len]at h4;exact h4
     obtain⟨q1,q2,q3⟩:=X5 hok.kT (Int.natCast_nonneg _) hfm hcm hsp
     have hnf:Al (AR c.p) (E4 c.p c.gen)=true:=by
      simp only[CA,A9]at hfm;exact hfm.2.2
     have hns:Al (AR c.p) (Bf (AR c.p) 200 (E4 c.p c.gen))=true:=by
      simp only[CA,A9]at q1;exact q1.2.2
     have hho:Ci (AR c.p) c.os c.args (Bf (AR c.p) 200 (E4 c.p c.gen))= !((Su c.p c.os c.gen c.args).any fun m=>Dq c.p m&&(BG c.p m).kind==1):=by
      rw[ie,←cS,←aB hok.kT ha.lA ha.wT _ hns q2,←aB hok.kT ha.lA ha.wT _ hnf hsp];exact q3 _ (rb hok.kT c.os c.args)
     have hgr:=ha.ew;simp only[Ju,A9,Cf]at hgr
     have hl13:1≤c.args.length∧c.args.length≤3:=by
      obtain⟨x,hx⟩: ∃x,c.p.C1[c.gen.toNat]? =some x:=⟨_,EN (by omega)⟩
      have hxd:c.p.C1.getD c.gen.toNat 0=x:=by rw[D9,hx];rfl
      have hh:=(Es ha.look).1;simp only[C4,A9,Cf,Ev]at hh;have:=hh.2.2.2.2.2 x (DL hx);have hl:=ha.len;rw[hxd]at hl;omega
     have hhd:Ia (AR c.p) c.os c.args=true:=by
      have h1':=h1;simp only[C8,A9]at h1';rw[Ia,h1'.2.1,decide_eq_true hl13.1,decide_eq_true hl13.2,h1'.2.2.2.2];rfl
     have c7:=Tx (AR c.p) (Uy ha.look) hok.kT c.os false c.args false _ q1 q2 hhd;have c6:Pure Tryz.prog 53 [.a (Be c.p)] (.a (BC (AR c.p))):=Pure.fit (by kernel_rfl) fun hf=>OC c.p (I6 hf.1) hok.ou hok.AK
     have c8:=N9 (g:=50) (fi:=[]) (ca:=[.rp (Sp c)]) (f:=fun m=>Dq c.p m&&(BG c.p m).kind==1) (xs:=Su c.p c.os c.gen c.args) true fun m _=>dM c m
     rw[hho]at c7;clear hho hns hnf q1 q2 q3 hsp hfm hcm hsm;generalize Bf (AR c.p) 200 (E4 c.p c.gen)=AE at *;generalize ((Su c.p c.os c.gen c.args).any fun m=>Dq c.p m&&(BG c.p m).kind==1)=B at *;cases B
     all_goals
      conv=>whnf
      repeat'((first|apply st|(apply sq;intro K U)|(apply si;intro A B Y Z)|(apply Y;clear Z B Y A)|(apply U;clear U K)|apply dr|refine rk ?_ ?_|exact fun s e=>by cases e;rfl|refine⟨rfl,?_⟩|refine⟨kZ,?_⟩|refine ld ?_|refine Cg fun σ hs=>?_|refine Iw ?_|(refine Ew (fun hc=>?_)<;>(try rw[hc])<;>clear hc)|refine c3.use ?_|refine c5.use ?_|refine c6.use ?_|refine c7.use ?_|refine c8.use ?_|(constructor<;>intro hc<;>(try rw[hc])<;>(replace hc:=bp hc)<;>(try simp(disch:=omega) only[BT,wrap64,AN]at hc)<;>try(exfalso;omega))|(intro nn hnn;generalize hg:A5 _ nn _=σ;refine CN hg fun hs=>?_;clear hg)|clear U K)<;>conv=>whnf)
      all_goals try(exfalso;simp at hc;done)
      all_goals try(exfalso;simp at hc;omega)
      all_goals exact AI rfl
   ·rw[if_neg h8]at c5
    conv=>whnf
    repeat'((first|apply st|(apply sq;intro K U)|(apply si;intro A B Y Z)|(apply Y;clear Z B Y A)|(apply U;clear U K)|refine⟨rfl,?_⟩|refine⟨kZ,?_⟩|refine Cg fun σ hs=>?_|(refine Ew (fun hc=>?_)<;>(try rw[hc])<;>clear hc)|refine c3.use ?_|refine c5.use ?_|(constructor<;>intro hc<;>(try rw[hc])<;>(replace hc:=bp hc)<;>(try simp(disch:=omega) only[BT,wrap64,AN]at hc)<;>try(exfalso;omega))|(intro nn hnn;generalize hg:A5 _ nn _=σ;refine CN hg fun hs=>?_;clear hg)|clear U K)<;>conv=>whnf)
    all_goals try(exfalso;simp at hc;done)
    all_goals try(exfalso;simp at hc;omega)
    all_goals exact AI rfl
end Go.Gl
namespace Go.Gl
variable {P:Program} {Λ:Nat→Prop} {σ:AH} {pu:List FuncId} {fz:List Nat}
end Go.Gl
namespace Go.Gl
def F2 {α β:Type} (R:α→β→Prop):List α→List β→Prop
 | [],l=>l= []
 | x::xs,l=> ∃y ys,R x y∧F2 R xs ys∧l=y::ys
section
variable {α β:Type} {R R':α→β→Prop}
def F2.nil:F2 R [] []:=rfl
def F2.cons {x:α} {y:β} {xs:List α} {ys:List β} (h:R x y) (h':F2 R xs ys):F2 R (x::xs) (y::ys):=⟨y,ys,h,h',rfl⟩
def F2.len: ∀ {xs:List α} {ys:List β},F2 R xs ys→ys.length=xs.length
 | [],_,h=>by cases h;rfl
 | _::_,_,⟨_,_,_,h,e⟩=>by subst e;simp[F2.len h]
def F2.get: ∀ {xs:List α} {ys:List β},F2 R xs ys→ ∀ {i:Nat} {x:α},xs[i]? =some x→ ∃y,ys[i]? =some y∧R x y
 | x::xs,_,⟨y,ys,h1,h2,e⟩,i,z,hi=>by
   subst e;cases i with
   | zero=>simp at hi;subst hi;exact⟨y,by simp,h1⟩
   | succ i=>simp at hi;simpa using F2.get h2 hi
def F2.mono (hm: ∀x y,R x y→R' x y): ∀ {xs:List α} {ys:List β},F2 R xs ys→F2 R' xs ys
 | [],_,h=>h
 | _::_,_,⟨y,ys,h1,h2,e⟩=>⟨y,ys,hm _ _ h1,F2.mono hm h2,e⟩
def F2.app: ∀ {xs xs':List α} {ys ys':List β},F2 R xs ys→F2 R xs' ys'→F2 R (xs++xs') (ys++ys')
 | [],_,_,_,h,h'=>by cases h;exact h'
 | _::_,_,_,_,⟨y,ys,h1,h2,e⟩,h'=>by subst e;exact⟨y,ys++_,h1,F2.app h2 h',rfl⟩
def F2.take: ∀ {xs:List α} {ys:List β},F2 R xs ys→ ∀n,F2 R (xs.take n) (ys.take n)
 | [],_,h,n=>by cases h;simp;rfl
 | _::_,_,⟨y,ys,h1,h2,e⟩,n=>by
   subst e;cases n with
   | zero=>exact rfl
   | succ n=>exact⟨y,_,h1,F2.take h2 n,rfl⟩
def F2.drop: ∀ {xs:List α} {ys:List β},F2 R xs ys→ ∀n,F2 R (xs.drop n) (ys.drop n)
 | [],_,h,n=>by cases h;simp;rfl
 | _::_,_,⟨y,ys,h1,h2,e⟩,n=>by
   subst e;cases n with
   | zero=>exact⟨y,ys,h1,h2,rfl⟩
   | succ n=>exact F2.drop h2 n
def F2.set: ∀ {xs:List α} {ys:List β},F2 R xs ys→ ∀(i:Nat) {x:α} {y:β},R x y→F2 R (xs.set i x) (ys.set i y)
 | [],_,h,i,_,_,_=>by cases h;simp;rfl
 | _::_,_,⟨y,ys,h1,h2,e⟩,i,_,_,h=>by
   subst e;cases i with
   | zero=>exact⟨_,_,h,h2,rfl⟩
   | succ i=>exact⟨_,_,h1,F2.set h2 i h,rfl⟩
def F2.rep {x:α} {y:β} (h:R x y): ∀n,F2 R (List.replicate n x) (List.replicate n y)
 | 0=>rfl
 | n+1=>⟨y,_,h,F2.rep h n,rfl⟩
def F2.mem: ∀ {xs:List α} {ys:List β},F2 R xs ys→ ∀ {y:β},y∈ys→ ∃x,x∈xs∧R x y
 | [],_,h,y,hy=>by cases h;cases hy
 | x ::_,_,⟨z,zs,h1,h2,e⟩,y,hy=>by
   subst e;rcases F7.1 hy with rfl|hy
   ·exact⟨x,.head _,h1⟩
   ·obtain⟨u,hu,hr⟩:=F2.mem h2 hy
    exact⟨u,.tail _ hu,hr⟩
def F2.fn (hf: ∀x y z,R x y→R x z→y=z): ∀ {xs:List α} {ys zs:List β},F2 R xs ys→F2 R xs zs→ys=zs
 | [],_,_,h,h'=>by cases h;cases h';rfl
 | _::_,_,_,⟨y,ys,h1,h2,e⟩,⟨z,zs,h3,h4,e'⟩=>by
   subst e;subst e';rw[hf _ _ _ h1 h3,F2.fn hf h2 h4]
end
abbrev Ren:=Nat→Option (Nat×Nat)
def Ren.le (ρ ρ':Ren):Prop:= ∀i m,ρ i=some m→ρ' i=some m
def Ren.le.refl (ρ:Ren):ρ.le ρ:=fun _ _ h=>h
def Ren.le.trans {a b c:Ren} (h:a.le b) (k:b.le c):a.le c:=fun i m e=>k i m (h i m e)
def bB (ρ:Ren):Fn→Fn→Prop
 | .yield i,f=> ∃m,ρ i=some m∧f= .yield m.1
 | fn,f=>f=fn
mutual
def RV (ρ:Ren):V→V→Prop
 | .p n off,v=> ∃m,ρ n=some m∧v= .p m.1 off
 | .sl n len _,v=> ∃m,ρ n=some m∧v= .sl m.1 len m.2
 | .sv n sz off len,v=> ∃m,ρ n=some m∧v= .sv m.1 sz off len
 | .pe n sz i off,v=> ∃m,ρ n=some m∧v= .pe m.1 sz i off
 | .m n,v=> ∃m,ρ n=some m∧v= .m m.1
 | .rp cs,v=> ∃cs',RL ρ cs cs'∧v= .rp cs'
 | .l es f,v=> ∃es',RR ρ es es'∧v= .l es' f
 | .f fn first cap,v=> ∃fn' first' cap',bB ρ fn fn'∧RL ρ first first'∧RL ρ cap cap'∧v= .f fn' first' cap'
 | .FJ t x,v=> ∃x',RV ρ x x'∧v= .FJ t x'
 | .a cs,v=> ∃cs',RL ρ cs cs'∧v= .a cs'
 | .t cs,v=> ∃cs',RL ρ cs cs'∧v= .t cs'
 | .b x,v=>v= .b x
 | .i k n,v=>v= .i k n
 | .s x,v=>v= .s x
 | .pn,v=>v= .pn
 | .mn,v=>v= .mn
 | .K6,v=>v= .K6
 | .Dv,v=>v= .Dv
 | .any,v=>v= .any
def RL (ρ:Ren):List V→List V→Prop
 | [],l=>l= []
 | x::xs,l=> ∃y ys,RV ρ x y∧RL ρ xs ys∧l=y::ys
def RR (ρ:Ren):List (List V)→List (List V)→Prop
 | [],l=>l= []
 | x::xs,l=> ∃y ys,RL ρ x y∧RR ρ xs ys∧l=y::ys
end
def Bl {ρ:Ren}: ∀ {xs ys:List V},RL ρ xs ys↔F2 (RV ρ) xs ys
 | [],_=>by simp only[RL,F2]
 | x::xs,l=>by
   simp only[RL,F2];constructor
   ·rintro⟨y,ys,h1,h2,rfl⟩;exact⟨y,ys,h1,Bl.1 h2,rfl⟩
   ·rintro⟨y,ys,h1,h2,rfl⟩;exact⟨y,ys,h1,Bl.2 h2,rfl⟩
def Fy {ρ:Ren}: ∀ {xs ys:List (List V)},RR ρ xs ys↔F2 (F2 (RV ρ)) xs ys
 | [],_=>by simp only[RR,F2]
 | x::xs,l=>by
   simp only[RR,F2];constructor
   ·rintro⟨y,ys,h1,h2,rfl⟩;exact⟨y,ys,Bl.1 h1,Fy.1 h2,rfl⟩
   ·rintro⟨y,ys,h1,h2,rfl⟩;exact⟨y,ys,Bl.2 h1,Fy.2 h2,rfl⟩
def bB.mono {ρ ρ':Ren} (h:ρ.le ρ') {f g:Fn} (k:bB ρ f g):bB ρ' f g:=by
 cases f<;>first|exact k|exact⟨_,h _ _ k.choose_spec.1,k.choose_spec.2⟩
mutual
def RV.mono {ρ ρ':Ren} (h:ρ.le ρ'): ∀(v v':V),RV ρ v v'→RV ρ' v v'
 | .p _ _,_,k| .sl _ _ _,_,k| .sv _ _ _ _,_,k| .pe _ _ _ _,_,k| .m _,_,k=>by
   simp only[RV]at k ⊢;obtain⟨m,h1,h2⟩:=k;exact⟨m,h _ _ h1,h2⟩
 | .rp cs,_,k=>by
   simp only[RV]at k ⊢;obtain⟨c,h1,h2⟩:=k;exact⟨c,RL.mono h _ _ h1,h2⟩
 | .a cs,_,k=>by
   simp only[RV]at k ⊢;obtain⟨c,h1,h2⟩:=k;exact⟨c,RL.mono h _ _ h1,h2⟩
 | .t cs,_,k=>by
   simp only[RV]at k ⊢;obtain⟨c,h1,h2⟩:=k;exact⟨c,RL.mono h _ _ h1,h2⟩
 | .l es f,_,k=>by
   simp only[RV]at k ⊢;obtain⟨c,h1,h2⟩:=k;exact⟨c,RR.mono h _ _ h1,h2⟩
 | .f fn a b,_,k=>by
   simp only[RV]at k ⊢;obtain⟨g,c,d,h1,h2,h3,h4⟩:=k;exact⟨g,c,d,h1.mono h,RL.mono h _ _ h2,RL.mono h _ _ h3,h4⟩
 | .FJ t x,_,k=>by
   simp only[RV]at k ⊢;obtain⟨c,h1,h2⟩:=k;exact⟨c,RV.mono h _ _ h1,h2⟩
 | .b _,_,k| .i _ _,_,k| .s _,_,k| .pn,_,k| .mn,_,k| .K6,_,k| .Dv,_,k| .any,_,k=>by
   simp only[RV]at k ⊢;exact k
def RL.mono {ρ ρ':Ren} (h:ρ.le ρ'): ∀(l l':List V),RL ρ l l'→RL ρ' l l'
 | [],_,k=>by simp only[RL]at k ⊢;exact k
 | x::xs,_,k=>by
   simp only[RL]at k ⊢;obtain⟨y,ys,h1,h2,h3⟩:=k;exact⟨y,ys,RV.mono h _ _ h1,RL.mono h _ _ h2,h3⟩
def RR.mono {ρ ρ':Ren} (h:ρ.le ρ'): ∀(l l':List (List V)),RR ρ l l'→RR ρ' l l'
 | [],_,k=>by simp only[RR]at k ⊢;exact k
 | x::xs,_,k=>by
   simp only[RR]at k ⊢;obtain⟨y,ys,h1,h2,h3⟩:=k;exact⟨y,ys,RL.mono h _ _ h1,RR.mono h _ _ h2,h3⟩
end
def bB.fn {ρ:Ren} {f g g':Fn} (h:bB ρ f g) (k:bB ρ f g'):g=g':=by
 cases f<;>first|(simp only[bB]at h k;rw[h,k];done)|skip
 simp only[bB]at h k;obtain⟨m,h1,rfl⟩:=h;obtain⟨m',h2,rfl⟩:=k;rw[h1]at h2;cases h2;rfl
mutual
def RV.fn {ρ:Ren}: ∀(v a b:V),RV ρ v a→RV ρ v b→a=b
 | .p _ _,_,_,k,k'| .sl _ _ _,_,_,k,k'| .sv _ _ _ _,_,_,k,k'| .pe _ _ _ _,_,_,k,k'| .m _,_,_,k,k'=>by
   simp only[RV]at k k';obtain⟨m,h1,rfl⟩:=k;obtain⟨m',h2,rfl⟩:=k';rw[h1]at h2;cases h2;rfl
 | .rp _,_,_,k,k'| .a _,_,_,k,k'| .t _,_,_,k,k'=>by
   simp only[RV]at k k';obtain⟨m,h1,rfl⟩:=k;obtain⟨m',h2,rfl⟩:=k';rw[RL.fn _ _ _ h1 h2]
 | .l _ _,_,_,k,k'=>by
   simp only[RV]at k k';obtain⟨m,h1,rfl⟩:=k;obtain⟨m',h2,rfl⟩:=k';rw[RR.fn _ _ _ h1 h2]
 | .f fn a b,_,_,k,k'=>by
   simp only[RV]at k k';obtain⟨g,c,d,h1,h2,h3,rfl⟩:=k;obtain⟨g',c',d',h1',h2',h3',rfl⟩:=k';rw[h1.fn h1',RL.fn _ _ _ h2 h2',RL.fn _ _ _ h3 h3']
 | .FJ t x,_,_,k,k'=>by
   simp only[RV]at k k';obtain⟨m,h1,rfl⟩:=k;obtain⟨m',h2,rfl⟩:=k';rw[RV.fn _ _ _ h1 h2]
 | .b _,_,_,k,k'| .i _ _,_,_,k,k'| .s _,_,_,k,k'| .pn,_,_,k,k'| .mn,_,_,k,k'| .K6,_,_,k,k'| .Dv,_,_,k,k'| .any,_,_,k,k'=>by
   simp only[RV]at k k';rw[k,k']
def RL.fn {ρ:Ren}: ∀(l a b:List V),RL ρ l a→RL ρ l b→a=b
 | [],_,_,k,k'=>by simp only[RL]at k k';rw[k,k']
 | x::xs,_,_,k,k'=>by
   simp only[RL]at k k';obtain⟨y,ys,h1,h2,rfl⟩:=k;obtain⟨z,zs,h3,h4,rfl⟩:=k';rw[RV.fn _ _ _ h1 h3,RL.fn _ _ _ h2 h4]
def RR.fn {ρ:Ren}: ∀(l a b:List (List V)),RR ρ l a→RR ρ l b→a=b
 | [],_,_,k,k'=>by simp only[RR]at k k';rw[k,k']
 | x::xs,_,_,k,k'=>by
   simp only[RR]at k k';obtain⟨y,ys,h1,h2,rfl⟩:=k;obtain⟨z,zs,h3,h4,rfl⟩:=k';rw[RL.fn _ _ _ h1 h3,RR.fn _ _ _ h2 h4]
end
def MZ:Fn→Bool
 | .yield _=>false
 | _=>true
mutual
def BO:V→Bool
 | .p _ _=>false
 | .sl _ _ _=>false
 | .sv _ _ _ _=>false
 | .pe _ _ _ _=>false
 | .m _=>false
 | .rp cs=>CI cs
 | .a cs=>CI cs
 | .t cs=>CI cs
 | .l es _=>RF es
 | .f fn a b=>MZ fn&&(CI a&&CI b)
 | .FJ _ x=>BO x
 | _=>true
def CI:List V→Bool
 | []=>true
 | x::xs=>BO x&&CI xs
def RF:List (List V)→Bool
 | []=>true
 | x::xs=>CI x&&RF xs
end
mutual
def RV.pure {ρ:Ren}: ∀(v:V),BO v=true→RV ρ v v
 | .p _ _,h| .sl _ _ _,h| .sv _ _ _ _,h| .pe _ _ _ _,h| .m _,h=>by simp[BO]at h
 | .rp cs,h| .a cs,h| .t cs,h=>by simp only[BO]at h;simp only[RV];exact⟨_,RL.pure cs h,rfl⟩
 | .l es f,h=>by simp only[BO]at h;simp only[RV];exact⟨_,RR.pure es h,rfl⟩
 | .f fn a b,h=>by
   simp only[BO,A9]at h;simp only[RV];refine⟨fn,a,b,?_,RL.pure a h.2.1,RL.pure b h.2.2,rfl⟩;cases fn<;>first|rfl|(simp[MZ]at h)
 | .FJ t x,h=>by simp only[BO]at h;simp only[RV];exact⟨_,RV.pure x h,rfl⟩
 | .b _,_| .i _ _,_| .s _,_| .pn,_| .mn,_| .K6,_| .Dv,_| .any,_=>by simp only[RV]
def RL.pure {ρ:Ren}: ∀(v:List V),CI v=true→RL ρ v v
 | [],_=>by simp only[RL]
 | x::xs,h=>by
   simp only[CI,A9]at h;simp only[RL];exact⟨x,xs,RV.pure x h.1,RL.pure xs h.2,rfl⟩
def RR.pure {ρ:Ren}: ∀(v:List (List V)),RF v=true→RR ρ v v
 | [],_=>by simp only[RR]
 | x::xs,h=>by
   simp only[RF,A9]at h;simp only[RR];exact⟨x,xs,RL.pure x h.1,RR.pure xs h.2,rfl⟩
end
def RV.kY {ρ:Ren} {v v':V} (h:RV ρ v v') (hp:BO v=true):v'=v:=RV.fn v _ _ h (RV.pure v hp)
mutual
def Ey:V→V→Bool
 | .b x,.b y=>x==y
 | .i k n,.i k' n'=>decide (k=k')&&decide (n=n')
 | .s x,.s y=>decide (x=y)
 | .pn,.pn=>true
 | .p n o,.p n' o'=>Nat.beq n n'&&Nat.beq o o'
 | .rp a,.rp b=>MW a b
 | .l a f,.l b g=>(f==g)&&bO a b
 | .sl n a b,.sl n' a' b'=>Nat.beq n n'&&(Nat.beq a a'&&Nat.beq b b')
 | .sv n a b c,.sv n' a' b' c'=>Nat.beq n n'&&(Nat.beq a a'&&(Nat.beq b b'&&Nat.beq c c'))
 | .pe n a b c,.pe n' a' b' c'=>Nat.beq n n'&&(Nat.beq a a'&&(Nat.beq b b'&&Nat.beq c c'))
 | .m n,.m n'=>Nat.beq n n'
 | .mn,.mn=>true
 | .f fn a b,.f fn' a' b'=>decide (fn=fn')&&(MW a a'&&MW b b')
 | .K6,.K6=>true
 | .FJ t v,.FJ t' v'=>Nat.beq t t'&&Ey v v'
 | .Dv,.Dv=>true
 | .a a,.a b=>MW a b
 | .t a,.t b=>MW a b
 | .any,.any=>true
 | _,_=>false
def MW:List V→List V→Bool
 | [],[]=>true
 | x::xs,y::ys=>Ey x y&&MW xs ys
 | _,_=>false
def bO:List (List V)→List (List V)→Bool
 | [],[]=>true
 | x::xs,y::ys=>MW x y&&bO xs ys
 | _,_=>false
end
def DD {a b:Nat} (h:Nat.beq a b=true):a=b:=UC h
mutual
def OW: ∀(a b:V),Ey a b=true→a=b
 | .b x,b,h=>by cases b<;>simp[Ey]at h;rw[h]
 | .i _ _,b,h=>by cases b<;>simp[Ey]at h;rw[h.1,h.2]
 | .s _,b,h=>by cases b<;>simp[Ey]at h;rw[h]
 | .pn,b,h=>by cases b<;>simp[Ey]at h;rfl
 | .p _ _,b,h=>by
   cases b<;>simp only[Ey,A9]at h<;>first|(rw[DD h.1,DD h.2];done)|cases h
 | .rp _,b,h=>by
   cases b<;>simp only[Ey]at h<;>first|(rw[G2 _ _ h];done)|cases h
 | .l _ _,b,h=>by
   cases b<;>simp only[Ey,A9,DK]at h<;>first|(rw[h.1,aU _ _ h.2];done)|cases h
 | .sl _ _ _,b,h=>by
   cases b<;>simp only[Ey,A9]at h<;>first|(rw[DD h.1,DD h.2.1,DD h.2.2];done)|cases h
 | .sv _ _ _ _,b,h=>by
   cases b<;>simp only[Ey,A9]at h<;>first|(rw[DD h.1,DD h.2.1,DD h.2.2.1,DD h.2.2.2];done)|cases h
 | .pe _ _ _ _,b,h=>by
   cases b<;>simp only[Ey,A9]at h<;>first|(rw[DD h.1,DD h.2.1,DD h.2.2.1,DD h.2.2.2];done)|cases h
 | .m _,b,h=>by
   cases b<;>simp only[Ey]at h<;>first|(rw[DD h];done)|cases h
 | .mn,b,h=>by cases b<;>simp[Ey]at h;rfl
 | .f _ _ _,b,h=>by
   cases b<;>simp only[Ey,A9,Cf]at h<;>first|(rw[h.1,G2 _ _ h.2.1,G2 _ _ h.2.2];done)|cases h
 | .K6,b,h=>by cases b<;>simp[Ey]at h;rfl
 | .FJ _ _,b,h=>by
   cases b<;>simp only[Ey,A9]at h<;>first|(rw[DD h.1,OW _ _ h.2];done)|cases h
 | .Dv,b,h=>by cases b<;>simp[Ey]at h;rfl
 | .a _,b,h=>by
   cases b<;>simp only[Ey]at h<;>first|(rw[G2 _ _ h];done)|cases h
 | .t _,b,h=>by
   cases b<;>simp only[Ey]at h<;>first|(rw[G2 _ _ h];done)|cases h
 | .any,b,h=>by cases b<;>simp[Ey]at h;rfl
def G2: ∀(a b:List V),MW a b=true→a=b
 | [],[],_=>rfl
 | x::xs,y::ys,h=>by
   simp only[MW,A9]at h;rw[OW _ _ h.1,G2 _ _ h.2]
 | [],_::_,h=>by simp[MW]at h
 | _::_,[],h=>by simp[MW]at h
def aU: ∀(a b:List (List V)),bO a b=true→a=b
 | [],[],_=>rfl
 | x::xs,y::ys,h=>by
   simp only[bO,A9]at h;rw[G2 _ _ h.1,aU _ _ h.2]
 | [],_::_,h=>by simp[bO]at h
 | _::_,[],h=>by simp[bO]at h
end
inductive EO where
 | cs (vs:List V)
 | arr (sz:Nat) (es:List (List V))
 | map (kvs:List (V×V))
 | loop (st:wG) (env:Env) (ps:List Nat) (a b:AY)
inductive Tr (α:Type) where
 | leaf
 | node (o:Option α) (l r:Tr α)
def Tr.get {α:Type}:Tr α→Nat→Option α
 | .leaf,_=>none
 | .node o l r,k=>match k with
   | 0=>o
   | k+1=>bif Nat.beq (k % 2) 0 then l.get (k / 2)else r.get (k / 2)
def Tr.put {α β:Type} (x:Option α):Nat→Tr α→Nat→(Tr α→β)→β
 | 0,t,_,K=>K t
 | d+1,t,k,K=>match k,t with
   | 0,.leaf=>K (.node x .leaf .leaf)
   | 0,.node _ l r=>K (.node x l r)
   | k+1,.leaf=>bif Nat.beq (k % 2) 0 then Tr.put x d .leaf (k / 2) fun l=>K (.node none l .leaf)else Tr.put x d .leaf (k / 2) fun r=>K (.node none .leaf r)
   | k+1,.node o l r=>bif Nat.beq (k % 2) 0 then Tr.put x d l (k / 2) fun l=>K (.node o l r)else Tr.put x d r (k / 2) fun r=>K (.node o l r)
def BF:Nat:=40
abbrev Tr.set {α:Type} (x:Option α) (d:Nat) (t:Tr α) (k:Nat):Tr α:=Tr.put x d t k id
def Tr.put_eq {α β:Type} {x:Option α}: ∀(d:Nat) (t:Tr α) (k:Nat) (K:Tr α→β),Tr.put x d t k K=K (Tr.set x d t k)
 | 0,t,k,K=>rfl
 | d + 1,t,k,K=>by
   unfold Tr.set;cases k with
   | zero=>cases t<;>rfl
   | succ k=>
     cases t<;>simp only[Tr.put]<;>cases Nat.beq (k % 2) 0<;>simp only[cond_true,cond_false]<;>rw[Tr.put_eq d,Tr.put_eq d _ _ (fun _=>_)]<;>rfl
def Tr.EC {α:Type} {x:Option α}: ∀(d:Nat) (t:Tr α) (k:Nat),k+1<2 ^ d→ ∀j,(Tr.set x d t k).get j=if j=k then x else t.get j
 | 0,_,k,h,_=>by simp at h
 | d + 1, t, k,h,j=>by
   have hp:2 ^ (d+1)=2*2 ^ d:=by rw[Nat.pow_succ];omega
   cases k with
   | zero=>cases t<;>cases j<;>simp[Tr.set,Tr.put,Tr.get]
   | succ k=>
     have hk:k / 2+1<2 ^ d:=by omega
     cases t with
     | leaf=>
       simp only[Tr.set,Tr.put];cases hb:Nat.beq (k % 2) 0 with
       | true=>
         simp only[cond_true];rw[Tr.put_eq];have hb':=DD hb;cases j with
         | zero=>simp[Tr.get]
         | succ j=>
           simp only[Tr.get,id];cases hj:Nat.beq (j % 2) 0 with
           | true=>
             have hj':=DD hj;simp only[cond_true];rw[Tr.EC d _ _ hk];simp only[Tr.get];by_cases e:j=k
             ·simp[e]
             ·rw[if_neg (by omega),if_neg (by omega)]
           | false=>
             simp only[cond_false];rw[if_neg (fun e=>by(have:j=k:=by omega);subst this;rw[hj]at hb;cases hb)]
       | false=>
         simp only[cond_false];rw[Tr.put_eq];have hb':=Nat.ne_of_beq_eq_false hb;cases j with
         | zero=>simp[Tr.get]
         | succ j=>
           simp only[Tr.get,id];cases hj:Nat.beq (j % 2) 0 with
           | false=>
             have hj':=Nat.ne_of_beq_eq_false hj;simp only[cond_false];rw[Tr.EC d _ _ hk];simp only[Tr.get];by_cases e:j=k
             ·simp[e]
             ·rw[if_neg (by omega),if_neg (by omega)]
           | true=>
             simp only[cond_true];rw[if_neg (fun e=>by(have:j=k:=by omega);subst this;rw[hj]at hb;cases hb)]
     | node o l r=>
       simp only[Tr.set,Tr.put];cases hb:Nat.beq (k % 2) 0 with
       | true=>
         simp only[cond_true];rw[Tr.put_eq];have hb':=DD hb;cases j with
         | zero=>simp[Tr.get]
         | succ j=>
           simp only[Tr.get,id];cases hj:Nat.beq (j % 2) 0 with
           | true=>
             have hj':=DD hj;simp only[cond_true];rw[Tr.EC d _ _ hk];by_cases e:j=k
             ·simp[e]
             ·rw[if_neg (by omega),if_neg (by omega)]
           | false=>
             simp only[cond_false];rw[if_neg (fun e=>by(have:j=k:=by omega);subst this;rw[hj]at hb;cases hb)]
       | false=>
         simp only[cond_false];rw[Tr.put_eq];have hb':=Nat.ne_of_beq_eq_false hb;cases j with
         | zero=>simp[Tr.get]
         | succ j=>
           simp only[Tr.get,id];cases hj:Nat.beq (j % 2) 0 with
           | false=>
             have hj':=Nat.ne_of_beq_eq_false hj;simp only[cond_false];rw[Tr.EC d _ _ hk];by_cases e:j=k
             ·simp[e]
             ·rw[if_neg (by omega),if_neg (by omega)]
           | true=>
             simp only[cond_true];rw[if_neg (fun e=>by(have:j=k:=by omega);subst this;rw[hj]at hb;cases hb)]
end Go.Gl
namespace Go.Gl
variable {P:Program} {ρ ρ':Ren} {σ:AH} {env env₀:Env}
structure St where
 nx:Nat
 t:Tr EO
def RK (ρ:Ren) (a b:V×V):Prop:=RV ρ a.1 b.1∧RV ρ a.2 b.2
def RBe (ρ:Ren) (a b:Nat×V):Prop:=b.1=a.1∧RV ρ a.2 b.2
abbrev RE (ρ:Ren):Env→Env→Prop:=F2 (RBe ρ)
abbrev K3 (ρ:Ren):List V→List V→Prop:=F2 (RV ρ)
abbrev dm (ρ:Ren):List (List V)→List (List V)→Prop:=F2 (F2 (RV ρ))
def RO (P:Program) (ρ:Ren) (cap:Nat):EO→O→Prop
 | .cs vs,o=> ∃vs',K3 ρ vs vs'∧o= .cs vs'
 | .arr sz es,o=> ∃es',dm ρ es es'∧o= .arr sz es' cap
 | .map kvs,o=> ∃kvs',F2 (RK ρ) kvs kvs'∧o= .map kvs'
 | .loop st env ps a b,o=> ∃env',RE ρ env env'∧o= .loop st env' (B6 P ps a b)
def MT:Nat:=1000000000
structure SR (P:Program) (ρ:Ren) (s:St) (σ:AH):Prop where
 get: ∀i o,s.t.get i=some o→ ∃m,ρ i=some m∧ ∃o',σ m.1=some o'∧RO P ρ m.2 o o'
 inj: ∀i j o o' m m',s.t.get i=some o→s.t.get j=some o'→ρ i=some m→ρ j=some m'→m.1=m'.1→i=j
 po: ∀i,s.nx≤i→ρ i=none
 lim:s.nx≤MT+1
def K3.mono (h:ρ.le ρ') {a b:List V} (k:K3 ρ a b):K3 ρ' a b:=F2.mono (fun _ _=>RV.mono h _ _) k
def dm.mono (h:ρ.le ρ') {a b:List (List V)} (k:dm ρ a b):dm ρ' a b:=F2.mono (fun _ _=>K3.mono h) k
def RE.mono (h:ρ.le ρ') {a b:Env} (k:RE ρ a b):RE ρ' a b:=F2.mono (fun _ _ k=>⟨k.1,RV.mono h _ _ k.2⟩) k
def RO.mono (h:ρ.le ρ') {c:Nat} {a:EO} {b:O} (k:RO P ρ c a b):RO P ρ' c a b:=by
 cases a with
 | cs vs=>obtain⟨v,h1,h2⟩:=k;exact⟨v,h1.mono h,h2⟩
 | arr sz es=>obtain⟨v,h1,h2⟩:=k;exact⟨v,h1.mono h,h2⟩
 | map kvs=>obtain⟨v,h1,h2⟩:=k;exact⟨v,F2.mono (fun _ _ k=>⟨RV.mono h _ _ k.1,RV.mono h _ _ k.2⟩) h1,h2⟩
 | loop st env ps a b=>obtain⟨v,h1,h2⟩:=k;exact⟨v,h1.mono h,h2⟩
def bH {k:Nat} (h:k≤MT):k+1<2 ^ BF:=by simp only[MT,BF]at *;omega
def SR.lt {s:St} (hs:SR P ρ s σ) {i:Nat} {m:Nat×Nat} (h:ρ i=some m):i≤MT:=by
 have h1:=hs.po i;have h2:=hs.lim;rcases Nat.lt_or_ge i s.nx with h3|h3
 ·omega
 ·rw[h1 h3]at h;cases h
def SR.new {s:St} (hs:SR P ρ s σ) (hl:s.nx≤MT) {n:Nat} (hn:σ n=none) (cap:Nat) {o:EO} {o':O} (ho:RO P ρ cap o o') :
    ∃ρ',ρ.le ρ'∧ρ' s.nx=some (n,cap)∧SR P ρ' ⟨s.nx+1,Tr.set (some o) BF s.t s.nx⟩ (A5 σ n o'):=by
 have hle:ρ.le (fun i=>if i=s.nx then some (n,cap)else ρ i):=fun i m h=>by
  have:i≠s.nx:=fun e=>by rw[hs.po i (by omega)]at h;cases h
  simp[this,h]
 refine⟨_,hle,by simp,⟨fun i o1 h1=>?_,fun i j o1 o2 m m' h1 h2 h3 h4 h5=>?_,fun i hi=>?_,by show s.nx+1≤_;omega⟩⟩
 ·rw[Tr.EC _ _ _ (bH hl)]at h1
  by_cases e:i=s.nx
  ·rw[if_pos e]at h1
   cases h1;exact⟨(n,cap),by simp[e],o',DQ _ _ _,ho.mono hle⟩
  ·rw[if_neg e]at h1
   obtain⟨m,h2,o2,h3,h4⟩:=hs.get i o1 h1;refine⟨m,by simp[e,h2],o2,?_,h4.mono hle⟩;rw[Cl _ _ (fun e'=>by rw[e',hn]at h3;cases h3)];exact h3
 ·rw[Tr.EC _ _ _ (bH hl)]at h1 h2
  by_cases e:i=s.nx<;>by_cases e':j=s.nx
  ·omega
  ·exfalso
   rw[if_neg e']at h2;simp only[e,if_true,IU]at h3;simp only[e',if_false]at h4;obtain⟨m2,h6,o3,h7,_⟩:=hs.get j o2 h2;rw[h6]at h4;cases h4;rw[←h5,←h3,hn]at h7;cases h7
  ·exfalso
   rw[if_neg e]at h1;simp only[e',if_true,IU]at h4;simp only[e,if_false]at h3;obtain⟨m2,h6,o3,h7,_⟩:=hs.get i o1 h1;rw[h6]at h3;cases h3;rw[h5,←h4,hn]at h7;cases h7
  ·rw[if_neg e]at h1
   rw[if_neg e']at h2;simp only[e,if_false]at h3;simp only[e',if_false]at h4;exact hs.inj i j o1 o2 m m' h1 h2 h3 h4 h5
 ·have hi':s.nx+1≤i:=hi
  have:i≠s.nx:=by omega
  simp only[this,if_false];exact hs.po i (by omega)
def SR.A5 {s:St} (hs:SR P ρ s σ) {i:Nat} {m:Nat×Nat} {o:EO} (hi:s.t.get i=some o) (hm:ρ i=some m) {o1:EO} {o1':O} (ho:RO P ρ m.2 o1 o1') :
    SR P ρ ⟨s.nx,Tr.set (some o1) BF s.t i⟩ (Gl.A5 σ m.1 o1'):=by
 have hl:=bH (hs.lt hm);refine⟨fun j o2 h1=>?_,fun j j' o2 o3 m1 m2 h1 h2 h3 h4 h5=>?_,hs.po,hs.lim⟩
 ·rw[Tr.EC _ _ _ hl]at h1
  by_cases e:j=i
  ·subst e
   rw[if_pos rfl]at h1;cases h1;exact⟨m,hm,o1',DQ _ _ _,ho⟩
  ·rw[if_neg e]at h1
   obtain⟨m1,h2,o3,h3,h4⟩:=hs.get j o2 h1;refine⟨m1,h2,o3,?_,h4⟩;rw[Cl _ _ (fun e'=>e (hs.inj j i o2 o m1 m h1 hi h2 hm e'))];exact h3
 ·rw[Tr.EC _ _ _ hl]at h1 h2
  have g1: ∃q,s.t.get j=some q:=by
   by_cases e:j=i
   ·exact⟨o,e ▸ hi⟩
   ·rw[if_neg e]at h1;exact⟨_,h1⟩
  have g2: ∃q,s.t.get j'=some q:=by
   by_cases e:j'=i
   ·exact⟨o,e ▸ hi⟩
   ·rw[if_neg e]at h2;exact⟨_,h2⟩
  obtain⟨q1,g1⟩:=g1;obtain⟨q2,g2⟩:=g2;exact hs.inj j j' q1 q2 m1 m2 g1 g2 h3 h4 h5
def SR.del {s:St} (hs:SR P ρ s σ) {i:Nat} {m:Nat×Nat} {o:EO} (hi:s.t.get i=some o) (hm:ρ i=some m) :
    SR P ρ ⟨s.nx,Tr.set none BF s.t i⟩ (Gl.del σ m.1):=by
 have hl:=bH (hs.lt hm)
 have sub: ∀j q,(Tr.set none BF s.t i).get j=some q→j≠i∧s.t.get j=some q:=fun j q h=>by
  rw[Tr.EC _ _ _ hl]at h;by_cases e:j=i
  ·rw[if_pos e]at h;cases h
  ·rw[if_neg e]at h;exact⟨e,h⟩
 refine⟨fun j o2 h1=>?_,fun j j' o2 o3 m1 m2 h1 h2 h3 h4 h5=>?_,hs.po,hs.lim⟩
 ·obtain⟨e,h1⟩:=sub j o2 h1
  obtain⟨m1,h2,o3,h3,h4⟩:=hs.get j o2 h1;refine⟨m1,h2,o3,?_,h4⟩;have:m1.1≠m.1:=fun e'=>e (hs.inj j i o2 o m1 m h1 hi h2 hm e')
  simp[Gl.del,this,h3]
 ·exact hs.inj j j' o2 o3 m1 m2 (sub _ _ h1).2 (sub _ _ h2).2 h3 h4 h5
def SR.at {s:St} (hs:SR P ρ s σ) {i:Nat} {m:Nat×Nat} {o:EO} (hi:s.t.get i=some o) (hm:ρ i=some m): ∃o',σ m.1=some o'∧RO P ρ m.2 o o':=by
 obtain⟨m',h1,h2⟩:=hs.get i o hi;rw[hm]at h1;cases h1;exact h2
def RE.get: ∀ {env env₀:Env},RE ρ env env₀→ ∀ {k:Nat} {v:V},Gl.get k env=some v→ ∃v',Gl.get k env₀=some v'∧RV ρ v v'
 | (j,u)::r,_,⟨y,ys,h1,h2,e⟩,k,v,h=>by
   subst e;obtain⟨j',u'⟩:=y;have e1:j'=j:=h1.1;subst e1;simp only[Gl.get]at h ⊢;cases hb:Nat.beq j' k with
   | true=>rw[hb]at h;simp only[cond_true]at h ⊢;cases h;exact⟨u',rfl,h1.2⟩
   | false=>rw[hb]at h;simp only[cond_false]at h ⊢;exact RE.get h2 h
def RE.wm: ∀ {env env₀:Env},RE ρ env env₀→ ∀ {k:Nat},Gl.get k env=none→Gl.get k env₀=none
 | [],_,h,k,_=>by cases h;rfl
 | (j,u)::r,_,⟨y,ys,h1,h2,e⟩,k,h=>by
   subst e;obtain⟨j',u'⟩:=y;have e1:j'=j:=h1.1;subst e1;simp only[Gl.get]at h ⊢;cases hb:Nat.beq j' k with
   | true=>rw[hb]at h;simp only[cond_true]at h;cases h
   | false=>rw[hb]at h;simp only[cond_false]at h ⊢;exact RE.wm h2 h
def Dg (env:Env):Bt→Option V
 | .t n=>get n env
 | .c v=>bif BO v then some v else none
def Ax (he:RE ρ env env₀) {x:Bt} {v:V} (h:Dg env x=some v): ∃v',ev env₀ x=some v'∧RV ρ v v':=by
 cases x with
 | t n=>exact he.get h
 | c u=>
   simp only[Dg]at h;cases hb:BO u with
   | true=>rw[hb]at h;cases h;exact⟨_,rfl,RV.pure _ hb⟩
   | false=>rw[hb]at h;cases h
def N3 (env:Env):List Bt→Option (List V)
 | []=>some []
 | x ::r=>match Dg env x with
   | some v=>match N3 env r with
     | some vs=>some (v::vs)
     | none=>none
   | none=>none
def IE (he:RE ρ env env₀): ∀ {l:List Bt} {vs:List V},N3 env l=some vs→ ∃vs',UM env₀ l=some vs'∧K3 ρ vs vs'
 | [],_,h=>by cases h;exact⟨[],rfl,rfl⟩
 | x ::r,vs,h=>by
   simp only[N3]at h;split at h
   ·rename_i v hv
    split at h
    ·rename_i us hu
     cases h;obtain⟨v',h1,h2⟩:=Ax he hv;obtain⟨vs',h3,h4⟩:=IE he hu;exact⟨v'::vs',by simp only[UM,h1,h3],F2.cons h2 h4⟩
    ·cases h
   ·cases h
def IW (k:IntKind) (n:Int):Int:=
 match k,n with
 | .i64,.ofNat m=>bif Nat.ble m 9223372036854775807 then .ofNat m else IntKind.i64.wrap (.ofNat m)
 | .u64,.ofNat m=>bif Nat.ble m 18446744073709551615 then .ofNat m else IntKind.u64.wrap (.ofNat m)
 | k,n=>k.wrap n
def wrap_u64 {n:Int} (h1:0≤n) (h2:n≤18446744073709551615):IntKind.u64.wrap n=n:=by
 have e:IntKind.u64.wrap n=n % 18446744073709551616:=by simp[IntKind.wrap,IntKind.bits,IntKind.signed]
 rw[e];omega
def ofNat_eq (m:Nat):Int.ofNat m=(m:Int):=rfl
def JG (k:IntKind) (n:Int):IW k n=k.wrap n:=by
 unfold IW;split
 ·rename_i m
  cases h:Nat.ble m 9223372036854775807 with
  | true=>
    have h':m≤9223372036854775807:=by rw[Nat.ble_eq]at h;exact h
    rw[cond_true,ofNat_eq];exact(wrap64 (by omega) (by omega)).symm
  | false=>rfl
 ·rename_i m
  cases h:Nat.ble m 18446744073709551615 with
  | true=>
    have h':m≤18446744073709551615:=by rw[Nat.ble_eq]at h;exact h
    rw[cond_true,ofNat_eq];exact(wrap_u64 (by omega) (by omega)).symm
  | false=>rfl
 ·rfl
def MN (a b:Int):Bool:=
 match a,b with
 | .ofNat m,.ofNat n=>Nat.ble (m+1) n
 | .negSucc _,.ofNat _=>true
 | .ofNat _,.negSucc _=>false
 | .negSucc m,.negSucc n=>Nat.ble (n+1) m
def PB (a b:Int):MN a b=decide (a<b):=by
 cases a<;>cases b<;>simp only[MN]
 ·rename_i m n
  rw[Hu,Nat.ble_eq,Cf];simp;omega
 ·rename_i m n
  symm;rw[decide_eq_false_iff_not];simp;omega
 ·rename_i m n
  symm;rw[Cf];simp;omega
 ·rename_i m n
  rw[Hu,Nat.ble_eq,Cf];omega
def OY (a b:Int):Bool:= !MN b a
def fo (a b:Int):OY a b=decide (a≤b):=by
 rw[OY,PB,Hu];simp
def a7 (a b:Int):Bool:=
 match a,b with
 | .ofNat m,.ofNat n=>Nat.beq m n
 | .negSucc m,.negSucc n=>Nat.beq m n
 | _,_=>false
def TC (a b:Int):a7 a b=(a==b):=by
 cases a<;>cases b<;>simp only[a7]
 ·rename_i m n
  rw[Hu,Nat.beq_eq,DK];exact⟨fun e=>by rw[e],fun e=>by cases e;rfl⟩
 ·rename_i m n
  rw[Hu,DK];exact⟨fun e=>(by cases e),fun e=>by cases e⟩
 ·rename_i m n
  rw[Hu,DK];exact⟨fun e=>(by cases e),fun e=>by cases e⟩
 ·rename_i m n
  rw[Hu,Nat.beq_eq,DK];exact⟨fun e=>by rw[e],fun e=>by cases e;rfl⟩
def Eb {a b:Int} (h:OY a b=true):a≤b:=by rw[fo]at h;exact of_decide_eq_true h
def Md {a b:Int} (h:MN a b=true):a<b:=by rw[PB]at h;exact of_decide_eq_true h
def O2 (op:BinOp) (k:IntKind) (x y:Int):Int:=
 match k,x,y with
 | .u64,.ofNat a,.ofNat b=>bif Nat.ble a 18446744073709551615&&Nat.ble b 18446744073709551615 then
  match op with
  | .and=> .ofNat (Nat.land a b)
  | .or=> .ofNat (Nat.lor a b)
  | op=>bits op .u64 (.ofNat a) (.ofNat b)
   else bits op .u64 (.ofNat a) (.ofNat b)
 | k,x,y=>bits op k x y
def jy (op:BinOp) (k:IntKind) (x y:Int):O2 op k x y=bits op k x y:=by
 unfold O2;split
 ·rename_i a b
  cases h:Nat.ble a 18446744073709551615&&Nat.ble b 18446744073709551615 with
  | false=>rfl
  | true=>
    simp only[A9]at h;have h1:=Nat.le_of_ble_eq_true h.1;have h2:=Nat.le_of_ble_eq_true h.2
    have e1:(BitVec.ofInt 64 (Int.ofNat a)).toNat=a:=by
     rw[show Int.ofNat a=(a:Int) from rfl,BitVec.ofInt_natCast,BitVec.toNat_ofNat];omega
    have e2:(BitVec.ofInt 64 (Int.ofNat b)).toNat=b:=by
     rw[show Int.ofNat b=(b:Int) from rfl,BitVec.ofInt_natCast,BitVec.toNat_ofNat];omega
    simp only[cond_true];split
    ·have e3:bits .and .u64 (Int.ofNat a) (Int.ofNat b)=IntKind.u64.wrap (((BitVec.ofInt 64 (Int.ofNat a))&&&(BitVec.ofInt 64 (Int.ofNat b))).toNat:Int):=rfl
     rw[e3,BitVec.toNat_and,e1,e2];have:a&&&b<2 ^ 64:=Nat.and_lt_two_pow _ (by omega);rw[wrap_u64 (by omega) (by omega)];rfl
    ·have e3:bits .or .u64 (Int.ofNat a) (Int.ofNat b)=IntKind.u64.wrap (((BitVec.ofInt 64 (Int.ofNat a))|||(BitVec.ofInt 64 (Int.ofNat b))).toNat:Int):=rfl
     rw[e3,BitVec.toNat_or,e1,e2];have:a|||b<2 ^ 64:=Nat.or_lt_two_pow (by omega) (by omega)
     rw[wrap_u64 (by omega) (by omega)];rfl
    ·rfl
 ·rfl
def Uk (op:BinOp) (x y:V):Option V:=
 match x,y with
 | .i ka a,.i kb b=>
   match op with
   | .add=>bif decide (ka=kb)then some (.i ka (IW ka (a+b)))else none
   | .sub=>bif decide (ka=kb)then some (.i ka (IW ka (a - b)))else none
   | .mul=>bif decide (ka=kb)then some (.i ka (IW ka (a*b)))else none
   | .quo=>bif decide (ka=kb)&& !a7 b 0 then some (.i ka (IW ka (a.tdiv b)))else none
   | .rem=>bif decide (ka=kb)&& !a7 b 0 then some (.i ka (a.tmod b))else none
   | .eql=>bif decide (ka=kb)then some (.b (a7 a b))else none
   | .neq=>bif decide (ka=kb)then some (.b (!a7 a b))else none
   | .lss=>bif decide (ka=kb)then some (.b (MN a b))else none
   | .leq=>bif decide (ka=kb)then some (.b (OY a b))else none
   | .gtr=>bif decide (ka=kb)then some (.b (MN b a))else none
   | .geq=>bif decide (ka=kb)then some (.b (OY b a))else none
   | .shl=>bif OY 0 b then some (.i ka (IW ka (a*2 ^ (min b.toNat ka.bits))))else none
   | .shr=>bif OY 0 b then some (.i ka (a.fdiv (2 ^ (min b.toNat ka.bits))))else none
   | op=>bif decide (ka=kb)then some (.i ka (O2 op ka a b))else none
 | _,_=>none
def AZ {α:Type} {c:Bool} {x:Option α} {v:α} (h:(bif c then x else none)=some v):c=true∧x=some v:=by
 cases c with
 | true=>exact⟨rfl,h⟩
 | false=>cases h
def na {op:BinOp} {x y v:V} (h:Uk op x y=some v):BO x=true∧BO y=true∧BO v=true∧ ∀K:V→Prop,K v→Uc op x y K:=by
 unfold Uk at h;split at h
 ·rename_i ka a kb b
  refine⟨rfl,rfl,?_⟩
  cases op<;>simp only at h<;>obtain⟨h1,h2⟩:=AZ h<;>cases h2<;>refine⟨rfl,fun K U=>?_⟩<;>
   (try simp only[A9,Cf,Bool.not_eq_true',TC,beq_eq_false_iff_ne]at h1)<;>
   (try simp only[JG,PB,fo,TC,jy]at U)<;>simp only[Uc]
  all_goals first
   | exact⟨h1,U⟩
   | exact⟨h1.1,h1.2,U⟩
   | exact⟨Eb h1,U⟩
 ·cases h
def Gk {v v':V} {cs:List V} (h:cellsOf v=some cs) (hv:RV ρ v v'): ∃cs',cellsOf v'=some cs'∧K3 ρ cs cs':=by
 cases v with
 | a cs0=>
   cases h;obtain⟨c,h1,rfl⟩:=hv;exact⟨c,rfl,Bl.1 h1⟩
 | t _=>cases h
 | any=>cases h
 | _ =>
   cases h
   have:cellsOf v'=some [v']:=by
    simp only[RV]at hv
    first
     | (rw[hv];rfl)
     | (obtain⟨_,_,hv⟩:=hv;rw[hv];rfl)
     | (obtain⟨_,_,_,_,_,_,hv⟩:=hv;rw[hv];rfl)
   exact⟨[v'],this,F2.cons hv F2.nil⟩
def mG {v v':V} (hv:RV ρ v v'):CO v'=CO v:=by
 cases v<;>simp only[RV]at hv<;>first
  | (rw[hv];done)
  | (obtain⟨_,_,hv⟩:=hv;rw[hv];rfl)
  | (obtain⟨_,_,_,_,_,_,hv⟩:=hv;rw[hv];rfl)
def aX {vs vs':List V} (h:vs.all CO=true) (hv:K3 ρ vs vs'):vs'.all CO=true:=by
 rw[Ev]at *;intro v hm;obtain⟨u,hu,hr⟩:=F2.mem hv hm;rw[mG hr];exact h u hu
def Ly {vs vs':List (List V)} (h:(vs.all fun e=>e.all CO)=true) (hv:dm ρ vs vs'): ∀e∈vs',∀v∈e,CO v=true:=by
 rw[Ev]at h;intro e he;obtain⟨u,hu,hr⟩:=F2.mem hv he;have:=aX (h u hu) hr
 rwa [Ev]at this
def OX {sz:Nat} {vs vs':List (List V)} (h:(vs.all fun e=>Nat.beq e.length sz)=true) (hv:dm ρ vs vs'): ∀e∈vs',e.length=sz:=by
 rw[Ev]at h;intro e he;obtain⟨u,hu,hr⟩:=F2.mem hv he;rw[hr.len];exact DD (h u hu)
def Li: ∀ {vc vc':List V} {cs cs':List V} {off:Nat},K3 ρ cs cs'→K3 ρ vc vc'→K3 ρ (putAt cs off vc) (putAt cs' off vc')
 | [],_,_,_,_,h,h'=>by cases h';exact h
 | _::_,_,_,_,off,h,⟨y,ys,h1,h2,e⟩=>by
   subst e;simp only[putAt];exact Li (h.set off h1) h2
def Uh (agg:Option Nat) (cs:List V) (off:Nat):Option V:=
 match agg with
 | none=>cs[off]?
 | some n=>bif Nat.ble (off+n) cs.length then some (.a ((cs.drop off).take n))else none
def LX {agg:Option Nat} {cs cs':List V} {off:Nat} {v:V} (h:Uh agg cs off=some v) (hc:K3 ρ cs cs') {K:V→Prop} (U: ∀v',RV ρ v v'→K v'):cut agg cs' off K:=by
 cases agg with
 | none=>
   obtain⟨y,h1,h2⟩:=hc.get h;simp only[cut,h1];exact U _ h2
 | some n=>
   obtain⟨h1,h2⟩:=AZ h;cases h2;refine⟨by rw[hc.len];exact Nat.le_of_ble_eq_true h1,U _ ?_⟩;simp only[RV];exact⟨_,Bl.2 ((hc.drop off).take n),rfl⟩
def NZ (s:St) (agg:Option Nat) (x:V):Option V:=
 match x with
 | .rp cs=>Uh agg cs 0
 | .p n off=>match s.t.get n with
   | some (.cs vs)=>Uh agg vs off
   | _=>none
 | .pe n sz i off=>match s.t.get n with
   | some (.arr sz' es)=>bif Nat.beq sz sz' then(match es[i]? with|some e=>Uh agg e off|none=>none)else none
   | _=>none
 | _=>none
def V7 {s:St} (hs:SR P ρ s σ) {agg:Option Nat} {x x' v:V} (h:NZ s agg x=some v) (hx:RV ρ x x') {K:V→Prop} (U: ∀v',RV ρ v v'→K v'):AX σ agg x' K:=by
 unfold NZ at h;split at h
 ·obtain⟨c,h1,rfl⟩:=hx
  exact LX h (Bl.1 h1) U
 ·obtain⟨m,h1,rfl⟩:=hx
  split at h
  ·rename_i vs hg
   obtain⟨o',h2,vs',h3,rfl⟩:=hs.at hg h1;simp only[AX,Ou,h2];exact LX h h3 U
  ·cases h
 ·obtain⟨m,h1,rfl⟩:=hx
  split at h
  ·rename_i es hg
   obtain⟨o',h2,es',h3,rfl⟩:=hs.at hg h1;obtain⟨h4,h5⟩:=AZ h;split at h5
   ·rename_i e he
    obtain⟨e',h6,h7⟩:=h3.get he;simp only[AX,Ov,h2,h6];exact⟨DD h4,LX h5 h7 U⟩
   ·cases h5
  ·cases h
 ·cases h
def PG (s : St) (sz:Nat) (a x:V):Option St:=
 match cellsOf x with
 | some vc =>bif Nat.beq vc.length sz&&vc.all CO then
  match a with
  | .p n off=>match s.t.get n with
    | some (.cs vs)=>bif Nat.ble (off+sz) vs.length then Tr.put (some (.cs (putAt vs off vc))) BF s.t n fun t=>some ⟨s.nx,t⟩else none
    | _=>none
  | .pe n s' i off=>match s.t.get n with
    | some (.arr s1 es)=>bif Nat.beq s' s1&&Nat.ble (off+sz) s' then
     (match es[i]? with|some e=>Tr.put (some (.arr s1 (es.set i (putAt e off vc)))) BF s.t n fun t=>some ⟨s.nx,t⟩|none=>none)else none
    | _=>none
  | _=>none
   else none
 | none=>none
def cz {s s':St} (hs:SR P ρ s σ) {sz:Nat} {a a' x x':V} (h:PG s sz a x=some s') (ha:RV ρ a a') (hx:RV ρ x x') {K:AH→Prop} (U: ∀σ',SR P ρ s' σ'→K σ'):AU σ sz a' x' K:=by
 unfold PG at h;split at h
 ·rename_i vc hvc
  obtain⟨vc',e1,e2⟩:=Gk hvc hx;obtain⟨h1,h2⟩:=AZ h;simp only[A9]at h1;simp only[AU,e1];refine⟨by rw[e2.len];exact DD h1.1,aX h1.2 e2,?_⟩;split at h2
  ·obtain⟨m,g1,rfl⟩:=ha
   split at h2
   ·rename_i vs hg
    obtain⟨o',g2,vs',g3,rfl⟩:=hs.at hg g1;obtain⟨h3,h4⟩:=AZ h2;rw[Tr.put_eq]at h4;cases h4;simp only[g2];exact⟨by rw[g3.len];exact Nat.le_of_ble_eq_true h3,U _ (hs.A5 hg g1 ⟨_,Li g3 e2,rfl⟩)⟩
   ·cases h2
  ·obtain⟨m,g1,rfl⟩:=ha
   split at h2
   ·rename_i es hg
    obtain⟨o',g2,vs',g3,rfl⟩:=hs.at hg g1;obtain⟨h3,h4⟩:=AZ h2;simp only[A9]at h3;split at h4
    ·rename_i e he
     rw[Tr.put_eq]at h4;cases h4;obtain⟨e',g4,g5⟩:=g3.get he;simp only[g2,g4];have e:=DD h3.1;subst e;exact⟨rfl,Nat.le_of_ble_eq_true h3.2,U _ (hs.A5 hg g1 ⟨_,g3.set _ (Li g5 e2),rfl⟩)⟩
    ·cases h4
   ·cases h2
  ·cases h2
 ·cases h
def TD (off:Nat) (x:V):Option V:=
 match x with
 | .rp cs=>some (.rp (cs.drop off))
 | .p n o=>some (.p n (o+off))
 | .pe n sz i o=>some (.pe n sz i (o+off))
 | _=>none
def dC {off:Nat} {x x' v:V} (h:TD off x=some v) (hx:RV ρ x x') {K:V→Prop} (U: ∀v',RV ρ v v'→K v'):KW off x' K:=by
 unfold TD at h;split at h
 ·obtain⟨c,h1,rfl⟩:=hx
  cases h;exact U _ (by simp only[RV];exact⟨_,Bl.2 ((Bl.1 h1).drop off),rfl⟩)
 ·obtain⟨m,h1,rfl⟩:=hx
  cases h;exact U _ (by simp only[RV];exact⟨m,h1,rfl⟩)
 ·obtain⟨m,h1,rfl⟩:=hx
  cases h;exact U _ (by simp only[RV];exact⟨m,h1,rfl⟩)
 ·cases h
def Mi (sz:Nat) (arr:Option Nat) (x i:V):Option V:=
 match i with
 | .i _ j=>bif OY 0 j then
  match arr,x with
  | none,.l es _=>match es[j.toNat]? with|some e=>bif Nat.beq e.length sz then some (.rp e)else none|none=>none
  | none,.sl n len _=>bif MN j len then some (.pe n sz j.toNat 0)else none
  | none,.sv n s off len=>bif Nat.beq s sz&&MN j len then some (.pe n sz (off+j.toNat) 0)else none
  | some m,.rp cs=>bif MN j m then some (.rp (cs.drop (j.toNat*sz)))else none
  | some m,.p n o=>bif MN j m then some (.p n (o+j.toNat*sz))else none
  | some m,.pe n s q o=>bif MN j m then some (.pe n s q (o+j.toNat*sz))else none
  | _,_=>none
   else none
 | _=>none
def dB {sz:Nat} {arr:Option Nat} {x x' i i' v:V} (h:Mi sz arr x i=some v) (hx:RV ρ x x') (hi:RV ρ i i') {K:V→Prop} (U: ∀v',RV ρ v v'→K v'):AT sz arr x' i' K:=by
 unfold Mi at h;split at h
 ·rename_i kj j
  simp only[RV]at hi;subst hi;obtain⟨h0,h⟩:=AZ h;have h0:=Eb h0;split at h
  ·obtain⟨es',h1,rfl⟩:=hx
   split at h
   ·rename_i e he
    obtain⟨h2,h3⟩:=AZ h;cases h3;obtain⟨e',h4,h5⟩:=(Fy.1 h1).get he;exact⟨h0,e',h4,by rw[h5.len];exact DD h2,U _ (by simp only[RV];exact⟨e',Bl.2 h5,rfl⟩)⟩
   ·cases h
  ·obtain⟨m,h1,rfl⟩:=hx
   obtain⟨h2,h3⟩:=AZ h;cases h3;exact⟨h0,Md h2,U _ (by simp only[RV];exact⟨m,h1,rfl⟩)⟩
  ·obtain⟨m,h1,rfl⟩:=hx
   obtain⟨h2,h3⟩:=AZ h;simp only[A9]at h2;cases h3;exact⟨DD h2.1,h0,Md h2.2,U _ (by simp only[RV];exact⟨m,h1,rfl⟩)⟩
  ·obtain⟨c,h1,rfl⟩:=hx
   obtain⟨h2,h3⟩:=AZ h;cases h3;exact⟨h0,Md h2,U _ (by simp only[RV];exact⟨_,Bl.2 ((Bl.1 h1).drop _),rfl⟩)⟩
  ·obtain⟨m,h1,rfl⟩:=hx
   obtain⟨h2,h3⟩:=AZ h;cases h3;exact⟨h0,Md h2,U _ (by simp only[RV];exact⟨m,h1,rfl⟩)⟩
  ·obtain⟨m,h1,rfl⟩:=hx
   obtain⟨h2,h3⟩:=AZ h;cases h3;exact⟨h0,Md h2,U _ (by simp only[RV];exact⟨m,h1,rfl⟩)⟩
  ·cases h
 ·cases h
def PI (len sz:Nat) (agg:Option Nat) (x i:V):Option V:=
 match x,i with
 | .a cs,.i _ j=>bif OY 0 j&&MN j len then Uh agg cs (j.toNat*sz)else none
 | _,_=>none
def dA {len sz:Nat} {agg:Option Nat} {x x' i i' v:V} (h:PI len sz agg x i=some v) (hx:RV ρ x x') (hi:RV ρ i i') {K:V→Prop} (U: ∀v',RV ρ v v'→K v'):KV len sz agg x' i' K:=by
 unfold PI at h;split at h
 ·simp only[RV]at hi
  subst hi;obtain⟨c,h1,rfl⟩:=hx;obtain⟨h2,h3⟩:=AZ h;simp only[A9]at h2;exact⟨Eb h2.1,Md h2.2,LX h3 (Bl.1 h1) U⟩
 ·cases h
def U4 (x i:V):Option V:=
 match x,i with
 | .s b,.i _ j=>bif OY 0 j then(match b.data.toList[j.toNat]? with|some c=>some (.i .u8 (.ofNat c.toNat))|none=>none)else none
 | _,_=>none
def jc {x x' i i' v:V} (h:U4 x i=some v) (hx:RV ρ x x') (hi:RV ρ i i') {K:V→Prop} (U: ∀v',RV ρ v v'→K v'):Ox x' i' K:=by
 unfold U4 at h;split at h
 ·simp only[RV]at hi hx
  subst hi;subst hx;obtain⟨h2,h3⟩:=AZ h;refine⟨Eb h2,?_⟩;split at h3
  ·rename_i c hc
   cases h3;rw[hc];exact U _ (by simp only[RV];rfl)
  ·cases h3
 ·cases h
def bK (x:V):Option V:=
 match x with
 | .l es _=>some (.i .i64 (.ofNat es.length))
 | .sl _ len _=>bif Nat.ble len Aj then some (.i .i64 (.ofNat len))else none
 | .sv _ _ _ len=>bif Nat.ble len Aj then some (.i .i64 (.ofNat len))else none
 | _=>none
def nX {x x' v:V} (h:bK x=some v) (hx:RV ρ x x') {K:V→Prop} (U: ∀v',RV ρ v v'→K v'):Az x' K:=by
 unfold bK at h;split at h
 ·obtain⟨es',h1,rfl⟩:=hx
  cases h;have:=(Fy.1 h1).len;exact U _ (by simp only[RV];rw[this];rfl)
 ·obtain⟨m,h1,rfl⟩:=hx
  obtain⟨h2,h3⟩:=AZ h;cases h3;exact⟨Nat.le_of_ble_eq_true h2,U _ (by simp only[RV];rfl)⟩
 ·obtain⟨m,h1,rfl⟩:=hx
  obtain⟨h2,h3⟩:=AZ h;cases h3;exact⟨Nat.le_of_ble_eq_true h2,U _ (by simp only[RV];rfl)⟩
 ·cases h
def U5 (s:St) (x:V):Option V:=
 match x with
 | .m n=>match s.t.get n with
   | some (.map kvs)=>bif Nat.ble kvs.length Aj then some (.i .i64 (.ofNat kvs.length))else none
   | _=>none
 | .mn=>some (.i .i64 0)
 | _=>none
def jd {s:St} (hs:SR P ρ s σ) {x x' v:V} (h:U5 s x=some v) (hx:RV ρ x x') {K:V→Prop} (U: ∀v',RV ρ v v'→K v'):J1 σ x' K:=by
 unfold U5 at h;split at h
 ·obtain⟨m,h1,rfl⟩:=hx
  split at h
  ·rename_i kvs hg
   obtain⟨h2,h3⟩:=AZ h;cases h3;obtain⟨o',g2,kvs',g3,rfl⟩:=hs.at hg h1;simp only[J1,g2];have:=g3.len;exact⟨by rw[this];exact Nat.le_of_ble_eq_true h2,U _ (by simp only[RV];rw[this];rfl)⟩
  ·cases h
 ·cases h
  simp only[RV]at hx;subst hx;exact U _ (by simp only[RV])
 ·cases h
def Ig (s:St) (sz:Nat) (y:V):Option (List (List V)):=
 match y with
 | .l ys _=>bif ys.all (fun e=>Nat.beq e.length sz)then some ys else none
 | .sl m len _=>match s.t.get m with
   | some (.arr s' ys)=>bif Nat.beq s' sz&&Nat.ble len ys.length then some (ys.take len)else none
   | _=>none
 | .sv m s1 off len=>match s.t.get m with
   | some (.arr s' ys)=>bif Nat.beq s1 sz&&(Nat.beq s' sz&&Nat.ble (off+len) ys.length)then some ((ys.drop off).take len)else none
   | _=>none
 | _=>none
def Hi {s:St} (hs:SR P ρ s σ) {sz:Nat} {y y':V} {ys:List (List V)} (h:Ig s sz y=some ys) (hy:RV ρ y y') {K:List (List V)→Prop} (U: ∀ys',dm ρ ys ys'→K ys'):rowsOf σ sz y' K:=by
 unfold Ig at h;split at h
 ·obtain⟨es',h1,rfl⟩:=hy
  obtain⟨h2,h3⟩:=AZ h;cases h3;exact⟨OX h2 (Fy.1 h1),U _ (Fy.1 h1)⟩
 ·obtain⟨m,h1,rfl⟩:=hy
  split at h
  ·rename_i es hg
   obtain⟨o',g2,es',g3,rfl⟩:=hs.at hg h1;obtain⟨h2,h3⟩:=AZ h;simp only[A9]at h2;cases h3;simp only[rowsOf,g2];exact⟨DD h2.1,by rw[g3.len];exact Nat.le_of_ble_eq_true h2.2,U _ (g3.take _)⟩
  ·cases h
 ·obtain⟨m,h1,rfl⟩:=hy
  split at h
  ·rename_i es hg
   obtain⟨o',g2,es',g3,rfl⟩:=hs.at hg h1;obtain⟨h2,h3⟩:=AZ h;simp only[A9]at h2;cases h3;simp only[rowsOf,g2];exact⟨DD h2.1,DD h2.2.1,by rw[g3.len];exact Nat.le_of_ble_eq_true h2.2.2,U _ ((g3.drop _).take _)⟩
  ·cases h
 ·cases h
def St.new {β:Type} (s:St) (o:EO) (K:Nat→St→Option β):Option β:=
 match s.nx with
 | 0=>Tr.put (some o) BF s.t 0 fun t=>K 0 ⟨1,t⟩
 | n+1=>bif Nat.ble (n+1) MT then Tr.put (some o) BF s.t (n+1) fun t=>K (n+1) ⟨n+2,t⟩else none
def St.H4 {β:Type} {s:St} {o:EO} {K:Nat→St→Option β} {x:β} (h:s.new o K=some x):s.nx≤MT∧K s.nx ⟨s.nx+1,Tr.set (some o) BF s.t s.nx⟩=some x:=by
 obtain⟨n,t⟩:=s;cases n with
 | zero=>simp only[St.new]at h;rw[Tr.put_eq]at h;exact⟨by simp[MT],h⟩
 | succ n=>
   simp only[St.new]at h;obtain⟨h1,h2⟩:=AZ h;rw[Tr.put_eq]at h2;exact⟨Nat.le_of_ble_eq_true h1,h2⟩
def Rr: ∀ {ys ys':List (List V)} {ns:List Int},FW ys=some ns→dm ρ ys ys'→FW ys'=some ns
 | [],ys',ns,h,hr=>by obtain rfl:ys'= []:=hr;exact h
 | e ::r,ys',ns,h,hr=>by
   unfold FW at h;split at h
   ·cases ‹_= []›
   ·rename_i n r' he
    cases he;obtain⟨e',r'',h1,h2,rfl⟩:=hr;obtain⟨v',l',h3,h4,rfl⟩:=h1;obtain rfl:l'= []:=h4;simp only[RV]at h3;subst h3;split at h
    ·rename_i l hl
     cases h;simp only[FW,Rr hl h2]
    ·cases h
   ·cases h
def eT (s:St) (x:V):Option V:=
 match Ig s 1 x with
 | some ys=>match FW ys with
   | some ns=>some (.s ⟨(ns.map fun n=>UInt8.ofNat n.toNat).toArray⟩)
   | none=>none
 | none=>none
def nU {s:St} (hs:SR P ρ s σ) {x x' v:V} (h:eT s x=some v) (hx:RV ρ x x') {K:V→Prop} (U: ∀v',RV ρ v v'→K v'):eN σ x' K:=by
 unfold eT at h;split at h
 ·rename_i ys hys
  split at h
  ·rename_i ns hn
   cases h;refine Hi hs hys hx fun ys' hr=>?_
   rw[Rr hn hr];exact U _ (by simp only[RV])
  ·cases h
 ·cases h
def wA (b L:Nat):Bool:=Nat.ble L 1073741824&&Nat.ble b 131072
def S0 {b L:Nat} (h:wA b L=true):L≤Aj∧L*b≤140737488355328:=by
 simp only[wA,A9]at h;have h1:=Nat.le_of_ble_eq_true h.1;have h2:=Nat.le_of_ble_eq_true h.2;have h3:L*b≤1073741824*131072:=Nat.mul_le_mul h1 h2;exact⟨by unfold Aj;omega,by omega⟩
def LY (b : Nat) (s:St) (sz:Nat) (x y:V):Option (V×St):=
 match Ig s sz y with
 | some ys =>bif ys.all (fun e=>e.all CO)then
  match x with
  | .l es full=>bif es.all (fun e=>Nat.beq e.length sz)&&wA b (es.length+ys.length)then
   match ys with
   | []=>some (.l es full,s)
   | z::zs=>bif full then s.new (.arr sz (es++z::zs)) fun i s'=>some (.sl i (es.length+(z::zs).length) 0,s')else none
    else none
  | .sl n len _=>match s.t.get n with
    | some (.arr s1 es)=>bif Nat.beq s1 sz&&(Nat.beq len es.length&&wA b (es.length+ys.length))then
     Tr.put none BF s.t n fun t=>St.new ⟨s.nx,t⟩ (.arr sz (es++ys)) fun i s'=>some (.sl i (es.length+ys.length) 0,s')else none
    | _=>none
  | _=>none
   else none
 | none=>none
def Yb {b : Nat} {s s':St} (hs:SR P ρ s σ) {sz:Nat} {x x' y y' v:V} (h:LY b s sz x y=some (v,s')) (hx:RV ρ x x') (hy:RV ρ y y') {K:V→AH→Prop}
    (U: ∀ρ' v' σ',ρ.le ρ'→RV ρ' v v'→SR P ρ' s' σ'→K v' σ'):AM b σ sz x' y' K:=by
 unfold LY at h;split at h
 ·rename_i ys hys
  obtain⟨h1,h2⟩:=AZ h;refine Hi hs hys hy fun ys' hr=>⟨Ly h1 hr,?_⟩
  split at h2
  ·rename_i es full
   obtain⟨es',g1,rfl⟩:=hx;have g1:=Fy.1 g1;obtain⟨h3,h4⟩:=AZ h2;simp only[A9]at h3;refine⟨OX h3.1 g1,by rw[g1.len,hr.len];exact S0 h3.2,fun e=>?_,fun e=>?_⟩
   ·split at h4
    ·cases h4
     exact U ρ _ _ (.refl _) (by simp only[RV];exact⟨es',Fy.2 g1,rfl⟩) hs
    ·subst e
     have:=hr.len;simp at this
   ·split at h4
    ·cases hr
     exact absurd rfl e
    ·rename_i z zs
     obtain⟨h5,h6⟩:=AZ h4;obtain⟨h7,h8⟩:=St.H4 h6;cases h8;refine⟨h5,fun n cap hn hc=>?_⟩;obtain⟨ρ',q1,q2,q3⟩:=hs.new h7 hn cap (o:= .arr sz (es++z::zs)) (o':= .arr sz (es'++ys') cap) ⟨_,g1.app hr,rfl⟩;exact U ρ' _ _ q1 (by simp only[RV];exact⟨_,q2,by rw[g1.len,hr.len]⟩) q3
  ·rename_i n len
   obtain⟨m,g1,rfl⟩:=hx;split at h2
   ·rename_i s1 es hg
    obtain⟨o',g2,es',g3,rfl⟩:=hs.at hg g1;obtain⟨h3,h4⟩:=AZ h2;simp only[A9]at h3;rw[Tr.put_eq]at h4;obtain⟨h5,h6⟩:=St.H4 h4;cases h6;have e1:=DD h3.1;subst e1;simp only[g2];refine⟨trivial,trivial,by rw[g3.len];exact DD h3.2.1,by rw[g3.len,hr.len];exact S0 h3.2.2,fun n' cap' hn hc=>?_⟩;obtain⟨ρ',q1,q2,q3⟩:=(hs.del hg g1).new h5 hn cap' (o:= .arr s1 (es++ys)) (o':= .arr s1 (es'++ys') cap') ⟨_,g3.app hr,rfl⟩;exact U ρ' _ _ q1 (by simp only[RV];exact⟨_,q2,by rw[g3.len,hr.len]⟩) q3
   ·cases h2
  ·cases h2
 ·cases h
def U7 (b:Nat) (s:St) (sz:Nat) (x y:V):Option V:=
 match Ig s sz y with
 | some ys=>bif ys.all (fun e=>e.all CO)then
  match x with
  | .l es full=>bif es.all (fun e=>Nat.beq e.length sz)&&(wA b (es.length+ys.length)&&(full||ys.isEmpty))then some (.l (es++ys) false)else none
  | _=>none
   else none
 | none=>none
def jf {b:Nat} {s:St} (hs:SR P ρ s σ) {sz:Nat} {x x' y y' v:V} (h:U7 b s sz x y=some v) (hx:RV ρ x x') (hy:RV ρ y y') {K:V→Prop} (U: ∀v',RV ρ v v'→K v'):Ae b σ sz x' y' K:=by
 unfold U7 at h;split at h
 ·rename_i ys hys
  obtain⟨h1,h2⟩:=AZ h;refine Hi hs hys hy fun ys' hr=>⟨Ly h1 hr,?_⟩
  split at h2
  ·rename_i es full
   obtain⟨es',g1,rfl⟩:=hx;have g1:=Fy.1 g1;obtain⟨h3,h4⟩:=AZ h2;simp only[A9,F6]at h3;cases h4;refine⟨OX h3.1 g1,by rw[g1.len,hr.len];exact S0 h3.2.1,fun e=>?_,U _ (by simp only[RV];exact⟨_,Fy.2 (g1.app hr),rfl⟩)⟩;rcases h3.2.2 with h|h
   ·exact h
   ·have:ys= []:=by simpa using h
    subst this;cases hr;exact absurd rfl e
  ·cases h2
 ·cases h
def lF (s:St) (sz:Nat) (ys:List (List V)) (n off len:Nat):Option (V×St):=
 match s.t.get n with
 | some (.arr s1 es)=>bif Nat.beq s1 sz&&Nat.ble (off+len) es.length then
  Tr.put (some (.arr s1 (es.take off++(ys.take (min ys.length len)++es.drop (off+min ys.length len))))) BF s.t n fun t=>some (.i .i64 (.ofNat (min ys.length len)),⟨s.nx,t⟩)else none
 | _=>none
def aH {s s':St} (hs:SR P ρ s σ) {sz n off len:Nat} {ys ys':List (List V)} (hr:dm ρ ys ys') {m:Nat×Nat} (hm:ρ n=some m) {v:V} (h:lF s sz ys n off len=some (v,s')) {K:V→AH→Prop}
    (U: ∀v' σ',RV ρ v v'→SR P ρ s' σ'→K v' σ'):Oe σ sz ys' m.1 off len K:=by
 unfold lF at h;split at h
 ·rename_i s1 es hg
  obtain⟨o',g2,es',g3,rfl⟩:=hs.at hg hm;obtain⟨h3,h4⟩:=AZ h;simp only[A9]at h3;rw[Tr.put_eq]at h4;cases h4;simp only[Oe,g2];refine⟨DD h3.1,by rw[g3.len];exact Nat.le_of_ble_eq_true h3.2,?_⟩;rw[hr.len];exact U _ _ (by simp only[RV];rfl) (hs.A5 hg hm ⟨_,((g3.take off).app ((hr.take _).app (g3.drop _))),rfl⟩)
 ·cases h
def U6 (s:St) (sz:Nat) (x y:V):Option (V×St):=
 match Ig s sz y with
 | some ys=>bif ys.all (fun e=>e.all CO)then
  match x with
  | .sl n len _=>lF s sz ys n 0 len
  | .sv n s1 off len=>bif Nat.beq s1 sz then lF s sz ys n off len else none
  | _=>none
   else none
 | none=>none
def je {s s':St} (hs:SR P ρ s σ) {sz:Nat} {x x' y y' v:V} (h:U6 s sz x y=some (v,s')) (hx:RV ρ x x') (hy:RV ρ y y') {K:V→AH→Prop}
    (U: ∀v' σ',RV ρ v v'→SR P ρ s' σ'→K v' σ'):Ad σ sz x' y' K:=by
 unfold U6 at h;split at h
 ·rename_i ys hys
  obtain⟨h1,h2⟩:=AZ h;refine Hi hs hys hy fun ys' hr=>⟨Ly h1 hr,?_⟩
  split at h2
  ·obtain⟨m,g1,rfl⟩:=hx
   exact aH hs hr g1 h2 U
  ·obtain⟨m,g1,rfl⟩:=hx
   obtain⟨h3,h4⟩:=AZ h2;exact⟨DD h3,aH hs hr g1 h4 U⟩
  ·cases h2
 ·cases h
def Uj (o:Option V) (d:Int):Option Int:=
 match o with
 | none=>some d
 | some (.i _ n)=>some n
 | _=>none
def oV (ρ:Ren):Option V→Option V→Prop
 | none,o=>o=none
 | some v,o=> ∃v',RV ρ v v'∧o=some v'
def JY {o o':Option V} {d n:Int} (h:Uj o d=some n) (ho:oV ρ o o') {K:Int→Prop} (U:K n):Ql o' d K:=by
 unfold Uj at h;split at h
 ·cases h;cases ho;exact U
 ·obtain⟨v',h1,rfl⟩:=ho
  simp only[RV]at h1;subst h1;cases h;exact U
 ·cases h
def PH (s : St) (sz:Nat) (x:V) (lo hi mx:Option V):Option (V×St):=
 match x with
 | .l es full=>match Uj hi (.ofNat es.length),Uj lo 0 with
   | some h,some l=>bif es.all (fun e=>Nat.beq e.length sz)&&(OY 0 l&&(OY l h&&OY h (.ofNat es.length)))then
    match mx with
    | none=>some (.l ((es.take h.toNat).drop l.toNat) (full&&a7 h (.ofNat es.length)),s)
    | some (.i _ m)=>bif a7 m h then some (.l ((es.take h.toNat).drop l.toNat) true,s)else none
    | _=>none
     else none
   | _,_=>none
 | .sl n len _=>match Uj hi (.ofNat len),Uj lo 0 with
   | some h,some l=>bif OY 0 l&&(OY l h&&OY h (.ofNat len))then
    match mx with
    | none=>some (.sv n sz l.toNat (h - l).toNat,s)
    | some (.i _ m)=>match s.t.get n with
      | some (.arr s1 es)=>bif a7 m h&&(a7 h (.ofNat len)&&(a7 l 0&&(Nat.beq s1 sz&&Nat.beq len es.length)))then Tr.put none BF s.t n fun t=>St.new ⟨s.nx,t⟩ (.arr s1 es) fun i s'=>some (.sl i len 0,s')else none
      | _=>none
    | _=>none
     else none
   | _,_=>none
 | .sv n s1 off len=>match Uj hi (.ofNat len),Uj lo 0,mx with
   | some h,some l,none=>bif Nat.beq s1 sz&&(OY 0 l&&(OY l h&&OY h (.ofNat len)))then some (.sv n sz (off+l.toNat) (h - l).toNat,s)else none
   | _,_,_=>none
 | _=>none
def TB {a b:Int} (h:a7 a b=true):a=b:=by rw[TC]at h;simpa using h
def c0 {s s':St} (hs:SR P ρ s σ) {sz:Nat} {x x' v:V} {lo hi mx lo' hi' mx':Option V} (h:PH s sz x lo hi mx=some (v,s')) (hx:RV ρ x x') (h1:oV ρ lo lo') (h2:oV ρ hi hi') (h3:oV ρ mx mx') {K:V→AH→Prop}
    (U: ∀ρ' v' σ',ρ.le ρ'→RV ρ' v v'→SR P ρ' s' σ'→K v' σ'):AS σ sz x' lo' hi' mx' K:=by
 unfold PH at h;split at h
 ·rename_i es full
  obtain⟨es',g1,rfl⟩:=hx;have g1:=Fy.1 g1;split at h
  ·rename_i hh ll e1 e2
   obtain⟨h4,h5⟩:=AZ h;simp only[A9]at h4;refine⟨OX h4.1 g1,?_⟩;rw[g1.len];refine JY e1 h2 ?_;refine JY e2 h1 ?_;refine⟨Eb h4.2.1,Eb h4.2.2.1,Eb h4.2.2.2,?_⟩;split at h5
   ·cases h3
    cases h5;refine U ρ _ _ (.refl _) ?_ hs;simp only[RV];refine⟨_,Fy.2 ((g1.take _).drop _),?_⟩;congr 1;rw[TC];congr 1
   ·obtain⟨v',q1,rfl⟩:=h3
    simp only[RV]at q1;subst q1;obtain⟨h6,h7⟩:=AZ h5;cases h7;exact⟨TB h6,U ρ _ _ (.refl _) (by simp only[RV];exact⟨_,Fy.2 ((g1.take _).drop _),rfl⟩) hs⟩
   ·cases h5
  ·cases h
 ·rename_i n len
  obtain⟨m,g1,rfl⟩:=hx;split at h
  ·rename_i hh ll e1 e2
   obtain⟨h4,h5⟩:=AZ h;simp only[A9]at h4;simp only[AS];refine JY e1 h2 ?_;refine JY e2 h1 ?_;refine⟨Eb h4.1,Eb h4.2.1,Eb h4.2.2,?_⟩;split at h5
   ·cases h3
    cases h5;exact U ρ _ _ (.refl _) (by simp only[RV];exact⟨m,g1,rfl⟩) hs
   ·obtain⟨v',q1,rfl⟩:=h3
    simp only[RV]at q1;subst q1;split at h5
    ·rename_i s1 es hg
     obtain⟨o',g2,es',g3,rfl⟩:=hs.at hg g1;obtain⟨h6,h7⟩:=AZ h5;simp only[A9]at h6;rw[Tr.put_eq]at h7;obtain⟨h8,h9⟩:=St.H4 h7;cases h9;simp only[g2];have h10:=DD h6.2.2.2.2;refine⟨TB h6.1,TB h6.2.1,TB h6.2.2.1,DD h6.2.2.2.1,trivial,by rw[g3.len];exact h10,.inr ?_⟩;obtain⟨ρ',q1,q2,q3⟩:=(hs.del hg g1).new h8 (De σ m.1) n (o:= .arr s1 es) (o':= .arr s1 es' n) ⟨es',g3,rfl⟩
     have e:Gl.A5 (Gl.del σ m.1) m.1 (.arr s1 es' n)=Gl.A5 σ m.1 (.arr s1 es' n):=by
      funext k;by_cases hk:k=m.1
      ·simp[Gl.A5,hk]
      ·simp[Gl.A5,Gl.del,hk]
     rw[e]at q3;exact U ρ' _ _ q1 (by simp only[RV];exact⟨_,q2,rfl⟩) q3
    ·cases h5
   ·cases h5
  ·cases h
 ·obtain⟨m,g1,rfl⟩:=hx
  split at h
  ·rename_i hh ll e1 e2
   cases h3;obtain⟨h4,h5⟩:=AZ h;simp only[A9]at h4;cases h5;simp only[AS];refine JY e1 h2 ?_;refine JY e2 h1 ?_;exact⟨Eb h4.2.1,Eb h4.2.2.1,Eb h4.2.2.2,DD h4.1,trivial,U ρ _ _ (.refl _) (by simp only[RV];exact⟨m,g1,rfl⟩) hs⟩
  ·cases h
 ·cases h
def MD: ∀ {cs ds:List V} {t:Bool},B1 cs ds=some t→CI cs=true∧CI ds=true
 | [],[],_,_=>⟨rfl,rfl⟩
 | x ::xs,y::ys,t,h=>by
   cases x<;>cases y<;>simp only[B1]at h<;>first|cases h|skip
   split at h
   ·obtain⟨a,h1,_⟩:=Ak h
    obtain⟨h2,h3⟩:=MD h1;exact⟨by simp[CI,BO,h2],by simp[CI,BO,h3]⟩
   ·cases h
 | [],_::_,_,h=>by simp[B1]at h
 | x::xs,[],_,h=>by cases x<;>simp[B1]at h
def lE {cs cs':List V} (h:K3 ρ cs cs') (hp:CI cs=true):cs'=cs:=RL.fn cs _ _ (Bl.2 h) (RL.pure cs hp)
def eW (len:Nat) (neg:Bool) (x y:V):Option V:=
 match x,y with
 | .a cs,.a ds=>bif Nat.beq cs.length len then(match B1 cs ds with|some t=>some (.b (bif neg then !t else t))|none=>none)else none
 | _,_=>none
def nZ {len:Nat} {neg:Bool} {x x' y y' v:V} (h:eW len neg x y=some v) (hx:RV ρ x x') (hy:RV ρ y y') {K:V→Prop} (U: ∀v',RV ρ v v'→K v'):Sk len neg x' y' K:=by
 unfold eW at h;split at h
 ·rename_i cs ds
  obtain⟨cs',g1,rfl⟩:=hx;obtain⟨ds',g2,rfl⟩:=hy;obtain⟨h1,h2⟩:=AZ h;split at h2
  ·rename_i t ht
   cases h2;obtain⟨p1,p2⟩:=MD ht;have e1:=lE (Bl.1 g1) p1;have e2:=lE (Bl.1 g2) p2;subst e1;subst e2;simp only[Sk,h1,ht];exact U _ (by simp only[RV])
  ·cases h2
 ·cases h
def eV (kind:Nat) (neg:Bool) (x:V):Option V:=
 match kind,x with
 | 0,.pn=>some (.b (!neg))
 | 0,.rp _=>some (.b neg)
 | 0,.p _ _=>some (.b neg)
 | 0,.pe _ _ _ _=>some (.b neg)
 | 1,.sl _ _ _=>some (.b neg)
 | 1,.l (_::_) _=>some (.b neg)
 | 2,.Dv=>some (.b (!neg))
 | 2,.FJ _ _=>some (.b neg)
 | 3,.mn=>some (.b (!neg))
 | 3,.m _=>some (.b neg)
 | 4,.K6=>some (.b (!neg))
 | 4,.f _ _ _=>some (.b neg)
 | _,_=>none
def nY {kind:Nat} {neg:Bool} {x x' v:V} (h:eV kind neg x=some v) (hx:RV ρ x x') {K:V→Prop} (U: ∀v',RV ρ v v'→K v'):Iz kind neg x' K:=by
 unfold eV at h;split at h
 ·simp only[RV]at hx;subst hx;cases h;exact U _ (by simp only[RV])
 ·obtain⟨_,_,rfl⟩:=hx;cases h;exact U _ (by simp only[RV])
 ·obtain⟨_,_,rfl⟩:=hx;cases h;exact U _ (by simp only[RV])
 ·obtain⟨_,_,rfl⟩:=hx;cases h;exact U _ (by simp only[RV])
 ·obtain⟨_,_,rfl⟩:=hx;cases h;exact U _ (by simp only[RV])
 ·obtain⟨es',g1,rfl⟩:=hx
  cases h;obtain⟨y,ys,_,_,rfl⟩:=Fy.1 g1;exact⟨fun e=>(by cases e),fun _=>U _ (by simp only[RV])⟩
 ·simp only[RV]at hx;subst hx;cases h;exact U _ (by simp only[RV])
 ·obtain⟨_,_,rfl⟩:=hx;cases h;exact U _ (by simp only[RV])
 ·simp only[RV]at hx;subst hx;cases h;exact U _ (by simp only[RV])
 ·obtain⟨_,_,rfl⟩:=hx;cases h;exact U _ (by simp only[RV])
 ·simp only[RV]at hx;subst hx;cases h;exact U _ (by simp only[RV])
 ·obtain⟨_,_,_,_,_,_,rfl⟩:=hx;cases h;exact U _ (by simp only[RV])
 ·cases h
def JK (s:St) (sz:Nat) (z:List V) (x y:V):Option (V×St):=
 match x,y with
 | .i _ n,.i _ m=>bif OY 0 n&&(OY n m&&(Nat.ble m.toNat 1073741824&&CI z))then s.new (.arr sz (List.replicate n.toNat z)) fun i s'=>some (.sl i n.toNat 0,s')else none
 | _,_=>none
def Wt {s s':St} (hs:SR P ρ s σ) {sz:Nat} {z:List V} {x x' y y' v:V} (h:JK s sz z x y=some (v,s')) (hx:RV ρ x x') (hy:RV ρ y y') {K:V→AH→Prop}
    (U: ∀ρ' v' σ',ρ.le ρ'→RV ρ' v v'→SR P ρ' s' σ'→K v' σ'):AL σ sz z x' y' K:=by
 unfold JK at h;split at h
 ·rename_i k1 n k2 m
  simp only[RV]at hx hy;subst hx;subst hy;obtain⟨h1,h2⟩:=AZ h;simp only[A9]at h1;obtain⟨h3,h4⟩:=St.H4 h2;cases h4;have h5:=Eb h1.1;have h7:=Eb h1.2.1;have h6:m.toNat≤1073741824:=Nat.le_of_ble_eq_true h1.2.2.1;refine⟨h5,h7,by omega,fun id hid=>?_⟩;obtain⟨ρ',q1,q2,q3⟩:=hs.new h3 hid m.toNat (o:= .arr sz (List.replicate n.toNat z)) (o':= .arr sz (List.replicate n.toNat z) m.toNat) ⟨_,F2.rep (Bl.1 (RL.pure z h1.2.2.2)) _,rfl⟩;exact U ρ' _ _ q1 (by simp only[RV];exact⟨_,q2,rfl⟩) q3
 ·cases h
def Nn: ∀ {l:List IntKind} {cs:List V},Dl l cs=true→CI cs=true
 | [],[],_=>rfl
 | q::l,x::cs,h=>by
   cases x<;>simp only[Dl]at h<;>first|cases h|skip
   simp only[A9]at h;simp[CI,BO,Nn h.2]
 | [],_::_,h=>by simp[Dl]at h
 | _::_,[],h=>by simp[Dl]at h
def Fe {ks:KS} {v:V} (h:BW ks v=true):BO v=true:=by
 unfold BW at h;split at h
 ·rfl
 ·exact Nn h
 ·rfl
 ·cases h
def Rw {ks:KS} {key:V}: ∀ {kvs kvs':List (V×V)},(kvs.all fun kv=>BW ks kv.1)=true→F2 (RK ρ) kvs kvs'→oV ρ (C6 key kvs) (C6 key kvs')
 | [],_,_,h=>by cases h;rfl
 | (k,v)::r,_,ha,⟨y,ys,h1,h2,e⟩=>by
   subst e;obtain⟨k',v'⟩:=y;simp only[SZ,A9]at ha;have e1:k'=k:=RV.kY h1.1 (Fe ha.1);subst e1;simp only[C6];cases En key k' with
   | true=>exact⟨v',h1.2,rfl⟩
   | false=>exact Rw ha.2 h2
def Vo {ks:KS} {key x x':V} (hp:BO key=true) (hx:RV ρ x x'): ∀ {kvs kvs':List (V×V)},(kvs.all fun kv=>BW ks kv.1)=true→F2 (RK ρ) kvs kvs'→F2 (RK ρ) (Em key x kvs) (Em key x' kvs')
 | [],_,_,h=>by cases h;exact F2.cons ⟨RV.pure key hp,hx⟩ F2.nil
 | (k,v)::r,_,ha,⟨y,ys,h1,h2,e⟩=>by
   subst e;obtain⟨k',v'⟩:=y;simp only[SZ,A9]at ha;have e1:k'=k:=RV.kY h1.1 (Fe ha.1);subst e1;simp only[Em];cases En key k' with
   | true=>exact F2.cons ⟨RV.pure key hp,hx⟩ h2
   | false=>exact F2.cons h1 (Vo hp hx ha.2 h2)
def Zs {ks:KS} {kvs kvs':List (V×V)} (ha:(kvs.all fun kv=>BW ks kv.1)=true) (h:F2 (RK ρ) kvs kvs'): ∀kv∈kvs',BW ks kv.1=true:=fun kv hm=>by
 obtain⟨u,hu,hr⟩:=F2.mem h hm;rw[Ev]at ha;have h1:=ha u hu;rw[RV.kY hr.1 (Fe h1)];exact h1
def LW (s:St) (ks:KS) (z:V) (ok:Bool) (vm vk:V):Option V:=
 bif BW ks vk&&BO z then
  match vm with
  | .m n=>match s.t.get n with
    | some (.map kvs)=>bif kvs.all (fun kv=>BW ks kv.1)then some (found z ok (C6 vk kvs))else none
    | _=>none
  | .mn=>some (found z ok none)
  | _=>none
 else none
def V2 {z:V} {ok:Bool} (hz:BO z=true) {o o':Option V} (h:oV ρ o o'):RV ρ (found z ok o) (found z ok o'):=by
 cases o with
 | none=>
   cases h;cases ok with
   | true=>simp only[found,cond_true,RV];exact⟨_,Bl.2 (F2.cons (RV.pure z hz) (F2.cons (RV.pure _ rfl) F2.nil)),rfl⟩
   | false=>exact RV.pure z hz
 | some v=>
   obtain⟨v',h1,rfl⟩:=h;cases ok with
   | true=>simp only[found,cond_true,RV];exact⟨_,Bl.2 (F2.cons h1 (F2.cons (RV.pure _ rfl) F2.nil)),rfl⟩
   | false=>exact h1
def Ya {s:St} (hs:SR P ρ s σ) {ks:KS} {z:V} {ok:Bool} {vm vm' vk vk' v:V} (h:LW s ks z ok vm vk=some v) (hm:RV ρ vm vm') (hk:RV ρ vk vk') {K:V→Prop} (U: ∀v',RV ρ v v'→K v'):AO σ ks z ok vm' vk' K:=by
 unfold LW at h;obtain⟨h1,h2⟩:=AZ h;simp only[A9]at h1;have e:=RV.kY hk (Fe h1.1);subst e;refine⟨h1.1,?_⟩;split at h2
 ·obtain⟨m,g1,rfl⟩:=hm
  split at h2
  ·rename_i kvs hg
   obtain⟨o',g2,kvs',g3,rfl⟩:=hs.at hg g1;obtain⟨h3,h4⟩:=AZ h2;cases h4;simp only[g2];exact⟨Zs h3 g3,U _ (V2 h1.2 (Rw h3 g3))⟩
  ·cases h2
 ·simp only[RV]at hm
  subst hm;cases h2;exact U _ (V2 h1.2 rfl)
 ·cases h2
def LV (s:St) (ks:KS) (vm vk vv:V):Option St:=
 bif BW ks vk then
  match vm with
  | .m n=>match s.t.get n with
    | some (.map kvs)=>bif kvs.all (fun kv=>BW ks kv.1)then Tr.put (some (.map (Em vk vv kvs))) BF s.t n fun t=>some ⟨s.nx,t⟩else none
    | _=>none
  | _=>none
 else none
def YZ {s s':St} (hs:SR P ρ s σ) {ks:KS} {vm vm' vk vk' vv vv':V} (h:LV s ks vm vk vv=some s') (hm:RV ρ vm vm') (hk:RV ρ vk vk') (hv:RV ρ vv vv') {K:AH→Prop} (U: ∀σ',SR P ρ s' σ'→K σ') :
    AP σ ks vm' vk' vv' K:=by
 unfold LV at h;obtain⟨h1,h2⟩:=AZ h;have e:=RV.kY hk (Fe h1);subst e;refine⟨h1,?_⟩;split at h2
 ·obtain⟨m,g1,rfl⟩:=hm
  split at h2
  ·rename_i kvs hg
   obtain⟨o',g2,kvs',g3,rfl⟩:=hs.at hg g1;obtain⟨h3,h4⟩:=AZ h2;rw[Tr.put_eq]at h4;cases h4;simp only[g2];exact⟨Zs h3 g3,U _ (hs.A5 hg g1 ⟨_,Vo (Fe h1) hv h3 g3,rfl⟩)⟩
  ·cases h2
 ·cases h2
def Mj (env:Env):List V→List (Nat×Nat×Bt)→Option (List V)
 | cs,[]=>some cs
 | cs,(off,sz,x)::r=>
   match Dg env x with
   | some v=>match cellsOf v with
     | some vc=>bif Nat.beq vc.length sz&&Nat.ble (off+sz) cs.length then Mj env (putAt cs off vc) r else none
     | none=>none
   | none=>none
def SH (he:RE ρ env env₀): ∀ {ps:List (Nat×Nat×Bt)} {cs cs' cs1:List V},Mj env cs ps=some cs1→K3 ρ cs cs'→ ∃cs1',J6 env₀ cs' ps=some cs1'∧K3 ρ cs1 cs1'
 | [],_,cs',_,h,hc=>by cases h;exact⟨cs',rfl,hc⟩
 | (off,sz,x)::r,cs,cs',cs1,h,hc=>by
   simp only[Mj]at h;split at h
   ·rename_i v hv
    split at h
    ·rename_i vc hvc
     obtain⟨h1,h2⟩:=AZ h;obtain⟨v',e1,e2⟩:=Ax he hv;obtain⟨vc',e3,e4⟩:=Gk hvc e2;obtain⟨c,e5,e6⟩:=SH he h2 (Li hc e4);refine⟨c,?_,e6⟩;simp only[J6,e1,e3];rw[e4.len,hc.len,h1];exact e5
    ·cases h
   ·cases h
def Mk (env:Env) (sz:Nat):List (List V)→List (Nat×Bt)→Option (List (List V))
 | es,[]=>some es
 | es,(i,x)::r=>
   match Dg env x with
   | some v=>match cellsOf v with
     | some vc=>bif Nat.beq vc.length sz&&Nat.blt i es.length then Mk env sz (es.set i vc) r else none
     | none=>none
   | none=>none
def SI (he:RE ρ env env₀) {sz:Nat}: ∀ {ps:List (Nat×Bt)} {cs cs' cs1:List (List V)},Mk env sz cs ps=some cs1→dm ρ cs cs'→ ∃cs1',I7 env₀ sz cs' ps=some cs1'∧dm ρ cs1 cs1'
 | [],_,cs',_,h,hc=>by cases h;exact⟨cs',rfl,hc⟩
 | (i, x)::r,cs,cs',cs1,h,hc=>by
   simp only[Mk]at h;split at h
   ·rename_i v hv
    split at h
    ·rename_i vc hvc
     obtain⟨h1,h2⟩:=AZ h;obtain⟨v',e1,e2⟩:=Ax he hv;obtain⟨vc',e3,e4⟩:=Gk hvc e2;obtain⟨c,e5,e6⟩:=SI he h2 (hc.set i e4);refine⟨c,?_,e6⟩;simp only[I7,e1,e3];rw[e4.len,hc.len,h1];exact e5
    ·cases h
   ·cases h
end Go.Gl
