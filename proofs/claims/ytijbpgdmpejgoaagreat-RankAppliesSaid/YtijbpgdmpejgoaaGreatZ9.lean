import Derived.Test.YtijbpgdmpejgoaaGreatZ8
set_option linter.all false
set_option linter.defProp false
noncomputable section
namespace Go.Gl
open Go.Proofs
attribute [local irreducible] BC Ax Ai AU AO Ag AV AW AM Af AR AT A0 A9 Sat Ab A6 Ak W
def Rp {w:AK} (h:Ev (.a (A2 w))):w.parents.length≤Ae∧(∀l∈w.parents,l.length≤Ae)∧w.owner.length≤Ae:=by
 simp only[A2,IC,EP,Ed,IF,BQ]at h;exact⟨h.1.1,fun l hl=>(h.1.2 l hl).1.1,h.2.1.1⟩
def Jl {xs:List Int} {g:Bool} (h:Ev (.l (iL xs) g)):xs.length≤Ae:=by
 simp only[Ed,BQ]at h;exact h.1
def Jm {f:Fact} (h:Ev (.a (xF f))):f.kids.length≤Ae∧f.path.length≤Ae∧ ∀k∈f.kids,Ev (.a (xF k)):=by
 simp only[IC,EP,Ed,IF,BQ]at h;exact⟨h.2.2.2.2.2.1.1,h.2.2.1.1,fun k hk=>by have:=h.2.2.2.2.2.1.2 k hk;rw[B5]at this;exact this⟩
def Ma (w:AK) (c:Int):Bool:=decide (0≤c)&&decide (c<3+w.parents.length)
def aO (w:AK) (c:Int):Pure Tryz.prog 157 [.a (A2 w),eI c] (.b (Ma w c)):=by
 refine Pure.fit (by kernel_rfl) fun hf=>?_
 have⟨h1,h2,h3⟩:=Rp hf.1;have hM:=Mx;refine j4 kZ ?_
 conv=>whnf
 repeat'((first|apply st|(apply sq;intro K U)|(apply si;intro A B Y Z)|(apply Y;clear Z B Y A)|(apply U;clear U K)|refine⟨rfl,?_⟩|(constructor<;>intro hc<;>(try rw[hc])<;>(replace hc:=bp hc))|fail)<;>conv=>whnf)
 ·exact AI (by rw[BQ,wrap64 (by omega) (by omega)];simp[Ma,hc])
 ·exact AI (by simp[Ma,hc];intros;omega)
def Gj (w:AK) (s:Int):Bool:=decide (0≤s)&&decide (s<w.owner.length)
def Ea (w:AK) (p:List Int):Bool:=p.all (Gj w)&&decide (p.length≤2)
def b7 (w:AK) (p:List Int) (g:Bool):Pure Tryz.prog 158 [.a (A2 w),.l (iL p) g] (.b (Ea w p)):=by
 refine Pure.fit (by kernel_rfl) fun hf=>?_
 have⟨h1,h2,h3⟩:=Rp hf.1;have h4:=Jl hf.2.1;have hM:=Mx;refine j3 kZ ?_
 conv=>whnf
 repeat'((first|apply st|(apply sq;intro K U)|(apply si;intro A B Y Z)|(apply Y;clear Z B Y A)|(apply U;clear U K)|fail)<;>conv=>whnf)
 refine CZ p.length (fun k (_:Unit)=>[(9,eI (BL k))]) (fun _ _=>[]) (fun k _=>p.all (Gj w)=(p.drop k).all (Gj w)) () rfl rfl Sat.nil ?_;rintro k - σ hk hn hs
 conv=>whnf
 repeat'((first|apply st|(apply sq;intro K U)|(apply si;intro A B Y Z)|(apply Y;clear Z B Y A)|(apply U;clear U K)|refine⟨rfl,?_⟩|refine ix ?_|(refine fc (fun x hx hlt hc=>?_) (fun hk hc=>?_)<;>(try rw[hc])<;>clear hc)|(constructor<;>intro hc<;>(try rw[hc])<;>(replace hc:=bp hc)<;>(try simp(disch:=omega) only[BQ,wrap64,AL]at hc))|clear U K)<;>conv=>whnf)
 ·exact AI (by rw[Ea,hn,drop_cons hx];simp[Gj,hc];intros;omega)
 ·exact⟨hlt,(),rfl,by rw[hn,drop_cons hx];simp[Gj, *],hs⟩
 ·exact AI (by rw[Ea,hn,drop_cons hx];simp[Gj,hc];intros;omega)
 ·exact AI (by rw[Ea,hn,An hk];simp;omega)
def Bm (f:Fact):Bool:=f.op==2||f.op==3||f.op==4
def Vc (f:Fact):Pure Tryz.prog 129 [.a (xF f)] (.b (Bm f)):=by
 refine kS kZ ?_
 conv=>whnf
 repeat'((first|apply st|(apply sq;intro K U)|(apply si;intro A B Y Z)|(apply Y;clear Z B Y A)|(apply U;clear U K)|refine⟨rfl,?_⟩|(constructor<;>intro hc<;>(try rw[hc])<;>(replace hc:=bp hc))|fail)<;>conv=>whnf)
 all_goals exact AI (by simp[Bm, *])
def DU:List (Int→Int)→Int→Int→Int
 | [],n,_=>n
 | k::r,n,most=>if n≤most then DU r (n+k (most - n)) most else n
def CI (f:Fact):Int→Int:=f.Gi fun _ l most=>DU l 1 most
def G5 (f:Fact) (most:Int):CI f most=DU (f.kids.map CI) 1 most:=by
 rw[CI,Fact.DX];rfl
def Nq {most:Int}: ∀(l:List (Int→Int)) (n:Int),(∀g∈l,∀m,0≤m→1≤g m∧g m≤m+1)→1≤n→n≤most+1→1≤DU l n most∧DU l n most≤most+1
 | [],n,_,h1,h2=>⟨h1,h2⟩
 | g ::r,n,h,h1,h2=>by
   rw[DU];split
   ·have:=h g (List.mem_cons_self ..) (most - n) (by omega)
    exact Nq r _ (fun g hg=>h g (List.mem_cons_of_mem _ hg)) (by omega) (by omega)
   ·exact⟨h1,h2⟩
def JS (f:Fact): ∀m,0≤m→1≤CI f m∧CI f m≤m+1:=by
 induction f using Fact.ind with
 | h f ih=>
   intro m hm;rw[G5];refine Nq _ _ (fun g hg=>?_) (by omega) (by omega);obtain⟨k,hk,rfl⟩:=MT.1 hg;exact ih k hk
def Zo (f:Fact): ∀most:Int,0≤most→most≤1000→Pure Tryz.prog 156 [.a (xF f),eI most] (eI (CI f most)):=by
 induction f using Fact.ind with
 | h f ih=>
   intro most h0 h1;refine Pure.fit (by kernel_rfl) fun hf=>?_
   have⟨h2,h3,h4⟩:=Jm hf.1;have hM:=Mx;refine j5 kZ ?_
   conv=>whnf
   repeat'((first|apply st|(apply sq;intro K U)|(apply si;intro A B Y Z)|(apply Y;clear Z B Y A)|(apply U;clear U K)|fail)<;>conv=>whnf)
   refine CZ f.kids.length (fun k (n:Int)=>[(5,eI n),(6,eI (BL k))]) (fun _ _=>[]) (fun k n=>1≤n∧n≤most+1∧CI f most=DU ((f.kids.drop k).map CI) n most) 1 rfl ⟨by omega,by omega,by rw[List.drop_zero];exact G5 f most⟩ Sat.nil ?_;rintro k n σ hk ⟨hn1,hn2,hn⟩ hs
   conv=>whnf
   repeat'((first|apply st|(apply sq;intro K U)|(apply si;intro A B Y Z)|(apply Y;clear Z B Y A)|(apply U;clear U K)|refine⟨rfl,?_⟩|refine⟨kZ,?_⟩|refine TP ?_|(refine fc (fun x hx hlt hc=>?_) (fun hk hc=>?_)<;>(try rw[hc])<;>clear hc)|(constructor<;>intro hc<;>(try rw[hc])<;>(replace hc:=bp hc))|clear U K)<;>conv=>whnf)
   ·rw[wrap64 (by omega) (by omega)]
    have hb:=JS x (most - n) (by omega);refine(ih x (Cj hx) (most - n) (by omega) (by omega)).use ?_
    conv=>whnf
    repeat'((first|(apply si;intro A B Y Z)|(apply Y;clear Z B Y A)|(apply U;clear U K)|refine⟨rfl,?_⟩|clear U K)<;>conv=>whnf)
    rw[wrap64 (by omega) (by omega)];exact⟨hlt,_,rfl,⟨by omega,by omega,by rw[hn,drop_cons hx,Et,DU,if_pos hc]⟩,hs⟩
   ·exact AI (by rw[hn,drop_cons hx,Et,DU,if_neg (by omega)])
   ·exact AI (by rw[hn,An hk];rfl)
def Zp (f:Fact):Pure Tryz.prog 126 [.a (xF f)] (eI (CI f 24)):=by
 refine kV kZ ?_
 conv=>whnf
 repeat'((first|apply st|(apply sq;intro K U)|(apply si;intro A B Y Z)|(apply Y;clear Z B Y A)|(apply U;clear U K)|refine⟨kZ,?_⟩|fail)<;>conv=>whnf)
 refine(Zo f 24 (by omega) (by omega)).use ?_
 conv=>whnf
 repeat'((first|apply st|(apply Y;clear Z B Y A)|(apply U;clear U K)|fail)<;>conv=>whnf)
 exact AI rfl
def Ki (f:Fact):Nat:=f.Gi fun _ l=>1+l.sum
def JF (f:Fact):Ki f=1+(f.kids.map Ki).sum:=Fact.DX _ f
def Vz {f k:Fact} (h:k∈f.kids):Ki k<Ki f:=by
 have: ∀l:List Fact,k∈l→Ki k≤(l.map Ki).sum:=fun l=>by
  induction l with
  | nil=>intro h;cases h
  | cons x r ih=>
    intro h;simp only[Et,List.sum_cons];rcases Fh.1 h with rfl|h
    ·omega
    ·have:=ih h;omega
 have:=this _ h;rw[JF f];omega
def Np {most:Int}: ∀(l:List Fact) (n:Int),(∀k∈l,∀m,0≤m→CI k m≤m→CI k m=Ki k)→0≤n→DU (l.map CI) n most≤most→DU (l.map CI) n most=n+(l.map Ki).sum
 | [],n,_,_,_=>by simp[DU]
 | k :: r, n,h,h0,h1=>by
   simp only[Et,DU]at *;split at h1
   ·rename_i hc
    rw[if_pos hc];have hb:=JS k (most - n) (by omega)
    have hge: ∀(l:List Fact) (a:Int),a≤DU (l.map CI) a most:=fun l=>by
     induction l with
     | nil=>intro a;exact Int.le_refl _
     | cons y l ih=>
       intro a;simp only[Et,DU];split
       ·have:=JS y (most - a) (by omega)
        have:=ih (a+CI y (most - a));omega
       ·exact Int.le_refl _
    have h2:=hge r (n+CI k (most - n));have h3:=h k (List.mem_cons_self ..) (most - n) (by omega) (by omega);have h4:=Np r (n+CI k (most - n)) (fun k' hk'=>h k' (List.mem_cons_of_mem _ hk')) (by omega) h1;simp only[List.sum_cons];omega
   ·rename_i hc
    omega
def JR (f:Fact): ∀m,0≤m→CI f m≤m→CI f m=Ki f:=by
 induction f using Fact.ind with
 | h f ih=>
   intro m h0 h1;rw[G5]at *;rw[Np f.kids 1 ih (by omega) h1,JF];omega
def Gf (a b:Int):Int:=if a<b then b else a
def D2 (f:Fact):Int:=f.Gi fun _ l=>l.foldl Gf 0+1
def Fe (f:Fact):D2 f=(f.kids.map D2).foldl Gf 0+1:=Fact.DX _ f
def I5 {m:Int}: ∀(l:List Int) (a:Int),(∀x∈l,x≤m)→a≤m→l.foldl Gf a≤m
 | [],_,_,h=>h
 | x::r,a,h,h'=>by
   refine I5 r _ (fun y hy=>h y (List.mem_cons_of_mem _ hy)) ?_;have:=h x (List.mem_cons_self ..);unfold Gf;split<;>omega
def FB: ∀(l:List Int) (a:Int),a≤l.foldl Gf a
 | [],_=>Int.le_refl _
 | x::r,a=>by
   refine Int.le_trans ?_ (FB r _);unfold Gf;split<;>omega
def Uh (f:Fact):1≤D2 f∧D2 f≤Ki f:=by
 induction f using Fact.ind with
 | h f ih=>
   rw[Fe];have h1:=FB (f.kids.map D2) 0
   have h2:(f.kids.map D2).foldl Gf 0≤(Ki f:Int) - 1:=by
    refine I5 _ _ (fun x hx=>?_) (by have:=JF f;omega);obtain⟨k,hk,rfl⟩:=MT.1 hx;have:=(ih k hk).2;have:=Vz hk;omega
   omega
def EF {α:Type} {xs:List α} {k:Nat} {x:α} {β:Type} (g:α→β) (h:β→β→β) (a:β) (hx:xs[k]? =some x):((xs.take (k+1)).map g).foldl h a=h (((xs.take k).map g).foldl h a) (g x):=by
 rw[AX hx,TN,List.foldl_append];rfl
def aJ (f:Fact):Ki f≤Ae→Pure Tryz.prog 127 [.a (xF f)] (eI (D2 f)):=by
 induction f using Fact.ind with
 | h f ih=>
   intro hc;refine Pure.fit (by kernel_rfl) fun hf=>?_
   have⟨h2,h3,h4⟩:=Jm hf.1;have hM:=Mx;refine kU kZ ?_
   conv=>whnf
   repeat'((first|apply st|(apply sq;intro K U)|(apply si;intro A B Y Z)|(apply Y;clear Z B Y A)|(apply U;clear U K)|fail)<;>conv=>whnf)
   refine CZ f.kids.length (fun k (_:Unit)=>[(3,eI (((f.kids.take k).map D2).foldl Gf 0)),(9,eI (BL k))]) (fun _ _=>[]) (fun _ _=>True) () rfl trivial Sat.nil ?_;rintro k - σ hk - hs
   conv=>whnf
   repeat'((first|apply st|(apply sq;intro K U)|(apply si;intro A B Y Z)|(apply Y;clear Z B Y A)|(apply U;clear U K)|refine⟨rfl,?_⟩|refine⟨kZ,?_⟩|refine TP ?_|refine ld ?_|refine sn fun σ hs=>?_|(refine fc (fun x hx hlt hc=>?_) (fun hk hc=>?_)<;>(try rw[hc])<;>clear hc)|(intro nn hnn;generalize hg:A8 _ nn _=σ;refine al hg fun hs=>?_;clear hg)|clear U K)<;>conv=>whnf)
   ·refine(ih x (Cj hx) (by have:=Vz (Cj hx);omega)).use ?_
    conv=>whnf
    repeat'((first|(apply si;intro A B Y Z)|(apply Y;clear Z B Y A)|(apply U;clear U K)|refine⟨rfl,?_⟩|clear U K)<;>conv=>whnf)
    exact⟨hlt,(),by rw[EF _ _ _ hx];rfl,trivial,Sat.nil⟩
   ·have:=Uh f
    rw[Fe]at this;exact AI (by rw[BK hk,wrap64 (by omega) (by omega),←Fe])
def C4 (f:Fact):Int:=f.Gi fun f l=>l.foldl Gf (if Bm f then f.arg+1 else 0)
def Ds (f:Fact):C4 f=(f.kids.map C4).foldl Gf (if Bm f then f.arg+1 else 0):=Fact.DX _ f
def Mq (f:Fact):Bool:=f.Gi fun f l=>decide (0≤f.arg)&&decide (f.arg<3)&&l.all id
def KO (f:Fact):Mq f=(decide (0≤f.arg)&&decide (f.arg<3)&&(f.kids.map Mq).all id):=Fact.DX _ f
def ZZ (f:Fact):Mq f=true→Pure Tryz.prog 95 [.a (xF f)] (eI (C4 f)):=by
 induction f using Fact.ind with
 | h f ih=>
   intro ha;refine Pure.fit (by kernel_rfl) fun hf=>?_
   have⟨h2,h3,h4⟩:=Jm hf.1;have hM:=Mx;rw[KO]at ha;simp only[BY,CY,List.all_map,EY]at ha;refine mr kZ ?_
   conv=>whnf
   repeat'((first|apply st|(apply sq;intro K U)|(apply si;intro A B Y Z)|(apply Y;clear Z B Y A)|(apply U;clear U K)|refine⟨kZ,?_⟩|fail)<;>conv=>whnf)
   refine(Vc f).use ?_
   conv=>whnf
   repeat'((first|apply st|(apply sq;intro K U)|(apply si;intro A B Y Z)|(apply Y;clear Z B Y A)|(apply U;clear U K)|refine⟨rfl,?_⟩|(constructor<;>intro hc<;>(try rw[hc])<;>(replace hc:=bp hc))|fail)<;>conv=>whnf)
   ·refine CZ f.kids.length (fun k (_:Unit)=>[(3,eI (((f.kids.take k).map C4).foldl Gf (if Bm f then f.arg+1 else 0))),(14,eI (BL k))]) (fun _ _=>[]) (fun _ _=>True) () (by rw[wrap64 (by omega) (by omega),if_pos hc];rfl) trivial Sat.nil ?_
    rintro k - σ hk - hs
    conv=>whnf
    repeat'((first|apply st|(apply sq;intro K U)|(apply si;intro A B Y Z)|(apply Y;clear Z B Y A)|(apply U;clear U K)|refine⟨rfl,?_⟩|refine⟨kZ,?_⟩|refine TP ?_|refine ld ?_|refine sn fun σ hs=>?_|(refine fc (fun x hx hlt hc=>?_) (fun hk hc=>?_)<;>(try rw[hc])<;>clear hc)|(intro nn hnn;generalize hg:A8 _ nn _=σ;refine al hg fun hs=>?_;clear hg)|clear U K)<;>conv=>whnf)
    ·refine(ih x (Cj hx) (ha.2 x (Cj hx))).use ?_
     conv=>whnf
     repeat'((first|(apply si;intro A B Y Z)|(apply Y;clear Z B Y A)|(apply U;clear U K)|refine⟨rfl,?_⟩|clear U K)<;>conv=>whnf)
     exact⟨hlt,(),by rw[EF _ _ _ hx];rfl,trivial,Sat.nil⟩
    ·exact AI (by rw[BK hk,←Ds])
   ·refine CZ f.kids.length (fun k (_:Unit)=>[(3,eI (((f.kids.take k).map C4).foldl Gf (if Bm f then f.arg+1 else 0))),(14,eI (BL k))]) (fun _ _=>[]) (fun _ _=>True) () (by rw[if_neg (c:=Bm f=true) (by simp[hc])];rfl) trivial Sat.nil ?_
    rintro k - σ hk - hs
    conv=>whnf
    repeat'((first|apply st|(apply sq;intro K U)|(apply si;intro A B Y Z)|(apply Y;clear Z B Y A)|(apply U;clear U K)|refine⟨rfl,?_⟩|refine⟨kZ,?_⟩|refine TP ?_|refine ld ?_|refine sn fun σ hs=>?_|(refine fc (fun x hx hlt hc=>?_) (fun hk hc=>?_)<;>(try rw[hc])<;>clear hc)|(intro nn hnn;generalize hg:A8 _ nn _=σ;refine al hg fun hs=>?_;clear hg)|clear U K)<;>conv=>whnf)
    ·refine(ih x (Cj hx) (ha.2 x (Cj hx))).use ?_
     conv=>whnf
     repeat'((first|(apply si;intro A B Y Z)|(apply Y;clear Z B Y A)|(apply U;clear U K)|refine⟨rfl,?_⟩|clear U K)<;>conv=>whnf)
     exact⟨hlt,(),by rw[EF _ _ _ hx];rfl,trivial,Sat.nil⟩
    ·exact AI (by rw[BK hk,←Ds])
def B1 (op:Int):Nat:=if op=5 then 1 else if op=6∨op=7 then 2 else 0
def RD (w:AK) (f:Fact):Bool:=
 if f.op=2 then f.n==0&&Ma w f.cls else if f.op=3∨f.op=4 then f.cls==0&&(decide (-1000000000≤f.n)&&decide (f.n≤1000000000))else f.op==1||f.op==5||f.op==6||f.op==7
def C1 (w:AK) (f:Fact):Bool:=
 RD w f&&(f.kids.length==B1 f.op&&(decide (0≤f.arg)&&(decide (f.arg<3)&&(Ea w f.path&&(Bm f||(f.arg==0&&(f.path.length==0&&(f.cls==0&&f.n==0))))))))
def Be (w:AK) (f:Fact):Bool:=f.Gi fun f l=>C1 w f&&l.all id
def CP (w:AK) (f:Fact):Be w f=(C1 w f&&f.kids.all (Be w)):=by rw[Be,Fact.DX,List.all_map];rfl
def NC {w:AK} {f:Fact} (h:C1 w f=false):Be w f=false:=by rw[CP,h,Bool.false_and]
def ny {f:Fact} (h1:Bm f=false) (h2:f.arg=0) (h3:(f.path.length:Int) > 0):true= !(Bm f||(f.arg==0&&(f.path.length==0&&(f.cls==0&&f.n==0)))):=by
 have:(f.path.length==0)=false:=by simp;intro e;rw[e]at h3;simp at h3
 rw[this,h1,h2];rfl
def cJ (w : AK) (f:Fact):Pure Tryz.prog 128 [.a (A2 w),.a (xF f)] (.b (Be w f)):=by
 induction f using Fact.ind with
 | h f ih=>
   refine Pure.fit (by kernel_rfl) fun hf=>?_
   have⟨h2,h3,h4⟩:=Jm hf.2.1;have⟨w1,w2,w3⟩:=Rp hf.1;have hM:=Mx;refine kT kZ ?_
   conv=>whnf
   repeat'((first|apply st|(apply sq;intro K U)|(apply si;intro A B Y Z)|(apply Y;clear Z B Y A)|(apply U;clear U K)|refine⟨rfl,?_⟩|fail)<;>conv=>whnf)
   have hJ :=Ov U (fun(_:Unit)=>[(5,eI (B1 f.op))]) (fun _=>[]) (fun _=>RD w f=true) [(2,.rp (A2 w)),(3,.rp (xF f)),(5,eI 0)] (by
    clear U;rintro - σ ho -
    conv=>whnf
    repeat'((first|apply st|(apply sq;intro K U)|(apply si;intro A B Y Z)|refine⟨rfl,?_⟩|fail)<;>conv=>whnf)
    have hJ :=Ov U (fun(b:Bool)=>[(66,.b b)]) (fun _=>[]) (fun b=>b= !(f.kids.length==B1 f.op&&(decide (0≤f.arg)&&(decide (f.arg<3)&&Ea w f.path)))) [(2,.rp (A2 w)),(3,.rp (xF f)),(66,.b false)] (by
     clear U;rintro b σ hb -
     conv=>whnf
     repeat'((first|apply st|fail)<;>conv=>whnf)
     have hJ :=Ov U (fun(_:Unit)=>[]) (fun _=>[]) (fun _=>b=false) [(2,.rp (A2 w)),(3,.rp (xF f))] (by
      clear U;rintro - σ hb' -;rw[hb']at hb
      conv=>whnf
      repeat'((first|apply st|(apply sq;intro K U)|(apply si;intro A B Y Z)|refine⟨kZ,?_⟩|refine Pure.use (Vc _) ?_|fail)<;>conv=>whnf)
      have hJ:=Ov U (fun(b:Bool)=>[(90,.b b)]) (fun _=>[]) (fun b=>b= !(Bm f||(f.arg==0&&(f.path.length==0&&(f.cls==0&&f.n==0))))) [(2,.rp (A2 w)),(3,.rp (xF f)),(90,.b false)] (by
       clear U;rintro b σ hb2 -
       conv=>whnf
       repeat'((first|apply st|fail)<;>conv=>whnf)
       have hJ:=Ov U (fun(_:Unit)=>[]) (fun _=>[]) (fun _=>b=false) [(2,.rp (A2 w)),(3,.rp (xF f))] (by
        clear U;rintro - σ hb' -;rw[hb']at hb2
        have hh:C1 w f=true:=by
         have hb:(f.kids.length==B1 f.op&&(decide (0≤f.arg)&&(decide (f.arg<3)&&Ea w f.path)))=true:=by rw[←Bool.not_eq_false',←hb]
         have hb2:(Bm f||(f.arg==0&&(f.path.length==0&&(f.cls==0&&f.n==0))))=true:=by rw[←Bool.not_eq_false',←hb2]
         simp only[BY]at hb;simp only[C1,ho,hb.1,hb.2,hb2,Bool.and_self]
        conv=>whnf
        repeat'((first|apply st|(apply sq;intro K U)|(apply si;intro A B Y Z)|(apply Y;clear Z B Y A)|(apply U;clear U K)|fail)<;>conv=>whnf)
        refine CZ f.kids.length (fun k (_:Unit)=>[(94,eI (BL k))]) (fun _ _=>[]) (fun k _=>Be w f=(f.kids.drop k).all (Be w)) () rfl (by rw[CP,hh];rfl) Sat.nil ?_;rintro k - σ hk hn hs
        conv=>whnf
        repeat'((first|apply st|(apply sq;intro K U)|(apply si;intro A B Y Z)|(apply Y;clear Z B Y A)|(apply U;clear U K)|refine⟨rfl,?_⟩|refine⟨kZ,?_⟩|refine TP ?_|refine ld ?_|refine sn fun σ hs=>?_|(refine fc (fun x hx hlt hc=>?_) (fun hk hc=>?_)<;>(try rw[hc])<;>clear hc)|(intro nn hnn;generalize hg:A8 _ nn _=σ;refine al hg fun hs=>?_;clear hg)|clear U K)<;>conv=>whnf)
        ·have hxm:=Cj hx
         refine(ih x hxm).use ?_
         conv=>whnf
         repeat'((first|apply st|(apply sq;intro K U)|(apply si;intro A B Y Z)|(apply Y;clear Z B Y A)|(apply U;clear U K)|refine⟨rfl,?_⟩|(constructor<;>intro hc<;>(try rw[hc])<;>(replace hc:=bp hc))|clear U K)<;>conv=>whnf)
         ·exact AI (by rw[hn,drop_cons hx];simp[hc])
         ·exact⟨hlt,(),rfl,by rw[hn,drop_cons hx];simp[hc],Sat.nil⟩
        ·exact AI (by rw[hn,An hk];rfl))
       clear U
       conv=>whnf
       repeat'((first|apply st|(apply sq;intro K U)|(apply si;intro A B Y Z)|(apply Y;clear Z B Y A)|(apply U;clear U K)|(constructor<;>intro hc<;>(try rw[hc])<;>(replace hc:=bp hc))|fail)<;>conv=>whnf)
       ·have hx:(Bm f||(f.arg==0&&(f.path.length==0&&(f.cls==0&&f.n==0))))=false:=by rw[←Bool.not_eq_true',←hb2,hc]
        exact AI (by rw[NC];simp only[C1,hx,Bool.and_false])
       ·exact hJ () _ _ rfl hc Sat.nil)
      clear U;clear hb
      conv=>whnf
      repeat'((first|apply st|(apply Y;clear Z B Y A)|refine⟨rfl,?_⟩|(constructor<;>intro hc<;>(try rw[hc])<;>(replace hc:=bp hc)<;>(try simp(disch:=omega) only[BQ,wrap64,AL]at hc))|fail)<;>conv=>whnf)
      ·have hp:f.path.length=0:=by omega
       exact hJ _ _ _ rfl (by rw[hp];simp[*,bne]) Sat.nil
      ·exact hJ true _ _ rfl (by simp[*]) Sat.nil
      ·exact hJ true _ _ rfl (ny (by assumption) (by assumption) hc) Sat.nil
      ·exact hJ true _ _ rfl (by simp[*]) Sat.nil
      ·exact hJ false _ _ rfl (by simp[*]) Sat.nil)
     clear U
     conv=>whnf
     repeat'((first|apply st|(apply sq;intro K U)|(apply si;intro A B Y Z)|(apply Y;clear Z B Y A)|(apply U;clear U K)|(constructor<;>intro hc<;>(try rw[hc])<;>(replace hc:=bp hc))|fail)<;>conv=>whnf)
     ·have hx:(f.kids.length==B1 f.op&&(decide (0≤f.arg)&&(decide (f.arg<3)&&Ea w f.path)))=false:=by rw[←Bool.not_eq_true',←hb,hc]
      exact AI (by rw[NC];simp only[C1];simp only[Bool.and_eq_false_iff]at hx ⊢;rcases hx with h|h|h|h<;>simp[h])
     ·exact hJ () _ _ rfl hc Sat.nil)
    clear U
    conv=>whnf
    repeat'((first|apply st|(apply Y;clear Z B Y A)|refine⟨rfl,?_⟩|refine⟨kZ,?_⟩|refine Pure.use (b7 _ _ _) ?_|(constructor<;>intro hc<;>(try rw[hc])<;>(replace hc:=bp hc)<;>(try simp(disch:=omega) only[BQ,wrap64,AL]at hc))|fail)<;>conv=>whnf)
    all_goals exact hJ _ _ _ rfl (by simp[*]<;>omega) Sat.nil)
   clear U
   conv=>whnf
   repeat'((first|apply st|(apply sq;intro K U)|(apply si;intro A B Y Z)|(apply Y;clear Z B Y A)|(apply U;clear U K)|refine⟨rfl,?_⟩|refine⟨kZ,?_⟩|refine Pure.use (aO _ _) ?_|(constructor<;>intro hc<;>(try rw[hc])<;>(replace hc:=bp hc))|fail)<;>conv=>whnf)
   all_goals first
    | exact AI (by rw[NC];simp only[C1,RD];simp[*]<;>omega)
    | exact hJ () _ _ (by simp[B1, *];rfl) (by simp[RD, *]<;>omega) Sat.nil
def P6 (n:Int):Bool:=decide (-1000000000≤n)&&decide (n≤1000000000)
def eC (n:Int):Pure Tryz.prog 125 [eI n] (.b (P6 n)):=by
 refine kW kZ ?_
 conv=>whnf
 repeat'((first|apply st|(apply sq;intro K U)|(apply si;intro A B Y Z)|(apply Y;clear Z B Y A)|(apply U;clear U K)|refine⟨rfl,?_⟩|(constructor<;>intro hc<;>(try rw[hc])<;>(replace hc:=bp hc))|fail)<;>conv=>whnf)
 all_goals exact AI (by simp[P6, *]<;>omega)
def It (k:Int):Bool:=k==1||k==4
def gQ (k:Int):Pure Tryz.prog 97 [eI k] (.b (It k)):=by
 refine mq kZ ?_
 conv=>whnf
 repeat'((first|apply st|(apply sq;intro K U)|(apply si;intro A B Y Z)|(apply Y;clear Z B Y A)|(apply U;clear U K)|refine⟨rfl,?_⟩|(constructor<;>intro hc<;>(try rw[hc])<;>(replace hc:=bp hc))|fail)<;>conv=>whnf)
 all_goals exact AI (by simp[It, *])
def Gq {p:Prog} (h:Ev (.a (BU p))):p.AN.length≤Ae∧p.Cl.length≤Ae∧p.methods.length≤Ae∧p.nodes.length≤Ae:=by
 simp only[BU,IC,EP,Ed,BQ]at h;exact⟨h.1.1,h.2.2.1.1,h.2.2.2.1.1,h.2.2.2.2.1.1⟩
def H4 (p:Prog) (x:Node):Int:=
 if x.op=1∨x.op=2∨x.op=3∨x.op=6∨x.op=18 then 0 else
 if x.op=4∨x.op=8∨x.op=17 then 1 else
 if x.op=7∨x.op=9∨x.op=11∨x.op=12∨x.op=13∨x.op=14∨x.op=15∨x.op=16 then 2 else
 if x.op=10 then 3 else
 if x.op=5∧0≤x.n∧x.n<p.Cl.length then p.Cl.getD x.n.toNat 0 else -1
def cZ (p:Prog) (x:Node):Pure Tryz.prog 130 [.a (BU p),.a (H5 x)] (eI (H4 p x)):=by
 refine Pure.fit (by kernel_rfl) fun hf=>?_
 have⟨p1,p2,p3,p4⟩:=Gq hf.1;have hM:=Mx;refine kR kZ ?_
 conv=>whnf
 repeat'((first|apply st|(apply sq;intro K U)|(apply si;intro A B Y Z)|(apply Y;clear Z B Y A)|(apply U;clear U K)|refine⟨rfl,?_⟩|refine iq fun x hx=>?_|(constructor<;>intro hc<;>(try rw[hc])<;>(replace hc:=bp hc)<;>(try simp(disch:=omega) only[BQ,wrap64,AL]at hc))|clear U K)<;>conv=>whnf)
 all_goals first
  | (refine AI ?_;simp[H4, *];done)
  | (refine AI ?_;simp[H4, *];intros;omega)
  | (have hd:=(Hr.1 hx).2;refine AI ?_;simp[H4, *];done)
def Ks (p:Prog) (x:Node) (size:Int):Bool:=
 if x.op=1 then P6 x.n else if x.op=3 then decide (0≤x.n)&&decide (x.n<size)else if x.op=4∨x.op=7 then decide (0≤x.n)&&decide (x.n<p.AS)else
 if x.op=5 then decide (0≤x.n)&&decide (x.n<p.Cl.length)else if x.op=6∨x.op=8 then decide (3≤x.n)&&decide (x.n<3+p.AN.length)else x.n==0
def W0 (p:Prog) (x:Node) (size:Int):Pure Tryz.prog 131 [.a (BU p),.a (H5 x),eI size] (.b (Ks p x size)):=by
 refine Pure.fit (by kernel_rfl) fun hf=>?_
 have⟨p1,p2,p3,p4⟩:=Gq hf.1;have hM:=Mx;refine kQ kZ ?_
 conv=>whnf
 repeat'((first|apply st|(apply sq;intro K U)|(apply si;intro A B Y Z)|(apply Y;clear Z B Y A)|(apply U;clear U K)|refine⟨rfl,?_⟩|refine Pure.use (eC _) ?_|(constructor<;>intro hc<;>(try rw[hc])<;>(replace hc:=bp hc))|clear U K)<;>conv=>whnf)
 all_goals first
  | (refine AI ?_;simp[Ks, *];done)
  | (refine AI ?_;rw[BQ,wrap64 (by omega) (by omega)];simp[Ks, *];done)
  | (refine AI ?_;simp[Ks, *];intros;omega)
def L5 (ps:List (List Int)) (a b:Int):Bool:=a==b||(b==0||(decide (3≤a)&&Ik ps a.toNat b.toNat))
def Se (w:AK) (a b:Int) (hl:w.parents.length≤1000) (ho:ordered w.parents) (ha:0≤a) (ha':a<3+w.parents.length) (hb:0≤b) (hb':b<3+w.parents.length):Pure Tryz.prog 120 [.a (A2 w),eI a,eI b] (.b (L5 w.parents a b)):=by
 refine Pure.fit (by kernel_rfl) fun hf=>?_
 have⟨w1,w2,w3⟩:=Rp hf.1;have hM:=Mx;refine kk kZ ?_
 conv=>whnf
 repeat'((first|apply st|(apply sq;intro K U)|(apply si;intro A B Y Z)|(apply Y;clear Z B Y A)|(apply U;clear U K)|refine⟨rfl,?_⟩|refine⟨kZ,?_⟩|(constructor<;>intro hc<;>(try rw[hc])<;>(replace hc:=bp hc))|clear U K)<;>conv=>whnf)
 ·exact AI (by simp[L5,hc])
 ·exact AI (by simp[L5, *];omega)
 ·have hc':0≤a:=ha
  obtain⟨a,rfl⟩: ∃n:Nat,a=n:=⟨a.toNat,by omega⟩
  refine(l8 w a ⟨hl,w2,w3⟩ ho (by omega)).use ?_;have hul:=Jv w.parents (3+w.parents.length) a (a - 2)
  conv=>whnf
  repeat'((first|apply st|(apply sq;intro K U)|(apply si;intro A B Y Z)|(apply Y;clear Z B Y A)|(apply U;clear U K)|refine iq fun x hx=>?_|fail)<;>conv=>whnf)
  refine AI ?_;have hu:=VF ho (n:=3+w.parents.length) (c:=a) (by omega) b.toNat;rw[Dc,hx]at hu;simp at hu;have e1:((a:Int)==b)=false:=by simpa using ‹(a:Int)≠b›
  have e2:(b==0)=false:=by simpa using ‹b≠0›
  simp[L5,e1,e2,hc,hu]
 ·exact AI (by simp[L5,hc])
structure Km (w:AK):Prop where
 len:w.parents.length≤60
 ord:ordered w.parents
 own: ∀c∈w.owner,(3:Int)≤c∧c<3+w.parents.length
 bN:w.owner.length≤40
def CX (w:AK) (s:Int):Int:=w.owner.getD s.toNat 0
def hasB (w:AK) (c s:Int):Bool:=decide (3≤c)&&L5 w.parents c (CX w s)
def To (w:AK) (c s:Int) (hw:Km w) (hc0:0≤c) (hc1:c<3+w.parents.length) (hs0:0≤s) (hs1:s<w.owner.length):Pure Tryz.prog 122 [.a (A2 w),eI c,eI s] (.b (hasB w c s)):=by
 refine Pure.fit (by kernel_rfl) fun hf=>?_
 have⟨w1,w2,w3⟩:=Rp hf.1;have hM:=Mx;have hl:=hw.len;refine ke kZ ?_
 conv=>whnf
 repeat'((first|apply st|(apply sq;intro K U)|(apply si;intro A B Y Z)|(apply Y;clear Z B Y A)|(apply U;clear U K)|apply dr|refine⟨rfl,?_⟩|refine⟨kZ,?_⟩|refine iq fun x hx=>?_|(constructor<;>intro hc<;>(try rw[hc])<;>(replace hc:=bp hc))|fail)<;>conv=>whnf)
 ·have:=hw.own x (Cj hx)
  refine(Se w c x (by omega) hw.ord hc0 hc1 (by omega) (by omega)).use ?_
  conv=>whnf
  repeat'((first|apply st|(apply Y;clear Z B Y A)|(apply U;clear U K)|apply dr|fail)<;>conv=>whnf)
  exact AI (by simp[hasB,CX,hx,hc])
 ·exact AI (by simp[hasB];omega)
def cf (xs:List Int) (f:Bool) (x:Int):Pure Tryz.prog 154 [.l (iL xs) f,eI x] (.b (xs.contains x)):=Pure.fit (by kernel_rfl) fun hf=>Yp xs f x (Jl hf.1)
def CN (w:AK) (f:Fact):Bool:=decide (CI f 24≤24)&&(decide (D2 f≤12)&&Be w f)
def aB (w:AK) (f:Fact):Pure Tryz.prog 94 [.a (A2 w),.a (xF f)] (.b (CN w f)):=by
 refine mu kZ ?_
 conv=>whnf
 repeat'((first|apply st|(apply sq;intro K U)|(apply si;intro A B Y Z)|(apply Y;clear Z B Y A)|(apply U;clear U K)|refine⟨rfl,?_⟩|refine⟨kZ,?_⟩|refine Pure.use (Zp _) ?_|(constructor<;>intro hc<;>(try rw[hc])<;>(replace hc:=bp hc))|fail)<;>conv=>whnf)
 ·have:=JR f 24 (by omega) hc
  refine(aJ f (by simp only[Ae];omega)).use ?_
  conv=>whnf
  repeat'((first|apply st|(apply Y;clear Z B Y A)|(apply U;clear U K)|refine⟨rfl,?_⟩|refine⟨kZ,?_⟩|refine Pure.use (cJ _ _) ?_|(constructor<;>intro hc<;>(try rw[hc])<;>(replace hc:=bp hc))|fail)<;>conv=>whnf)
  ·exact AI (by simp[CN,hc,‹CI f 24≤24›])
  ·exact AI (by simp[CN, *];intros;omega)
 ·exact AI (by simp[CN];intros;omega)
def ez (i:Nat) (pre:List Int) (c:Int):Bool:=decide (3≤c)&&(decide (c<3+i)&& !pre.contains c)
def Kt (i:Nat):List Int→List Int→Bool
 | _,[]=>true
 | pre,c::r=>ez i pre c&&Kt i (pre++[c]) r
def HY:Nat→List (List Int)→Bool
 | _,[]=>true
 | i,l::r=>decide (l.length≤3)&&(Kt i [] l&&HY (i+1) r)
def Df (g:List (List Int)):Bool:=decide (g.length≤16)&&HY 0 g
def Ts {ls:List (List Int)} {g:Bool} (h:Ev (.l (EZ ls) g)):ls.length≤Ae∧ ∀l∈ls,l.length≤Ae:=by
 simp only[Ed,BQ,IF,EP]at h;exact⟨h.1,fun l hl=>(h.2 l hl).1.1⟩
def cp (g:List (List Int)) (f:Bool):Pure Tryz.prog 123 [.l (EZ g) f] (.b (Df g)):=by
 refine Pure.fit (by kernel_rfl) fun hf=>?_
 have⟨g1,g2⟩:=Ts hf.1;have hM:=Mx;refine kY kZ ?_
 conv=>whnf
 repeat'((first|apply st|(apply sq;intro K U)|(apply si;intro A B Y Z)|(apply Y;clear Z B Y A)|(apply U;clear U K)|refine⟨rfl,?_⟩|(constructor<;>intro hc<;>(try rw[hc])<;>(replace hc:=bp hc)<;>(try simp(disch:=omega) only[BQ,wrap64,AL]at hc))|clear U K)<;>conv=>whnf)
 ·exact AI (by simp[Df];intros;omega)
 ·refine CZ g.length (fun k (_:Unit)=>[(3,eI (BL k))]) (fun _ _=>[]) (fun k _=>Df g=HY k (g.drop k)) () rfl (by simp[Df];omega) Sat.nil ?_
  rintro k - σ hk hn hs
  conv=>whnf
  repeat'((first|apply st|(apply sq;intro K U)|(apply si;intro A B Y Z)|(apply Y;clear Z B Y A)|(apply U;clear U K)|refine⟨rfl,?_⟩|refine ix ?_|(refine fc (fun x hx hlt hc=>?_) (fun hk hc=>?_)<;>(try rw[hc])<;>clear hc)|(constructor<;>intro hc<;>(try rw[hc])<;>(replace hc:=bp hc)<;>(try simp(disch:=omega) only[BQ,wrap64,AL]at hc))|clear U K)<;>conv=>whnf)
  ·exact AI (by rw[hn,drop_cons hx,HY];simp;intros;omega)
  ·revert x
   rintro l hl hl3;have hll:=g2 l (Cj hl);have hn':Df g=(Kt k [] l&&HY (k+1) (g.drop (k+1))):=by rw[hn,drop_cons hl,HY];simp;intros;omega
   refine CZ l.length (fun j (_:Unit)=>[(4,eI (BL j))]) (fun _ _=>[]) (fun j _=>Df g=(Kt k (l.take j) (l.drop j)&&HY (k+1) (g.drop (k+1)))) () rfl (by rw[hn'];rfl) Sat.nil ?_;rintro j - σ hj hm hs
   conv=>whnf
   repeat'((first|apply st|(apply sq;intro K U)|(apply si;intro A B Y Z)|(apply Y;clear Z B Y A)|(apply U;clear U K)|apply dr|refine⟨rfl,?_⟩|refine ix ?_|refine rn ?_|(refine fc (fun x hx hlt hc=>?_) (fun hk hc=>?_)<;>(try rw[hc])<;>clear hc)|refine Pure.use (cf _ _ _) ?_|(constructor<;>intro hc<;>(try rw[hc])<;>(replace hc:=bp hc)<;>(try simp(disch:=omega) only[BQ,wrap64,AL]at hc))|clear U K)<;>conv=>whnf)
   ·exact AI (by rw[hm,drop_cons hx,Kt,ez,hc];simp)
   ·refine⟨hlt,(),rfl,?_,Sat.nil⟩
    rw[hm,drop_cons hx,Kt,ez,hc,AX hx];simp[*]
   ·exact AI (by rw[hm,drop_cons hx,Kt,ez];simp;intros;omega)
   ·exact AI (by rw[hm,drop_cons hx,Kt,ez];simp;intros;omega)
   ·refine⟨by assumption,(),rfl,?_,Sat.nil⟩
    rw[hm,An hk,Kt,EW]
  ·exact AI (by rw[hn,An hk];rfl)
def Je:Int→List Int→Bool
 | _,[]=>true
 | n,s::r=>s==n&&Je (n+1) r
def Cb:Int→List ON→Bool
 | _,[]=>true
 | n,c::r=>decide (c.AS.length≤4)&&(decide (c.parents.length≤3)&&(Je n c.AS&&Cb (n+c.AS.length) r))
def D1 (w:AK) (c n:Int):List (Int×Int)→List (Int×Int)→Bool
 | _,[]=>true
 | pre,x::r=>decide (0≤x.1)&&(decide (x.1<n)&&(hasB w c x.1&&(P6 x.2&&(pre.all (fun y=>y.1 != x.1)&&D1 w c n (pre++[x]) r))))
def bO (g:List (List Int)) (c:Int):Bool:= !((Bx g).getD c.toNat []).isEmpty
def Fp (w:AK) (n:Int):Nat→List ON→Bool
 | _,[]=>true
 | i,c::r=>bO w.parents ((i:Int)+3)&&(D1 w ((i:Int)+3) n [] c.inits&&Fp w n (i+1) r)
def A7 (p:Prog):Bool:=decide (p.AN.length≤10)&&(Cb 0 p.AN&&((Bp p.AN:Int)==p.AS&&(Df (Ay p)&&Fp (AQ p) (Bp p.AN) 0 p.AN)))
def mb {c:ON} (h:HA (OU c)):c.parents.length≤Ae∧c.AS.length≤Ae∧c.inits.length≤Ae:=by
 simp only[OU,EP,Ed,BQ]at h;exact⟨h.1.1,h.2.1.1,h.2.2.1.1⟩
def Jn {p:Prog} (h:Ev (.a (BU p))):fQ p:=by
 refine⟨(Gq h).1,fun c hc=>?_⟩;simp only[BU,IC,EP,Ed,IF]at h;exact mb (h.1.2 c hc)
def Z8 (p:Prog) (hk0:p.AN.length≤1000):Pure Tryz.prog 91 [.a (BU p)] (.l (EZ (Ay p)) false):=Pure.fit (by kernel_rfl) fun hf=>Vj p (Jn hf.1) hk0
def Ey: ∀(cs:List ON) (n:Int),Cb n cs=true→Bp cs≤4*cs.length∧ ∀c∈cs,c.parents.length≤3∧c.AS.length≤4
 | [],_,_=>⟨Ja _,fun _ h=>by cases h⟩
 | c::r,n,h=>by
   simp only[Cb,BY,CY]at h;have⟨h1,h2⟩:=Ey r _ h.2.2.2;refine⟨by simp only[Bp,Et,List.sum_cons,MC]at *;omega,fun d hd=>?_⟩;rcases Fh.1 hd with rfl|hd
   ·exact⟨h.2.1,h.1⟩
   ·exact h2 d hd
def Pf {i:Nat}: ∀(r pre:List Int),Kt i pre r=true→pre.Nodup→(pre++r).Nodup∧ ∀c∈r,(3:Int)≤c∧c<3+(i:Int)
 | [],pre,_,h=>⟨by simpa using h,fun _ h=>by cases h⟩
 | c::r,pre,h,hn=>by
   simp only[Kt,ez,BY,CY,Bool.not_eq_true']at h;have hc:c∉pre:=by simpa using h.1.2.2
   obtain⟨h1,h2⟩:=Pf r (pre++[c]) h.2 (List.nodup_append.2 ⟨hn,by simp,fun a ha b hb=>by simp at hb;subst hb;exact fun e=>hc (e ▸ ha)⟩);refine⟨by simpa using h1,fun d hd=>?_⟩;rcases Fh.1 hd with rfl|hd
   ·exact⟨h.1.1,h.1.2.1⟩
   ·exact h2 d hd
def Nj: ∀(g:List (List Int)) (k:Nat),HY k g=true→ ∀(i:Nat) (l:List Int),g[i]? =some l→l.length≤3∧l.Nodup∧ ∀c∈l,(3:Int)≤c∧c<3+((k+i:Nat):Int)
 | [],_,_,_,_,h=>by cases h
 | l ::r,k,h,i,l',hi=>by
   simp only[HY,BY,CY]at h;cases i with
   | zero=>
     simp at hi;subst hi;obtain⟨h1,h2⟩:=Pf l [] h.2.1 .nil;exact⟨h.1,by simpa using h1,by simpa using h2⟩
   | succ i=>
     simp at hi;have:=Nj r (k+1) h.2.2 i l' hi;rw[show k+(i+1)=k+1+i by omega];exact this
def Dk {g:List (List Int)} (h:Df g=true):Ha g:=by
 simp only[Df,BY,CY]at h;refine⟨h.1,fun i l hi=>?_⟩;have:=Nj g 0 h.2 i l hi;simpa using this
def Ib {g:List (List Int)} (h:Ha g):ordered g:=by
 intro c p hp;unfold par at hp;split at hp
 ·cases hp
 ·rename_i h3
  rw[Dc]at hp;cases hq:g[c - 3]? with
  | none=>rw[hq]at hp;cases hp
  | some l=>
    rw[hq]at hp;have:=(h.2 _ _ hq).2.2 p hp;omega
def Fa {i:Nat} {cs:List ON} {c:Int} (h:c∈BT i cs):(3:Int)+i≤c∧c<3+i+cs.length:=by
 induction cs generalizing i with
 | nil=>cases h
 | cons d r ih=>
   simp only[BT,FQ,List.mem_replicate]at h;simp only[MC];rcases h with⟨_,rfl⟩|h
   ·omega
   ·have:=ih h;omega
def NY {p:Prog} (h1:p.AN.length≤10) (h2:Cb 0 p.AN=true) (h3:Df (Ay p)=true):Km (AQ p):=by
 have hl:(AQ p).parents.length=p.AN.length:=by simp[AQ,Ay]
 refine⟨by omega,Ib (Dk h3),fun c hc=>?_,?_⟩
 ·have:=Fa hc
  rw[hl];omega
 ·have:=(Ey _ _ h2).1
  simp only[AQ,CL];omega
def Xh (p : Prog):Pure Tryz.prog 93 [.a (BU p)] (.b (A7 p)):=by
 refine Pure.fit (by kernel_rfl) fun hf=>?_
 have F:=Jn hf.1;have hcl:=F.1;have hM:=Mx;refine mw kZ ?_
 conv=>whnf
 repeat'((first|apply st|(apply sq;intro K U)|(apply si;intro A B Y Z)|(apply Y;clear Z B Y A)|(apply U;clear U K)|refine⟨rfl,?_⟩|(constructor<;>intro hc<;>(try rw[hc])<;>(replace hc:=bp hc)<;>(try simp(disch:=omega) only[BQ,wrap64,AL]at hc))|clear U K)<;>conv=>whnf)
 ·exact AI (by simp[A7];intros;omega)
 have h10:p.AN.length≤10:=by omega
 refine CZ p.AN.length (fun k (n:Int)=>[(3,eI n),(4,eI (BL k))]) (fun _ _=>[]) (fun k n=>Cb 0 p.AN=Cb n (p.AN.drop k)∧0≤n∧n+Bp (p.AN.drop k)=Bp p.AN∧n≤4*k) 0 rfl (by simp) Sat.nil ?_;rintro k n σ hk ⟨hn,hn0,hn1,hn2⟩ hs
 conv=>whnf
 repeat'((first|apply st|(apply sq;intro K U)|(apply si;intro A B Y Z)|(apply Y;clear Z B Y A)|(apply U;clear U K)|refine⟨rfl,?_⟩|refine⟨kZ,?_⟩|refine ix ?_|(refine fc (fun x hx hlt hc=>?_) (fun hk hc=>?_)<;>(try rw[hc])<;>clear hc)|refine Pure.use (Z8 _ (by omega)) ?_|refine Pure.use (cp _ _) ?_|(constructor<;>intro hc<;>(try rw[hc])<;>(replace hc:=bp hc)<;>(try simp(disch:=omega) only[BQ,wrap64,AL]at hc))|clear U K)<;>conv=>whnf)
 ·exact AI (by simp only[A7];rw[hn,drop_cons hx,Cb];simp;intros;omega)
 ·have hms:n+(x.AS.length:Int)+Bp (p.AN.drop (k+1))=Bp p.AN:=by
   rw[drop_cons hx]at hn1;simp only[Bp,Et,List.sum_cons]at hn1 ⊢;omega
  have hsl:=(F.2 x (Cj hx)).2.1
  have hn':Cb 0 p.AN=(Je n x.AS&&Cb (n+x.AS.length) (p.AN.drop (k+1))):=by
   have a1:x.AS.length≤4:=by omega
   have a2:x.parents.length≤3:=by omega
   rw[hn,drop_cons hx,Cb];simp only[a1,a2,decide_true,EW]
  revert x
  rintro c hx hcs h3 hms hsl hn';refine CZ c.AS.length (fun j (m:Int)=>[(3,eI m),(6,eI (BL j))]) (fun _ _=>[]) (fun j m=>Cb 0 p.AN=(Je m (c.AS.drop j)&&Cb (n+c.AS.length) (p.AN.drop (k+1)))∧m=n+j) n rfl ⟨hn',by simp⟩ Sat.nil ?_;rintro j m σ hj ⟨hm,he⟩ hs
  conv=>whnf
  repeat'((first|apply st|(apply sq;intro K U)|(apply si;intro A B Y Z)|(apply Y;clear Z B Y A)|(apply U;clear U K)|refine⟨rfl,?_⟩|refine ix ?_|(refine fc (fun x hx hlt hc=>?_) (fun hk hc=>?_)<;>(try rw[hc])<;>clear hc)|(constructor<;>intro hc<;>(try rw[hc])<;>(replace hc:=bp hc))|clear U K)<;>conv=>whnf)
  ·exact AI (by simp only[A7];rw[hm,drop_cons (by assumption),Je];simp[hc])
  ·refine⟨hlt,_,rfl,⟨?_,?_⟩,hs⟩
   ·rw[hm,drop_cons (by assumption),Je,wrap64 (by omega) (by omega)];simp[hc]
   ·rw[wrap64 (by omega) (by omega)];omega
  ·refine⟨by assumption,m,rfl,⟨?_,by omega,by omega,by omega⟩,hs⟩
   rw[hm,An (by assumption),Je,EW,he];congr 1;omega
 ·exact AI (by simp only[A7];rw[hn,drop_cons hx,Cb];simp;intros;omega)
 ·have hne:n=Bp p.AN:=by rw[An hk]at hn1;simpa[Bp]using hn1
  exact AI (by simp only[A7];rw[hc];simp)
 ·have hne:n=Bp p.AN:=by rw[An hk]at hn1;simpa[Bp]using hn1
  have hsb:Cb 0 p.AN=true:=by rw[hn,An hk];rfl
  have hms:=(Ey _ _ hsb).1;have hok:=NY h10 hsb hc
  have hcb:A7 p=Fp (AQ p) n 0 p.AN:=by
   simp only[A7,hsb,hc,←hne];simp[*]
  refine(MD p F (by omega) (by omega)).use ?_
  conv=>whnf
  repeat'((first|apply st|(apply sq;intro K U)|(apply si;intro A B Y Z)|(apply Y;clear Z B Y A)|(apply U;clear U K)|refine sn fun σ hs=>?_|(intro nn hnn;generalize hg:A8 _ nn _=σ;refine al hg fun hs=>?_;clear hg)|fail)<;>conv=>whnf)
  refine CZ p.AN.length (fun k (_:Unit)=>[(9,eI (BL k))]) (fun _ _=>[.box nn (A2 (AQ p))]) (fun k _=>A7 p=Fp (AQ p) n k (p.AN.drop k)) () rfl (by rw[hcb];rfl) hs ?_;rintro k - σ hk hn hs
  conv=>whnf
  repeat'((first|apply st|(apply sq;intro K U)|(apply si;intro A B Y Z)|(apply Y;clear Z B Y A)|(apply U;clear U K)|refine⟨rfl,?_⟩|(refine fc (fun x hx hlt hc=>?_) (fun hk hc=>?_)<;>(try rw[hc])<;>clear hc)|clear U K)<;>conv=>whnf)
  ·have e3 : IntKind.i64.wrap (BL k+3)=(k:Int)+3:=by rw[AL (by omega),wrap64 (by omega) (by omega)]
   rw[e3];have hgl:(Ay p).length=p.AN.length:=by simp[Ay]
   refine(gd (Ay p) false ((k:Int)+3) (Dk hc) (by omega) (by omega)).use ?_
   conv=>whnf
   repeat'((first|apply st|(apply sq;intro K U)|(apply si;intro A B Y Z)|(apply Y;clear Z B Y A)|(apply U;clear U K)|refine ix ?_|(constructor<;>intro hc<;>(try rw[hc])<;>(replace hc:=bp hc))|clear U K)<;>conv=>whnf)
   ·have hlb:bO (AQ p).parents ((k:Int)+3)=false:=by
     show(!((Bx (Ay p)).getD ((k:Int)+3).toNat []).isEmpty)=false;rw[hc];rfl
    exact AI (by rw[hn,drop_cons hx,Fp,hlb];rfl)
   ·have hil:=(F.2 x (Cj hx)).2.2
    have hn':A7 p=(D1 (AQ p) ((k:Int)+3) n [] x.inits&&Fp (AQ p) n (k+1) (p.AN.drop (k+1))):=by
     have hlb:bO (AQ p).parents ((k:Int)+3)=true:=by
      show(!((Bx (Ay p)).getD ((k:Int)+3).toNat []).isEmpty)=true;rw[hc];rfl
     rw[hn,drop_cons hx,Fp,hlb];rfl
    revert x
    rintro c hx hil hn';refine CZ c.inits.length (fun j (_:Unit)=>[(14,eI (BL j))]) (fun _ _=>[.box nn (A2 (AQ p))]) (fun j _=>A7 p=(D1 (AQ p) ((k:Int)+3) n (c.inits.take j) (c.inits.drop j)&&Fp (AQ p) n (k+1) (p.AN.drop (k+1)))) () rfl (by rw[hn'];rfl) hs ?_;rintro j - σ hj hm hs
    conv=>whnf
    repeat'((first|apply st|(apply sq;intro K U)|(apply si;intro A B Y Z)|(apply Y;clear Z B Y A)|(apply U;clear U K)|apply dr|refine⟨rfl,?_⟩|refine⟨kZ,?_⟩|refine ix ?_|refine ld ?_|(refine fc (fun x hx hlt hc=>?_) (fun hk hc=>?_)<;>(try rw[hc])<;>clear hc)|(constructor<;>intro hc<;>(try rw[hc])<;>(replace hc:=bp hc))|clear U K)<;>conv=>whnf)
    ·refine(To (AQ p) ((k:Int)+3) x.1 hok (by omega) (by rw[show(AQ p).parents=Ay p from rfl];omega) (by omega) (by rw[show(AQ p).owner=BT 0 p.AN from rfl,CL];omega)).use ?_
     conv=>whnf
     repeat'((first|apply st|(apply sq;intro K U)|(apply si;intro A B Y Z)|(apply Y;clear Z B Y A)|(apply U;clear U K)|apply dr|refine ix ?_|refine Pure.use (eC _) ?_|(constructor<;>intro hc<;>(try rw[hc])<;>(replace hc:=bp hc))|clear U K)<;>conv=>whnf)
     ·exact AI (by rw[hm,drop_cons hx,D1];simp[*])
     ·have hm':A7 p=((c.inits.take j).all (fun y=>y.1 != x.1)&&(D1 (AQ p) ((k:Int)+3) n (c.inits.take (j+1)) (c.inits.drop (j+1))&&Fp (AQ p) n (k+1) (p.AN.drop (k+1)))):=by
       have b1:decide (0≤x.1)=true:=decide_eq_true (by assumption);have b2:decide (x.1<n)=true:=decide_eq_true (by assumption);rw[hm,drop_cons hx,D1,AX hx,b1,b2,‹hasB _ _ _=true›,hc];simp only[EW,Bool.and_assoc]
      revert x
      rintro x hxj hx0 hx1 hhb hbt hm';refine CZ j (fun i (_:Unit)=>[(15,eI (BL i))]) (fun _ _=>[.box nn (A2 (AQ p))]) (fun i _=>A7 p=(((c.inits.take j).drop i).all (fun y=>y.1 != x.1)&&(D1 (AQ p) ((k:Int)+3) n (c.inits.take (j+1)) (c.inits.drop (j+1))&&Fp (AQ p) n (k+1) (p.AN.drop (k+1))))) () rfl (by rw[hm'];rfl) hs ?_;rintro i - σ hi hl hs;rcases Nat.lt_or_ge i j with hij|hij
      ·obtain⟨y,hy⟩: ∃y,c.inits[i]? =some y:=⟨_,Da (by omega)⟩
       have hy':(c.inits.take j)[i]? =some y:=by rw[List.getElem?_take,if_pos hij,hy]
       conv=>whnf
       repeat'((first|apply st|(apply sq;intro K U)|(apply si;intro A B Y Z)|(apply Y;clear Z B Y A)|(apply U;clear U K)|apply dr|refine⟨rfl,?_⟩|refine ix ?_|(constructor<;>intro hc<;>(try rw[hc])<;>(replace hc:=bp hc)<;>(try simp(disch:=omega) only[BQ,wrap64,AL]at hc)<;>try(exfalso;omega))|clear U K)<;>conv=>whnf)
       ·exact AI (by rw[hl,drop_cons hy',TV,hc];simp)
       ·refine⟨hij,(),rfl,?_,hs⟩
        have hc':(y.1 != x.1)=true:=by simpa using hc
        rw[hl,drop_cons hy',TV,hc',EW]
      ·conv=>whnf
       repeat'((first|apply st|(apply sq;intro K U)|(apply si;intro A B Y Z)|(apply Y;clear Z B Y A)|(apply U;clear U K)|refine⟨rfl,?_⟩|(constructor<;>intro hc<;>(try rw[hc])<;>(replace hc:=bp hc)<;>(try simp(disch:=omega) only[BQ,wrap64,AL]at hc)<;>try(exfalso;omega))|clear U K)<;>conv=>whnf)
       refine⟨by assumption,(),rfl,?_,hs⟩;rw[hl,List.drop_of_length_le (by rw[MS];omega),List.all_nil,EW]
     ·exact AI (by rw[hm,drop_cons hx,D1];simp[*])
    ·exact AI (by rw[hm,drop_cons hx,D1];simp;intros;omega)
    ·exact AI (by rw[hm,drop_cons hx,D1];simp;intros;omega)
    ·refine⟨by assumption,(),rfl,?_,hs⟩
     rw[hm,An hk,D1,EW]
  ·exact AI (by rw[hn,An hk];rfl)
 ·have hne:n=Bp p.AN:=by rw[An hk]at hn1;simpa[Bp]using hn1
  exact AI (by simp only[A7];rw[←hne];simp[hc])
def FF (f:Int→Int→List Int→Option (List Int)) (op size:Int):Nat→List Int→List Int→Option (List Int)
 | _,[],s=>some s
 | i,k::r,s=>match f k (if op=9∧i=1 then size+1 else size) s with
   | none=>none
   | some s'=>FF f op size (i+1) r s'
def Dy (p:Prog) (next:Bool) (size:Int) (x:Node):Bool:=((x.kids.length:Int)==H4 p x)&&(Ks p x size&&(x.op != 18||next))
def CD (p:Prog) (next:Bool):Nat→Int→Int→List Int→Option (List Int)
 | 0,_,_,_=>none
 | d+1,n,size,s=>
   if n<0∨(p.nodes.length:Int)≤n∨0≤s.getD n.toNat 0 then none else
   match p.nodes[n.toNat]? with
   | none=>none
   | some x=>if Dy p next size x then FF (CD p next d) x.op size 0 x.kids (s.set n.toNat size)else none
def Rv (v:V) (s:List Int) (o:Option (List Int)) (r:R) (post:List At):Prop:=
 ∃s':List Int,s'.length=s.length∧post= [.own v 1 (iL s')]∧((o=some s'∧r= .ret (.b true))∨(o=none∧r= .ret (.b false)))
def Mo {v:V} {s s':List Int} {o:Option (List Int)} {σ:AH} {rest:List At} (hs:Sat σ (.own v 1 (iL s')::rest)) (hl:s'.length=s.length) (ho:o=none):Ax σ (.b false) fun r σ'=> ∃post,Rv v s o r post∧Sat σ' post:=
 Ar hs (.cons₂ _ (Lx _)) (.refl _) fun σ' hs'=>⟨_,⟨s',hl,rfl,.inr ⟨ho,rfl⟩⟩,hs'⟩
def Yr {p:Prog} (h:Ev (.a (BU p))) {x:Node} (hx:x∈p.nodes):x.kids.length≤Ae:=by
 simp only[BU,IC,EP,Ed,IF]at h
 have h2:HA (H5 x):=by
  first|exact h.2.2.2.2.1.2 x hx|exact h.2.2.2.2.2.1.2 x hx|exact h.2.2.2.1.2 x hx|exact h.2.2.1.2 x hx|exact h.2.1.2 x hx
 simp only[H5,EP,Ed,BQ]at h2
 first|exact h2.2.2.1.1|exact h2.2.2.1|exact h2.1
def ME {p:Prog} {next:Bool} {d:Nat} {n size:Int} {s:List Int} {x:Node} {y:Int} (h0:0≤n) (h1:n<(p.nodes.length:Int)) (hs:s[n.toNat]? =some y) (hy:y<0) (hx:p.nodes[n.toNat]? =some x) :
    CD p next (d+1) n size s=if Dy p next size x then FF (CD p next d) x.op size 0 x.kids (s.set n.toNat size)else none:=by
 have e:s.getD n.toNat 0=y:=by rw[Dc,hs];rfl
 simp only[CD];rw[if_neg (by rw[e];omega),hx]
def K8 {p:Prog} {next:Bool} {d:Nat} {n size:Int} {s:List Int} (h:n<0∨(p.nodes.length:Int)≤n∨0≤s.getD n.toNat 0):CD p next (d+1) n size s=none:=by
 simp only[CD];rw[if_pos h]
set_option maxHeartbeats 4000000 in
def YV (p : Prog) (next:Bool): ∀d:Nat,d≤12→ ∀(n size depth:Int) (s:List Int) (v:V),depth=13 - d→0≤size→size+d≤100→s.length=p.nodes.length→(Cc v).isSome=true→
    Bd Tryz.prog 96 [.a (BU p),eI n,eI size,eI depth,.b next,v] [.own v 1 (iL s)] (Rv v s (CD p next d n size s)):=by
 intro d
 induction d with
 | zero=>
   intro _ n size depth s v hd h0 h1 hl hv σ hs;refine BC.fit (by kernel_rfl) fun hf=>?_
   have⟨p1,p2,p3,p4⟩:=Gq hf.1;have hM:=Mx;refine eJ kZ ?_
   conv=>whnf
   repeat'((first|apply st|(apply sq;intro K U)|(apply si;intro A B Y Z)|(apply Y;clear Z B Y A)|(apply U;clear U K)|refine⟨rfl,?_⟩|refine oi ?_|refine ol fun x hx=>?_|(constructor<;>intro hc<;>(try rw[hc])<;>(replace hc:=bp hc)<;>(try simp(disch:=omega) only[BQ,wrap64,AL]at hc)<;>try(exfalso;omega))|clear U K)<;>conv=>whnf)
   all_goals exact Ar hs (.refl _) (.refl _) fun σ' hs'=>⟨_,⟨s,rfl,rfl,.inr ⟨rfl,rfl⟩⟩,hs'⟩
 | succ d ih =>
   intro hd12 n size depth s v hd h0 h1 hl hv σ hs;refine BC.fit (by kernel_rfl) fun hf=>?_
   have⟨p1,p2,p3,p4⟩:=Gq hf.1;have hM:=Mx;refine eJ kZ ?_
   conv=>whnf
   repeat'((first|apply st|(apply sq;intro K U)|(apply si;intro A B Y Z)|(apply Y;clear Z B Y A)|(apply U;clear U K)|apply dr|refine rk ?_ ?_|exact fun s e=>by cases e;rfl|refine⟨rfl,?_⟩|refine⟨kZ,?_⟩|refine iq fun x hx=>?_|refine ld ?_|refine sn fun σ hs=>?_|refine oi ?_|refine ol fun x hx=>?_|refine oset fun σ hs=>?_|refine Pure.use (cZ _ _) ?_|refine Pure.use (W0 _ _ _) ?_|(constructor<;>intro hc<;>(try rw[hc])<;>(replace hc:=bp hc)<;>(try simp(disch:=omega) only[BQ,wrap64,AL]at hc)<;>try(exfalso;omega))|(intro nn hnn;generalize hg:A8 _ nn _=σ;refine al hg fun hs=>?_;clear hg)|clear U K)<;>conv=>whnf)
   ·exact Mo hs (by simp) (by rw[ME (by assumption) (by assumption) (by assumption) (by assumption) hx];simp[Dy, *])
   rotate_left
   ·cases hc
   rotate_left
   ·exact Mo hs (by simp) (by rw[ME (by assumption) (by assumption) (by assumption) (by assumption) hx];simp[Dy, *])
   ·exact Mo hs (by simp) (by rw[ME (by assumption) (by assumption) (by assumption) (by assumption) hx];simp[Dy, *])
   ·exact Mo hs rfl (K8 (.inr (.inr (by rw[Dc,hx];exact hc))))
   ·exact Mo hs rfl (K8 (.inr (.inl hc)))
   ·exact Mo hs rfl (K8 (.inl hc))
   all_goals
    have hW:CD p next (d+1) n size s=FF (CD p next d) x.op size 0 x.kids (s.set n.toNat size):=by
     rw[ME (by assumption) (by assumption) (by assumption) (by assumption) hx];simp[Dy, *]
    rw[hW]
    rename Node=>nd
    refine CZ nd.kids.length (fun k (_:List Int)=>[(14,eI (BL k))]) (fun _ s'=>[.own v 1 (iL s'),.obj nn (.cs (H5 nd))]) (fun k s'=>s'.length=s.length∧FF (CD p next d) nd.op size 0 nd.kids (s.set n.toNat size)=FF (CD p next d) nd.op size k (nd.kids.drop k) s') (s.set n.toNat size) rfl ⟨by simp,by simp⟩ hs ?_;clear hs;rintro k s' σ hk ⟨hl',hkids⟩ hs;have hkm:=Yr hf.1 (Cj hx);have hck:BL k=k:=AL (by omega);by_cases hlt:k<nd.kids.length
    ·obtain⟨kid,hkid⟩: ∃kid,nd.kids[k]? =some kid:=⟨_,Da hlt⟩
     have hrec:=fun kid sz h0 h1=>ih (by omega) kid sz (depth+1) s' v (by omega) h0 h1 (by omega) hv
     conv=>whnf
     repeat'((first|apply st|(apply sq;intro K U)|(apply si;intro A B Y Z)|(apply Y;clear Z B Y A)|(apply U;clear U K)|apply dr|refine⟨rfl,?_⟩|refine⟨kZ,?_⟩|refine ix ?_|refine ld ?_|(refine fc (fun x hx hlt hc=>?_) (fun hk hc=>?_)<;>(try rw[hc])<;>clear hc)|(constructor<;>intro hc<;>(try rw[hc])<;>(replace hc:=bp hc)<;>(try simp(disch:=omega) only[BQ,wrap64,AL]at hc)<;>try(exfalso;omega))|clear U K)<;>conv=>whnf)
     all_goals try(exfalso;omega)
     all_goals try refine Hy (enc:=fun i:Int=>[V.i .i64 i]) hkid hkm rfl ?_
     conv=>whnf
     all_goals try(exfalso;omega)
     all_goals
      have hK2:=hkids;rw[drop_cons hx,FF]at hK2
      first
       | rw[if_pos (by omega)]at hK2
         rw[wrap64 (by omega) (by omega),wrap64 (by omega) (by omega)];refine(hrec x (size+1) (by omega) (by omega)).use hs ?_
       | rw[if_neg (by omega)]at hK2
         rw[wrap64 (by omega) (by omega)];refine(hrec x size (by omega) (by omega)).use hs ?_
      rintro r post σ' ⟨s2,hl2,rfl,⟨ho,rfl⟩|⟨ho,rfl⟩⟩ hs
      ·rw[ho]at hK2
       conv=>whnf
       repeat'((first|apply st|(apply sq;intro K U)|(apply si;intro A B Y Z)|(apply Y;clear Z B Y A)|(apply U;clear U K)|apply dr|refine⟨rfl,?_⟩|(constructor<;>intro hc<;>(try rw[hc])<;>(replace hc:=bp hc)<;>(try simp(disch:=omega) only[BQ,wrap64,AL]at hc))|clear U K)<;>conv=>whnf)
       all_goals first|(exfalso;cases hc;done)|exact⟨hlt,s2,rfl,⟨by omega,hK2⟩,hs⟩
      ·rw[ho]at hK2
       conv=>whnf
       repeat'((first|apply st|(apply sq;intro K U)|(apply si;intro A B Y Z)|(apply Y;clear Z B Y A)|(apply U;clear U K)|apply dr|refine⟨rfl,?_⟩|(constructor<;>intro hc<;>(try rw[hc])<;>(replace hc:=bp hc)<;>(try simp(disch:=omega) only[BQ,wrap64,AL]at hc))|clear U K)<;>conv=>whnf)
       all_goals first|exact Mo hs (by omega) hK2|(exfalso;cases hc;done)
    ·have hke:k=nd.kids.length:=by omega
     conv=>whnf
     repeat'((first|apply st|(apply sq;intro K U)|(apply si;intro A B Y Z)|(apply Y;clear Z B Y A)|(apply U;clear U K)|refine⟨rfl,?_⟩|refine ld ?_|(refine fc (fun x hx hlt hc=>?_) (fun hk hc=>?_)<;>(try rw[hc])<;>clear hc)|(constructor<;>intro hc<;>(try rw[hc])<;>(replace hc:=bp hc)<;>try(exfalso;omega))|clear U K)<;>conv=>whnf)
     all_goals try(exfalso;omega)
     rw[hke,An rfl]at hkids;exact Ar hs (.cons₂ _ (Lx _)) (.refl _) fun σ' hs'=>⟨_,⟨s',hl',rfl,.inl ⟨(by first|rw[hW,hkids,FF]|rw[hkids,FF]),rfl⟩⟩,hs'⟩
end Go.Gl
namespace Go.Gl
variable {P:Program} {σ:AH} {env:Env}
def lo {l:List At} {i:Nat} {v:V} {sz:Nat} {es:List (List V)} {K:V→Prop} (hk:K (.i .i64 es.length)) (h:Sat σ l:=by assumption)
    (hi:l[i]? =some (.own v sz es):=by first|exact RK|exact RJ|exact RI|exact RH|exact RG|exact RF) (hm:es.length≤Ae:=by first|omega|(simp only[BQ,List.length_replicate,List.length_set,Ae]at *;omega)):A6 v K:=lq h i hi hm hk
def Sat.take {l:List At} (h:Sat σ l) (n:Nat):Sat σ (l.take n):=h.less (List.take_sublist _ _)
def Cg {b:Bool} {σ σ':AH}:Gd σ σ' (.l [] b) (.l [] false):= .l (fun h=>by cases h) .nil
def Ml {b:Bool} {σ σ':AH} {es:List (List V)}:Gd σ σ' (.l es b) (.l es false):= .l (fun h=>by cases h) (Fk.refl _ _ _)
mutual
def Pv {σ σ':AH}: ∀vs:List V,Dd σ σ' vs vs
 | []=> .nil
 | v::r=> .cons (.refl v) (Pv r)
end
def Ij {σ σ':AH}: ∀es:List (List V),Fk σ σ' es es
 | []=> .nil
 | e::r=> .cons (Pv e) (Ij r)
def BS {α:Type} (xs:List α) {k:Nat} (hk:k≤xs.length):(∃x,xs[k]? =some x∧k<xs.length)∨k=xs.length:=by
 rcases Nat.lt_or_ge k xs.length with h|h
 ·exact .inl ⟨_,Da h,h⟩
 ·exact .inr (by omega)
def Cs {α:Type} {enc:α→List V} {xs:List α} {k:Nat} {x:α} {A B:Prop} (h1:decide (BL k<((xs.map enc).length:Nat))=true→A) (hx:xs[k]? =some x:=by assumption) (hm:xs.length≤Ae:=by first|assumption|omega|simp[Ae]<;>omega) :
    (decide (BL k<((xs.map enc).length:Nat))=true→A)∧(decide (BL k<((xs.map enc).length:Nat))=false→B):=by
 refine⟨h1,fun h=>?_⟩;have hlt:=(Hr.1 hx).1;rw[AL (by omega),BQ]at h;have:=of_decide_eq_false h;omega
def EV {α:Type} {enc:α→List V} {xs:List α} {k:Nat} {A B:Prop} (h1:decide (BL k<((xs.map enc).length:Nat))=false→B) (hx:k=xs.length:=by assumption) (hm:xs.length≤Ae:=by first|assumption|omega|simp[Ae]<;>omega) :
    (decide (BL k<((xs.map enc).length:Nat))=true→A)∧(decide (BL k<((xs.map enc).length:Nat))=false→B):=by
 refine⟨fun h=>?_,h1⟩;rw[AL (by omega),BQ]at h;have:=of_decide_eq_true h;omega
def F8 {α:Type} {enc:α→List V} {xs:List α} {f:Bool} {sz:Nat} {K:V→Prop} {ki:IntKind} {j:Int} {x:α} (h:K (.rp (enc x))) (hx:xs[j.toNat]? =some x:=by assumption) (h0:0≤j:=by omega) (hs:(enc x).length=sz:=by first|rfl|simp|(rw[B5];rfl)) :
    AU sz none (.l (xs.map enc) f) (.i ki j) K:=RY j.toNat hx (by omega) hs h
def L2 {xs:List Fact} {f:Bool} {K:V→Prop} {ki:IntKind} {j:Int} {x:Fact} (h:K (.rp (xF x))) (hx:xs[j.toNat]? =some x:=by assumption) (h0:0≤j:=by omega):AU 6 none (.l (xs.map Fq) f) (.i ki j) K:=by
 refine F8 ?_ hx h0;rw[B5];exact h
class CB (b:Bool) (v:outParam Bool):Prop where
 h:b=v
instance :CB true true:=⟨rfl⟩
instance :CB false false:=⟨rfl⟩
instance {b:Bool} [i:CB b true]:CB (!b) false:=⟨by rw[i.h];rfl⟩
instance {b:Bool} [i:CB b false]:CB (!b) true:=⟨by rw[i.h];rfl⟩
instance {b x y v:Bool} [i:CB b true] [j:CB x v]:CB (bif b then x else y) v:=⟨by rw[i.h,j.h];rfl⟩
instance {b x y v:Bool} [i:CB b false] [j:CB y v]:CB (bif b then x else y) v:=⟨by rw[i.h,j.h];rfl⟩
instance {a b:Bool} [i:CB a true] [j:CB b true]:CB (a==b) true:=⟨by rw[i.h,j.h];rfl⟩
instance {a b:Bool} [i:CB a true] [j:CB b false]:CB (a==b) false:=⟨by rw[i.h,j.h];rfl⟩
instance {a b:Bool} [i:CB a false] [j:CB b true]:CB (a==b) false:=⟨by rw[i.h,j.h];rfl⟩
instance {a b:Bool} [i:CB a false] [j:CB b false]:CB (a==b) true:=⟨by rw[i.h,j.h];rfl⟩
instance {a b:Bool} [i:CB a true] [j:CB b true]:CB (a != b) false:=⟨by rw[i.h,j.h];rfl⟩
instance {a b:Bool} [i:CB a true] [j:CB b false]:CB (a != b) true:=⟨by rw[i.h,j.h];rfl⟩
instance {a b:Bool} [i:CB a false] [j:CB b true]:CB (a != b) true:=⟨by rw[i.h,j.h];rfl⟩
instance {a b:Bool} [i:CB a false] [j:CB b false]:CB (a != b) false:=⟨by rw[i.h,j.h];rfl⟩
def E7 {A B:Prop} {b:Bool} [i:CB b true] (h:A):(b=true→A)∧(b=false→B):=⟨fun _=>h,fun e=>(by rw[i.h]at e;cases e)⟩
def EA {A B:Prop} {b:Bool} [i:CB b false] (h:B):(b=true→A)∧(b=false→B):=⟨fun e=>(by rw[i.h]at e;cases e),fun _=>h⟩
def WU {A B:Prop} {b:Bool} [i:CB b true] (h:B):(b=false→A)∧(b=true→B):=⟨fun e=>(by rw[i.h]at e;cases e),fun _=>h⟩
def Ku {A B:Prop} {b:Bool} [i:CB b false] (h:A):(b=false→A)∧(b=true→B):=⟨fun _=>h,fun e=>(by rw[i.h]at e;cases e)⟩
def uB {l:List At} {i:Nat} {v:V} {sz:Nat} {es:List (List V)} {ki:IntKind} {j:Int} {K:V→Prop} (hk:K (GC v sz j.toNat)) (h:Sat σ l:=by assumption)
    (hi:l[i]? =some (.own v sz es):=by first|exact RK|exact RJ|exact RI|exact RH|exact RG|exact RF) (h0:0≤j:=by omega) (h1:j<es.length:=by(simp only[BQ,List.length_set];omega)):AU sz none v (.i ki j) K:=
 a6 h i j.toNat hi (by omega) (by omega) hk
def lQ {α:Type} {enc:α→List V} {xs:List α} {x:α} {l:List At} {i:Nat} {v:V} {sz k:Nat} {agg:Option Nat} {K:V→Prop} (hk:cut agg (enc x) 0 K) (h:Sat σ l:=by assumption)
    (hi:l[i]? =some (.own v sz (xs.map enc)):=by first|exact RK|exact RJ|exact RI|exact RH|exact RG|exact RF) (hx:xs[k]? =some x:=by assumption):Ab σ agg (GC v sz k) K:=
 IS h i hi (by rw[Pw,hx];rfl) hk
def mA {v:V} (h:(Cc v).isSome=true): ∃n l c,v= .sl n l c:=by
 cases v<;>first|(cases h;done)|exact⟨_,_,_,rfl⟩
end Go.Gl
namespace Go.Gl
open Go.Proofs
attribute [local irreducible] BC Ax Ai AU AO Ag AV AW AM Af AR AT A0 A9 Sat Ab A6 Ak W
def Ns {w:AK} (f:Fact):Be w f=true→Mq f=true:=by
 induction f using Fact.ind with
 | h f ih=>
   intro h;rw[CP]at h;simp only[C1,BY,EY,CY]at h;rw[KO];simp only[BY,CY,List.all_map,EY,Function.comp_apply,id];exact⟨⟨h.1.2.2.1,h.1.2.2.2.1⟩,fun k hk=>ih k hk (h.2 k hk)⟩
def MU (p:Prog) (m:L6):Bool:=decide (1≤m.kind)&&(decide (m.kind≤4)&&(decide (0≤m.gen)&&(decide (m.gen<(p.Cl.length:Int))&&(CN (AQ p) m.fact&&decide (C4 m.fact≤p.Cl.getD m.gen.toNat 0)))))
def runM (p:Prog):List L6→List Int→Option (List Int)
 | [],s=>some s
 | m::r,s=>if MU p m then match CD p (It m.kind) 12 m.node (p.Cl.getD m.gen.toNat 0) s with
   | none=>none
   | some s'=>runM p r s' else none
def Cn (p:Prog):Bool:=A7 p&&(decide (p.Cl.length≤8)&&(decide (p.methods.length≤16)&&(decide (1≤p.nodes.length)&&(decide (p.nodes.length≤120)&&p.Cl.all fun g=>decide (1≤g)&&decide (g≤3)))))
def BM (p:Prog):Option (List Int):=if Cn p then match runM p p.methods (List.replicate p.nodes.length (-1))with
 | none=>none
 | some s=>match CD p false 12 p.main 0 s with
   | none=>none
   | some s=>if s.all fun n=>decide (0≤n)then some s else none else none
def Iu (p:Prog):Option (List Int)→Option (List Int)
 | none=>none
 | some s=>match CD p false 12 p.main 0 s with
   | none=>none
   | some s=>if s.all fun n=>decide (0≤n)then some s else none
def LZ (p:Prog):V:=match BM p with
 | none=> .t [.l [] true,.b false]
 | some s=> .t [.l (iL s) false,.b true]
def dw {p:Prog} (h:BM p=none):LZ p= .t [.l [] true,.b false]:=by simp only[LZ,h]
def mP {p:Prog} (h:Cn p=false):LZ p= .t [.l [] true,.b false]:=dw (by unfold BM;rw[h];rfl)
def Jp {p:Prog} {σ:AH} (h:BM p=none):Ax σ (.t [.l [] true,.b false]) fun r σ'=>r=R.ret (LZ p)∧σ'=emp:=by
 rw[dw h];exact AI rfl
def Mn {p:Prog} {σ:AH} (h:Cn p=false):Ax σ (.t [.l [] true,.b false]) fun r σ'=>r=R.ret (LZ p)∧σ'=emp:=by
 rw[mP h];exact AI rfl
def Va {p:Prog} (h:Cn p=true):BM p=Iu p (runM p p.methods (List.replicate p.nodes.length (-1))):=by
 unfold BM;rw[if_pos h];rfl
def DP {p:Prog} {k:Nat} {x:L6} {s:List Int} (hx:p.methods[k]? =some x) (hn:BM p=Iu p (runM p (p.methods.drop k) s)) (hok:MU p x=false):BM p=none:=by
 rw[hn,drop_cons hx,runM,if_neg (by simp[hok])];rfl
def PA {p:Prog} {k:Nat} {x:L6} {s:List Int} (hx:p.methods[k]? =some x) (hn:BM p=Iu p (runM p (p.methods.drop k) s)) (hok:MU p x=true) (hw:CD p (It x.kind) 12 x.node (p.Cl.getD x.gen.toNat 0) s=none):BM p=none:=by
 rw[hn,drop_cons hx,runM,if_pos hok,hw];rfl
def VL {p:Prog} {k:Nat} {x:L6} {s s':List Int} (hx:p.methods[k]? =some x) (hn:BM p=Iu p (runM p (p.methods.drop k) s)) (hok:MU p x=true) (hw:CD p (It x.kind) 12 x.node (p.Cl.getD x.gen.toNat 0) s=some s'):BM p=Iu p (runM p (p.methods.drop (k+1)) s'):=by
 rw[hn,drop_cons hx,runM,if_pos hok,hw]
def PR {p:Prog} (h:Cn p=true) {k:Nat} {x:Int} (hx:p.Cl[k]? =some x):1≤x∧x≤3:=by
 simp only[Cn,BY,EY,CY]at h;exact h.2.2.2.2.2 x (Cj hx)
set_option maxHeartbeats 4000000 in
def gZ (p:Prog):Pure Tryz.prog 65 [.a (BU p)] (LZ p):=by
 refine Pure.fit (by kernel_rfl) fun hf=>?_
 have⟨p1,p2,p3,p4⟩:=Gq hf.1;have hM:=Mx;refine nI kZ ?_;have hs:=Sn
 conv=>whnf
 repeat'((first|apply st|(apply sq;intro K U)|(apply si;intro A B Y Z)|(apply Y;clear Z B Y A)|(apply U;clear U K)|refine⟨rfl,?_⟩|refine⟨kZ,?_⟩|refine Pure.use (Xh _) ?_|(constructor<;>intro hc<;>(try rw[hc])<;>(replace hc:=bp hc)<;>(try simp(disch:=omega) only[BQ,wrap64,AL]at hc))|clear U K)<;>conv=>whnf)
 ·exact Mn (by simp[Cn];intros;omega)
 rotate_left
 ·exact Mn (by simp[Cn];intros;omega)
 ·exact Mn (by simp[Cn];intros;omega)
 ·exact Mn (by simp[Cn];intros;omega)
 ·exact Mn (by simp[Cn, *])
 have a1:p.Cl.length≤8:=by omega
 have a2:p.methods.length≤16:=by omega
 have a3:1≤p.nodes.length:=by omega
 have a4:p.nodes.length≤120:=by omega
 have hg:Cn p=p.Cl.all fun g=>decide (1≤g)&&decide (g≤3):=by
  simp only[Cn,a1,a2,a3,a4,decide_true,EW];simp[*]
 refine CZ p.Cl.length (fun k (_:Unit)=>[(4,eI (BL k))]) (fun _ _=>[]) (fun k _=>Cn p=(p.Cl.drop k).all fun g=>decide (1≤g)&&decide (g≤3)) () rfl (by simpa using hg) hs ?_;clear hs;rintro k - σ hk hn hs
 conv=>whnf
 repeat'((first|apply st|(apply sq;intro K U)|(apply si;intro A B Y Z)|(apply Y;clear Z B Y A)|(apply U;clear U K)|refine⟨rfl,?_⟩|refine ix ?_|(refine fc (fun x hx hlt hc=>?_) (fun hk hc=>?_)<;>(try rw[hc])<;>clear hc)|(constructor<;>intro hc<;>(try rw[hc])<;>(replace hc:=bp hc))|clear U K)<;>conv=>whnf)
 ·exact Mn (by rw[hn,drop_cons hx];simp;intros;omega)
 ·exact⟨hlt,(),rfl,by rw[hn,drop_cons hx];simp[*],hs⟩
 ·exact Mn (by rw[hn,drop_cons hx];simp;intros;omega)
 have hh:Cn p=true:=by rw[hn,An hk];rfl
 have F:=Jn hf.1;have hcB:A7 p=true:=by assumption
 have hsb:Cb 0 p.AN=true:=by simp only[A7,BY]at hcB;exact hcB.2.1
 have hc10:p.AN.length≤1000:=by simp only[A7,BY,CY]at hcB;omega
 have hmS:Bp p.AN≤Ae:=by have:=(Ey _ _ hsb).1;simp only[A7,BY,CY]at hcB;omega
 have hL:=Va hh;clear hn hg;refine CZ p.nodes.length (fun j v=>[(5,v),(6,eI (BL j))]) (fun j v=>[.own v 1 (iL (List.replicate j (-1)))]) (fun j v=>1≤j→(Cc v).isSome=true) (.l [] true) rfl (fun h=>by omega) (Gg hs 1) ?_;clear hs;rintro j v σ hj hv hs
 conv=>whnf
 repeat'((first|apply st|(apply sq;intro K U)|(apply si;intro A B Y Z)|(apply Y;clear Z B Y A)|(apply U;clear U K)|refine⟨rfl,?_⟩|refine⟨kZ,?_⟩|refine sn fun σ hs=>?_|refine aq fun v σ hs hsl=>?_|(refine fc (fun x hx hlt hc=>?_) (fun hk hc=>?_)<;>(try rw[hc])<;>clear hc)|refine Pure.use (MD _ (by assumption) (by omega) (by assumption)) ?_|(intro nn hnn;generalize hg:A8 _ nn _=σ;refine al hg fun hs=>?_;clear hg)|clear U K)<;>conv=>whnf)
 ·exact⟨hlt,_,rfl,fun _=>hsl,by rw[List.replicate_succ'];exact hs⟩
 have hsv:=hv (by omega);subst hk;refine CZ p.methods.length (fun k (s:List Int)=>[(8,eI (BL k))]) (fun _ s=>[.own v 1 (iL s),.box nn (A2 (AQ p))]) (fun k s=>s.length=p.nodes.length∧BM p=Iu p (runM p (p.methods.drop k) s)) (List.replicate p.nodes.length (-1)) rfl ⟨by simp,hL⟩ hs ?_;clear hs;rintro k s σ hk ⟨hl,hn⟩ hs
 conv=>whnf
 repeat'((first|apply st|(apply sq;intro K U)|(apply si;intro A B Y Z)|(apply Y;clear Z B Y A)|(apply U;clear U K)|apply dr|refine rk ?_ ?_|exact fun s e=>by cases e;rfl|refine⟨rfl,?_⟩|refine⟨kZ,?_⟩|refine ix ?_|refine iq fun x hx=>?_|refine ld ?_|refine sn fun σ hs=>?_|(refine fc (fun x hx hlt hc=>?_) (fun hk hc=>?_)<;>(try rw[hc])<;>clear hc)|refine Pure.use (aB _ _) ?_|(constructor<;>intro hc<;>(try rw[hc])<;>(replace hc:=bp hc)<;>(try simp(disch:=omega) only[BQ,wrap64,AL]at hc))|(intro nn hnn;generalize hg:A8 _ nn _=σ;refine al hg fun hs=>?_;clear hg)|clear U K)<;>conv=>whnf)
 rotate_left
 ·exact Jp (DP hx hn (by simp[MU, *]))
 ·exact Jp (DP hx hn (by simp[MU];intros;omega))
 ·exact Jp (DP hx hn (by simp[MU];intros;omega))
 ·exact Jp (DP hx hn (by simp[MU];intros;omega))
 ·exact Jp (DP hx hn (by simp[MU];intros;omega))
 ·refine(YV p false 12 (Ja _) p.main 0 1 s v rfl (by omega) (by omega) hl hsv).use hs ?_
  clear hs;rintro r post σ ⟨s2,hl2,rfl,⟨ho,rfl⟩|⟨ho,rfl⟩⟩ hs
  ·conv=>whnf
   repeat'((first|apply st|(apply sq;intro K U)|(apply si;intro A B Y Z)|(apply Y;clear Z B Y A)|(apply U;clear U K)|(constructor<;>intro hc<;>(try rw[hc])<;>(replace hc:=bp hc)<;>(try simp(disch:=omega) only[BQ,wrap64,AL]at hc))|clear U K)<;>conv=>whnf)
   ·cases hc
   have hz:BM p=if s2.all fun n=>decide (0≤n)then some s2 else none:=by rw[hn,An hk,runM,Iu,ho]
   refine CZ s2.length (fun j (_:Unit)=>[(10,eI (BL j))]) (fun _ _=>[.own v 1 (iL s2),.box nn (A2 (AQ p))]) (fun j _=>BM p=if(s2.drop j).all fun n=>decide (0≤n)then some s2 else none) () rfl hz hs ?_;clear hs;rintro j - σ hj hz hs
   conv=>whnf
   repeat'((first|apply st|(apply sq;intro K U)|(apply si;intro A B Y Z)|(apply Y;clear Z B Y A)|(apply U;clear U K)|refine⟨rfl,?_⟩|refine oc ?_|refine ol fun x hx=>?_|(refine fc (fun x hx hlt hc=>?_) (fun hk hc=>?_)<;>(try rw[hc])<;>clear hc)|refine lo ?_|(constructor<;>intro hc<;>(try rw[hc])<;>(replace hc:=bp hc))|clear U K)<;>conv=>whnf)
   ·exact Jp (by rw[hz,drop_cons hx,TV,if_neg];simp;intros;omega)
   ·exact⟨hlt,(),rfl,by rw[hz,drop_cons hx,TV];simp[*],hs⟩
   ·have hz2:BM p=some s2:=by rw[hz,An (by assumption)];rfl
    simp only[LZ,hz2];exact Bu (.t (.cons (hs.RL 0 rfl) (.cons (.refl _) .nil)))
  ·conv=>whnf
   repeat'((first|apply st|(apply sq;intro K U)|(apply si;intro A B Y Z)|(apply Y;clear Z B Y A)|(apply U;clear U K)|(constructor<;>intro hc<;>(try rw[hc])<;>(replace hc:=bp hc)<;>(try simp(disch:=omega) only[BQ,wrap64,AL]at hc))|clear U K)<;>conv=>whnf)
   ·exact Jp (by rw[hn,An hk,runM,Iu,ho])
   ·cases hc
 rename L6=>m
 rename p.methods[k]? =some m=>hm
 refine(ZZ m.fact (Ns _ (by(have:CN (AQ p) m.fact=true:=by assumption);simp only[CN,BY]at this;exact this.2.2))).use ?_
 conv=>whnf
 repeat'((first|apply st|(apply sq;intro K U)|(apply si;intro A B Y Z)|(apply Y;clear Z B Y A)|(apply U;clear U K)|apply dr|refine rk ?_ ?_|exact fun s e=>by cases e;rfl|refine⟨rfl,?_⟩|refine⟨kZ,?_⟩|refine iq fun x hx=>?_|refine ld ?_|refine Pure.use (gQ _) ?_|(constructor<;>intro hc<;>(try rw[hc])<;>(replace hc:=bp hc))|clear U K)<;>conv=>whnf)
 ·exact Jp (DP hm hn (by simp[MU,Dc,hx];intros;omega))
 obtain⟨hx1,hx3⟩:=PR hh hx;have hgd:p.Cl.getD m.gen.toNat 0=x:=by rw[Dc,hx];rfl
 rename p.Cl[m.gen.toNat]? =some _=>hx2
 have hxe:=Option.some.inj (hx.symm.trans hx2);subst hxe;have hok:MU p m=true:=by simp only[MU,hgd,BY,CY];exact⟨by assumption,by omega,by assumption,by assumption,by assumption,by assumption⟩
 refine(YV p (It m.kind) 12 (Ja _) m.node x 1 s v rfl (by omega) (by omega) hl hsv).use (rest:=[_,_]) hs ?_;clear hs;rintro r post σ ⟨s2,hl2,rfl,⟨ho,rfl⟩|⟨ho,rfl⟩⟩ hs
 ·conv=>whnf
  repeat'((first|apply st|(apply sq;intro K U)|(apply si;intro A B Y Z)|(apply Y;clear Z B Y A)|(apply U;clear U K)|apply dr|refine⟨rfl,?_⟩|(constructor<;>intro hc<;>(try rw[hc])<;>(replace hc:=bp hc)<;>(try simp(disch:=omega) only[BQ,wrap64,AL]at hc))|clear U K)<;>conv=>whnf)
  ·cases hc
  ·exact⟨by assumption,s2,rfl,⟨by omega,VL hm hn hok (by rw[hgd];exact ho)⟩,hs.less (.cons₂ _ (.cons₂ _ (Lx _)))⟩
 ·conv=>whnf
  repeat'((first|apply st|(apply sq;intro K U)|(apply si;intro A B Y Z)|(apply Y;clear Z B Y A)|(apply U;clear U K)|apply dr|refine⟨rfl,?_⟩|(constructor<;>intro hc<;>(try rw[hc])<;>(replace hc:=bp hc)<;>(try simp(disch:=omega) only[BQ,wrap64,AL]at hc))|clear U K)<;>conv=>whnf)
  ·exact Jp (PA hm hn hok (by rw[hgd];exact ho))
  ·cases hc
def fq (p:Prog):Pure Tryz.prog 27 [.a (BU p)] (.b (BM p).isSome):=by
 refine nf kZ ?_;have h:=gZ p;unfold LZ at h;cases hl:BM p with
 | none=>
   rw[hl]at h
   conv=>whnf
   repeat'((first|apply st|(apply sq;intro K U)|(apply si;intro A B Y Z)|(apply Y;clear Z B Y A)|(apply U;clear U K)|refine⟨kZ,?_⟩|refine Pure.use (by assumption) ?_|fail)<;>conv=>whnf)
   all_goals exact AI (by first|rfl|simp)
 | some s=>
   rw[hl]at h
   conv=>whnf
   repeat'((first|apply st|(apply sq;intro K U)|(apply si;intro A B Y Z)|(apply Y;clear Z B Y A)|(apply U;clear U K)|refine⟨kZ,?_⟩|refine Pure.use (by assumption) ?_|fail)<;>conv=>whnf)
   all_goals exact AI (by first|rfl|simp)
def Ng (xs ys:List Int) (f g:Bool):Pure Tryz.prog 30 [.l (iL xs) f,.l (iL ys) g] (.b (xs==ys)):=by
 refine Pure.fit (by kernel_rfl) fun hf=>?_
 have hx:=Jl hf.1;have hy:=Jl hf.2.1;have hM:=Mx;refine na kZ ?_;have hs:=Sn
 conv=>whnf
 repeat'((first|apply st|(apply sq;intro K U)|(apply si;intro A B Y Z)|(apply Y;clear Z B Y A)|(apply U;clear U K)|refine⟨rfl,?_⟩|(constructor<;>intro hc<;>(try rw[hc])<;>(replace hc:=bp hc)<;>(try simp(disch:=omega) only[BQ,wrap64,AL]at hc))|clear U K)<;>conv=>whnf)
 ·exact AI (by(have:(xs==ys)=false:=by(simp;intro e;subst e;simp at hc));rw[this])
 have hl:xs.length=ys.length:=by omega
 refine CZ xs.length (fun k (_:Unit)=>[(13,eI (BL k))]) (fun _ _=>[]) (fun k _=>(xs==ys)=(xs.drop k==ys.drop k)) () rfl rfl Sat.nil ?_;clear hs;rintro k - σ hk hn hs;by_cases hlt:k<xs.length
 ·obtain⟨y,hyk⟩: ∃y,ys[k]? =some y:=⟨_,Da (by omega)⟩
  conv=>whnf
  repeat'((first|apply st|(apply sq;intro K U)|(apply si;intro A B Y Z)|(apply Y;clear Z B Y A)|(apply U;clear U K)|apply dr|refine⟨rfl,?_⟩|refine ix ?_|(refine fc (fun x hx hlt hc=>?_) (fun hk hc=>?_)<;>(try rw[hc])<;>clear hc)|(constructor<;>intro hc<;>(try rw[hc])<;>(replace hc:=bp hc))|clear U K)<;>conv=>whnf)
  ·exact AI (by rw[hn,drop_cons hx,drop_cons hyk];simp[hc])
  ·exact⟨hlt,(),rfl,by rw[hn,drop_cons hx,drop_cons hyk,hc];simp,hs⟩
  ·omega
 ·conv=>whnf
  repeat'((first|apply st|(apply sq;intro K U)|(apply si;intro A B Y Z)|(apply Y;clear Z B Y A)|(apply U;clear U K)|apply dr|refine⟨rfl,?_⟩|refine ix ?_|refine iq fun x hx=>?_|(refine fc (fun x hx hlt hc=>?_) (fun hk hc=>?_)<;>(try rw[hc])<;>clear hc)|(constructor<;>intro hc<;>(try rw[hc])<;>(replace hc:=bp hc)<;>try(exfalso;omega))|clear U K)<;>conv=>whnf)
  exact AI (by rw[hn,An hk,An (by omega)];rfl)
def Th:List (Fact→Bool)→List Fact→Bool
 | h::r,k::s=>h k&&Th r s
 | _,_=>true
def dh (f:Fact) (l:List (Fact→Bool)) (g:Fact):Bool:=f.op==g.op&&(f.arg==g.arg&&(f.cls==g.cls&&(f.n==g.n&&(f.path==g.path&&(f.kids.length==g.kids.length&&Th l g.kids)))))
def Gk (f:Fact):Fact→Bool:=f.Gi dh
def SA (f g:Fact):Gk f g=(f.op==g.op&&(f.arg==g.arg&&(f.cls==g.cls&&(f.n==g.n&&(f.path==g.path&&(f.kids.length==g.kids.length&&Th (f.kids.map Gk) g.kids)))))):=congrFun (Fact.DX dh f) g
def Si {xs ys:List Fact} (h: ∀x∈xs,∀y,Gk x y=true↔x=y) (hl:xs.length=ys.length):Th (xs.map Gk) ys=true↔xs=ys:=by
 induction xs generalizing ys with
 | nil=>cases ys with
   | nil=>simp[Th]
   | cons _ _=>simp at hl
 | cons x r ih=>cases ys with
   | nil=>simp at hl
   | cons y s=>
     simp only[Et,Th,BY,List.cons.injEq];rw[h x (.head _) y,ih (fun x hx=>h x (.tail _ hx)) (by simpa using hl)]
def LD (f g:Fact):Gk f g=true↔f=g:=by
 induction f using Fact.ind generalizing g with
 | h f ih=>
   rw[SA];cases f with
   | mk o a p c n k=>cases g with
     | mk o' a' p' c' n' k'=>
       simp only[Fact.op,Fact.arg,Fact.cls,Fact.n,Fact.path,Fact.kids,BY,Dn,Fact.mk.injEq]at *;constructor
       ·rintro⟨rfl,rfl,rfl,rfl,rfl,hl,h⟩
        exact⟨rfl,rfl,rfl,rfl,rfl,(Si (fun x hx y=>ih x hx y) hl).1 h⟩
       ·rintro⟨rfl,rfl,rfl,rfl,rfl,rfl⟩
        exact⟨rfl,rfl,rfl,rfl,rfl,rfl,(Si (fun x hx y=>ih x hx y) rfl).2 rfl⟩
def Fj (f:Fact):Fact:= .mk 5 0 [] 0 0 [f]
def OX (f g:Fact):Fact:= .mk 6 0 [] 0 0 [f,g]
def dx (l:Fact):Prop:=l.op=5→l.kids≠[]
def A5 (l:Fact):Fact×Bool:=if l.op=5 then(l.kids.headD default,true)else(l,false)
def B2 (path pre:List Int):Bool:=decide (pre.length≤path.length)&&path.take pre.length==pre
def LV (a:Int) (p:List Int) (l:Fact):Bool:=(A5 l).1.arg==a&&(A5 l).1.path==p
def FG (ls:List Fact) (a:Int) (p:List Int):Bool:=ls.all fun l=>(A5 l).2|| !((A5 l).1.arg==a&&B2 (A5 l).1.path p)
def Bk (n:Nat):List Int:=(List.range n).map Int.ofNat
def GO (n:Nat):Bk (n+1)=Bk n++[(n:Int)]:=by simp[Bk,List.range_succ]
def Fx (n:Nat):(Bk n).length=n:=by simp[Bk]
def de (a:Int) (p:List Int) (s:Int) (l:Fact):Bool:=(A5 l).1.arg==a&&B2 (A5 l).1.path (p++[s])
def Dg (n:Nat) (ls:List Fact) (a:Int) (p:List Int):List Int:=(Bk n).filter fun s=>ls.any (de a p s)
def Iz (n:Nat) (ls:List Fact) (a:Int) (p:List Int):Bool:=(Dg n ls a p).all fun s=>FG ls a (p++[s])
def Tk (ls:List Fact):Prop:= ∀l∈ls,-1000000000≤(A5 l).1.n∧(A5 l).1.n≤1000000000
def Rf (x:Fact×Bool) (t:Int×Int×List Int):Option (Int×Int×List Int):=
 if x.1.op=2 then if decide (x.1.cls > 1) != x.2 then none else some t
 else if x.1.op=3 then(if x.2 then some (if x.1.n > t.1 then x.1.n else t.1,t.2.1,t.2.2)else some (t.1,if x.1.n - 1<t.2.1 then x.1.n - 1 else t.2.1,t.2.2))
 else if x.2 then some (t.1,t.2.1,t.2.2++[x.1.n])else some (if x.1.n > t.1 then x.1.n else t.1,if x.1.n<t.2.1 then x.1.n else t.2.1,t.2.2)
def foldI:List Fact→Int×Int×List Int→Option (Int×Int×List Int)
 | [],t=>some t
 | x::r,t=>(Rf (A5 x) t).bind (foldI r)
def X8 (no:List Int):Nat→Int→Option Int
 | 0,_=>none
 | k+1,n=>if no.all (· != n)then some n else X8 no k (n+1)
def Rg (t:Int×Int×List Int):Option Int:=X8 t.2.2 (t.2.1+1 - t.1).toNat t.1
def t0:Int×Int×List Int:=(-1000000000,1000000000,[])
def RT (ls:List Fact) (a:Int) (p:List Int):Option Int:=(foldI (ls.filter (LV a p)) t0).bind Rg
def Oj (x:Fact×Bool):Bool:=((x.1.op==2&&(x.1.cls==0||x.1.cls==2))==x.2)
def Mg (n:Nat) (ls:List Fact) (a:Int) (p:List Int):Bool:=(ls.filter (LV a p)).all (fun l=> !Oj (A5 l))&&Iz n ls a p
abbrev BB:=List Bool×List Bool
def LX (x:Fact×Bool) (t:BB):Option BB:=
 if x.1.op≠2∨x.1.cls=1∨x.1.cls=2 then(if x.2 then some t else none)else
 if x.2 then some (t.1,t.2.set x.1.cls.toNat true)else some (t.1.set x.1.cls.toNat true,t.2)
def Ix:List Fact→BB→Option BB
 | [],t=>some t
 | x::r,t=>(LX (A5 x) t).bind (Ix r)
def Re (w:AK) (ls:List Fact) (a:Int) (p:List Int) (can:Int→Bool) (s:Int) (t:BB):Option BB:=
 if !FG ls a (p++[s])&& !can s then none else some (if FG ls a (p++[s])then t.1 else t.1.set (CX w s).toNat true,if can s then t.2 else t.2.set (CX w s).toNat true)
def Iw (w:AK) (ls:List Fact) (a:Int) (p:List Int) (can:Int→Bool):List Int→BB→Option BB
 | [],t=>some t
 | s::r,t=>(Re w ls a p can s t).bind (Iw w ls a p can r)
def Ie (ps:List (List Int)) (c:Nat) (bs:List Bool):List Bool:=if bs.getD c false then(par ps c).foldl (fun b q=>b.set q.toNat true) bs else bs
def Ck (ps:List (List Int)) (n:Nat):Nat→List Bool→List Bool
 | 0,bs=>bs
 | k+1,bs=>Ie ps (n - 1 - k) (Ck ps n k bs)
def I3: ∀(l:List Int) (bs:List Bool),(l.foldl (fun b q=>b.set q.toNat true) bs).length=bs.length
 | [],_=>rfl
 | q::r,bs=>by rw[List.foldl_cons,I3 r,List.length_set]
def E5 (ps:List (List Int)) (n:Nat): ∀(k:Nat) (bs:List Bool),(Ck ps n k bs).length=bs.length
 | 0,_=>rfl
 | k+1,bs=>by
   rw[Ck,Ie];split
   ·rw[I3,E5 ps n k bs]
   ·exact E5 ps n k bs
def YG (w:AK) (t:BB):Option (List Bool):=
 if t.2.getD 0 false then none else
 if(List.range (3+w.parents.length)).any (fun c=>(Ck w.parents (3+w.parents.length) w.parents.length (t.1.set 0 false)).getD c false&&t.2.getD c false)then none else some (Ck w.parents (3+w.parents.length) w.parents.length (t.1.set 0 false))
def tO (w:AK):BB:=(List.replicate (3+w.parents.length) false,List.replicate (3+w.parents.length) false)
def RP (w:AK) (ls:List Fact) (a:Int) (p:List Int) (can:Int→Bool):Option (List Bool):=
 ((Ix (ls.filter (LV a p)) (tO w)).bind (Iw w ls a p can (Dg w.owner.length ls a p))).bind (YG w)
def LC {n:Nat} {ls:List Fact} {a:Int} {p:List Int} {s:Int} (h:s∈Dg n ls a p):0≤s∧s<n:=by
 have:=(Kl.1 h).1;simp only[Bk,MT,List.mem_range]at this;obtain⟨m,hm,rfl⟩:=this;exact⟨Int.natCast_nonneg m,by simpa using hm⟩
def nt (w:AK) (ls:List Fact):Prop:= ∀l∈ls,(A5 l).1.op=2→0≤(A5 l).1.cls∧(A5 l).1.cls<3+w.parents.length
def P5 (w:AK) (ls:List Fact) (a:Int):Nat→List Int→Bool
 | 0,p=>((RT ls a p).isSome&&Iz w.owner.length ls a p)||(Mg w.owner.length ls a p||(RP w ls a p fun _=>false).isSome)
 | d+1,p=>((RT ls a p).isSome&&Iz w.owner.length ls a p)||(Mg w.owner.length ls a p||(RP w ls a p fun s=>P5 w ls a d (p++[s])).isSome)
def Yc (ls:List Fact) (n:Nat):Prop:= ∀l∈ls,(A5 l).1.path.length≤n
def O5 {n m:Nat} {ls:List Fact} {a:Int} {p:List Int} (h:Yc ls m) (hp:m≤p.length):Dg n ls a p= []:=by
 rw[Dg,List.filter_eq_nil_iff];intro s _ hs;rw[Ip]at hs;obtain⟨l,hl,hg⟩:=hs;have:=h l hl;simp only[de,B2,BY,CY,RA,List.length_singleton]at hg;omega
def Il (w:AK) (ls:List Fact):Bool:=(Bk 3).all fun a=>P5 w ls a 2 []
def Vi {b:Nat} {σ:AH} {l:List At} (h:Sat σ l) (i j:Nat) {v u:V} {sz:Nat} {es ys:List (List V)} {K:V→AH→Prop} (hi:l[i]? =some (.own v sz es)) (hj:l[j]? =some (.own u sz ys)) (hl:es.length+ys.length≤Ae∧(es.length+ys.length)*b≤140737488355328) (hys: ∀e∈ys,e.length=sz) (ho: ∀e∈ys,∀v∈e,Db v=true)
    (hk: ∀v' σ',Sat σ' (l.set i (.own v' sz (es++ys)))→K v' σ'):AO b σ sz v u K:=by
 have Y:AO b σ sz v (.l ys true) K:=hAppend h i hi hl hys ho hk;rcases h.get hj with⟨rfl,hel⟩|⟨n,cap,rfl,hn⟩
 ·exact Y
 ·unfold AO at Y ⊢
  simp only[rowsOf]at Y ⊢;rw[hn];refine⟨rfl,Ja _,?_⟩;rw[List.take_length];exact Y.2
def Cm (a:List Fact):List Fact→List Fact
 | []=>a
 | x::r=>Cm (if a.any (Gk x)then a else a++[x]) r
def UP (a:List Fact): ∀(b:List Fact) (x:Fact),Cm a (b++[x])=if(Cm a b).any (Gk x)then Cm a b else Cm a b++[x]:=by
 intro b
 induction b generalizing a with
 | nil=>intro x;rfl
 | cons y r ih=>intro x;simp only[List.cons_append,Cm];exact ih _ x
def PO (a:List Fact): ∀(b:List Fact),(Cm a b).length≤a.length+b.length:=by
 intro b
 induction b generalizing a with
 | nil=>simp[Cm]
 | cons y r ih=>
   simp only[Cm,MC];refine Nat.le_trans (ih _) ?_;split
   ·omega
   ·simp;omega
def PN (a:List Fact): ∀(b:List Fact) (x:Fact),x∈Cm a b→x∈a∨x∈b:=by
 intro b
 induction b generalizing a with
 | nil=>intro x hx;exact .inl hx
 | cons y r ih=>
   intro x hx;simp only[Cm]at hx;rcases ih _ x hx with h|h
   ·split at h
    ·exact .inl h
    ·rcases FQ.1 h with h|h
     ·exact .inl h
     ·rw[Kj.1 h];exact .inr (.head _)
   ·exact .inr (.tail _ h)
def Fl (A B:List (List Fact)):List (List Fact):=A.flatMap fun x=>B.map fun y=>Cm x y
def ID (f:Fact) (l:List (Bool→List (List Fact))) (c:Bool):List (List Fact):=
 if f.op=1 then(if c then []else [[]])else
 if f.op=5 then(l.getD 0 (fun _=>[])) (!c)else
 if f.op=6∨f.op=7 then(if c != (f.op==7)then l.getD 0 (fun _=>[]) c++l.getD 1 (fun _=>[]) c else Fl (l.getD 0 (fun _=>[]) c) (l.getD 1 (fun _=>[]) c))else
 if c then [[Fj f]]else [[f]]
def Bh (f:Fact):Bool→List (List Fact):=f.Gi ID
def G9 (f:Fact) (c:Bool):Bh f c=ID f (f.kids.map Bh) c:=congrFun (Fact.DX ID f) c
def az (f:Fact) (l:List Nat):Nat:=if f.op=5 then l.getD 0 0 else if f.op=6∨f.op=7 then l.getD 0 0+l.getD 1 0 else 1
def lv (f:Fact):Nat:=f.Gi az
def Mh (f:Fact):lv f=az f (f.kids.map lv):=Fact.DX az f
def arity (f:Fact):Bool:=f.Gi fun f l=>f.kids.length==B1 f.op&&l.all id
def KN (f:Fact):arity f=(f.kids.length==B1 f.op&&f.kids.all arity):=by
 rw[arity,Fact.DX,List.all_map];rfl
def DB {w:AK} (f:Fact):Be w f=true→arity f=true:=by
 induction f using Fact.ind with
 | h f ih=>
   intro h;rw[CP]at h;simp only[C1,BY,EY]at h;rw[KN,BY,EY];exact⟨h.1.2.1,fun k hk=>ih k hk (h.2 k hk)⟩
def IW {f:Fact} (h:arity f=true) (h5:f.op=5): ∃a,f.kids= [a]∧arity a=true:=by
 rw[KN,BY,EY,h5]at h;have hl:f.kids.length=1:=by simpa[B1]using h.1
 obtain⟨a,ha⟩:=List.length_eq_one_iff.1 hl;exact⟨a,ha,h.2 a (by rw[ha];exact .head _)⟩
def IV {f:Fact} (h:arity f=true) (h6:f.op=6∨f.op=7): ∃a b,f.kids= [a,b]∧arity a=true∧arity b=true:=by
 rw[KN,BY,EY]at h
 have hl:f.kids.length=2:=by
  have h5:f.op≠5:=by omega
  simpa[B1,h5,h6]using h.1
 match hk:f.kids,hl with
 | [a,b],_=>exact⟨a,b,rfl,h.2 a (by rw[hk];exact .head _),h.2 b (by rw[hk];exact .tail _ (.head _))⟩
def Yh (f:Fact):arity f=true→1≤lv f:=by
 induction f using Fact.ind with
 | h f ih=>
   intro h;rw[Mh,az];split
   ·rename_i h5
    obtain⟨a,ha,hb⟩:=IW h h5;rw[ha];exact ih a (by rw[ha];exact .head _) hb
   ·split
    ·rename_i h6
     obtain⟨a,b,ha,hb,_⟩:=IV h h6;rw[ha];have:=ih a (by rw[ha];exact .head _) hb;simp only[Et,List.getD_cons_zero];omega
    ·omega
def bz {a b:Nat} (ha:1≤a) (hb:1≤b):2 ^ a+2 ^ b≤2 ^ (a+b):=by
 rw[Nat.pow_add];have h1:2≤2 ^ a:=by simpa using Nat.pow_le_pow_right (show 0<2 by omega) ha
 have h2:2≤2 ^ b:=by simpa using Nat.pow_le_pow_right (show 0<2 by omega) hb
 generalize 2 ^ a=x at *;generalize 2 ^ b=y at *;have:=Nat.mul_le_mul_left (x - 1) (show 1≤y - 1 by omega);obtain⟨x,rfl⟩: ∃u,x=u+1:=⟨x - 1,by omega⟩
 obtain⟨y,rfl⟩: ∃u,y=u+1:=⟨y - 1,by omega⟩
 simp only[Nat.add_sub_cancel,Nat.mul_one]at this;rw[Nat.add_mul,Nat.mul_add];omega
def Wt (A B:List (List Fact)):(Fl A B).length=A.length*B.length:=by
 induction A with
 | nil=>simp[Fl]
 | cons x r ih=>
   simp only[Fl,List.flatMap_cons,RA,BQ,MC]at *;rw[ih,Nat.add_mul];omega
def JV (f : Fact):arity f=true→ ∀c,(Bh f c).length≤2 ^ lv f∧ ∀l∈Bh f c,l.length≤lv f:=by
 induction f using Fact.ind with
 | h f ih=>
   intro h c;rw[G9,Mh,ID,az];by_cases h1:f.op=1
   ·have e5: ¬f.op=5:=by omega
    have e6: ¬(f.op=6∨f.op=7):=by omega
    rw[if_pos h1,if_neg e5,if_neg e6];cases c
    ·rw[if_neg (by decide)]
     exact⟨by simp,fun l hl=>by simp at hl;subst hl;simp⟩
    ·rw[if_pos rfl]
     exact⟨by simp,fun l hl=>by cases hl⟩
   rw[if_neg h1];by_cases h5:f.op=5
   ·obtain⟨a,ha,hb⟩:=IW h h5
    rw[if_pos h5,if_pos h5,ha];exact ih a (by rw[ha];exact .head _) hb (!c)
   rw[if_neg h5,if_neg h5];by_cases h6:f.op=6∨f.op=7
   ·obtain⟨a,b,ha,hb1,hb2⟩:=IV h h6
    rw[if_pos h6,if_pos h6,ha];simp only[Et,List.map_nil,List.getD_cons_zero,List.getD_cons_succ];obtain⟨i1,i2⟩:=ih a (by rw[ha];exact .head _) hb1 c;obtain⟨j1,j2⟩:=ih b (by rw[ha];exact .tail _ (.head _)) hb2 c;have p1:=Yh a hb1;have p2:=Yh b hb2;split
    ·refine⟨?_,fun l hl=>?_⟩
     ·rw[RA]
      have:=bz p1 p2;omega
     ·rcases FQ.1 hl with hl|hl
      ·have:=i2 l hl;omega
      ·have:=j2 l hl;omega
    ·refine⟨?_,fun l hl=>?_⟩
     ·rw[Wt,Nat.pow_add]
      exact Nat.mul_le_mul i1 j1
     ·simp only[Fl,List.mem_flatMap,MT]at hl
      obtain⟨x,hx,y,hy,rfl⟩:=hl;have:=PO x y;have:=i2 x hx;have:=j2 y hy;omega
   ·rw[if_neg h6,if_neg h6]
    cases c
    ·exact⟨by simp,fun l hl=>by simp at hl;subst hl;simp⟩
    ·exact⟨by simp,fun l hl=>by simp at hl;subst hl;simp⟩
def gY (f:Fact):arity f=true→2*lv f≤Ki f+1:=by
 induction f using Fact.ind with
 | h f ih=>
   intro h;rw[Mh,az,JF];by_cases h5:f.op=5
   ·obtain⟨a,ha,hb⟩:=IW h h5
    rw[if_pos h5,ha];have:=ih a (by rw[ha];exact .head _) hb;simp only[Et,List.map_nil,List.getD_cons_zero,List.sum_cons,List.sum_nil];omega
   rw[if_neg h5];by_cases h6:f.op=6∨f.op=7
   ·obtain⟨a,b,ha,hb1,hb2⟩:=IV h h6
    rw[if_pos h6,ha];have:=ih a (by rw[ha];exact .head _) hb1;have:=ih b (by rw[ha];exact .tail _ (.head _)) hb2;simp only[Et,List.map_nil,List.getD_cons_zero,List.getD_cons_succ,List.sum_cons,List.sum_nil];omega
   ·rw[if_neg h6]
    omega
end Go.Gl
