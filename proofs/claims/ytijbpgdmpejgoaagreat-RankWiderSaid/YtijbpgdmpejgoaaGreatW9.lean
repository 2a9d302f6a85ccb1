import Derived.Test.YtijbpgdmpejgoaaGreatW8
set_option linter.all false
set_option linter.defProp false
noncomputable section
namespace Go.Gl
open Go.Proofs
attribute [local irreducible] BD Aw Ai AU AO Ah AV AW AN Ag AS AT Ay A9 Sat Ab A4 Aj W
def SO {w:AK} (h:Eu (.a (BE w))):w.parents.length≤Ac∧(∀l∈w.parents,l.length≤Ac)∧w.owner.length≤Ac:=by
 simp only[BE,HS,DX,D7,HB,BR]at h;exact⟨h.1.1,fun l hl=>(h.1.2 l hl).1.1,h.2.1.1⟩
def L4 {xs:List Int} {g:Bool} (h:Eu (.l (iL xs) g)):xs.length≤Ac:=by
 simp only[D7,BR]at h;exact h.1
def KB {f:Fact} (h:Eu (.a (xF f))):f.kids.length≤Ac∧f.path.length≤Ac∧ ∀k∈f.kids,Eu (.a (xF k)):=by
 simp only[HS,DX,D7,HB,BR]at h;exact⟨h.2.2.2.2.2.1.1,h.2.2.1.1,fun k hk=>by have:=h.2.2.2.2.2.1.2 k hk;rw[B0]at this;exact this⟩
def M4 (w:AK) (c:Int):Bool:=decide (0≤c)&&decide (c<3+w.parents.length)
def bz (w:AK) (c:Int):Pure Tryz.prog 157 [.a (BE w),eI c] (.b (M4 w c)):=by
 refine Pure.fit (by kernel_rfl) fun hf=>?_
 have⟨h1,h2,h3⟩:=SO hf.1;have hM:=Mx;refine lh kZ ?_
 conv=>whnf
 repeat'((first|apply st|(apply sq;intro K U)|(apply si;intro A B Y Z)|(apply Y;clear Z B Y A)|(apply U;clear U K)|refine⟨rfl,?_⟩|(constructor<;>intro hc<;>(try rw[hc])<;>(replace hc:=bp hc))|fail)<;>conv=>whnf)
 ·exact AI (by rw[BR,wrap64 (by omega) (by omega)];simp[M4,hc])
 ·exact AI (by simp[M4,hc];intros;omega)
def Gx (w:AK) (s:Int):Bool:=decide (0≤s)&&decide (s<w.owner.length)
def EX (w:AK) (p:List Int):Bool:=p.all (Gx w)&&decide (p.length≤2)
def dc (w:AK) (p:List Int) (g:Bool):Pure Tryz.prog 158 [.a (BE w),.l (iL p) g] (.b (EX w p)):=by
 refine Pure.fit (by kernel_rfl) fun hf=>?_
 have⟨h1,h2,h3⟩:=SO hf.1;have h4:=L4 hf.2.1;have hM:=Mx;refine lg kZ ?_
 conv=>whnf
 repeat'((first|apply st|(apply sq;intro K U)|(apply si;intro A B Y Z)|(apply Y;clear Z B Y A)|(apply U;clear U K)|fail)<;>conv=>whnf)
 refine CZ p.length (fun k (_:Unit)=>[(9,eI (BH k))]) (fun _ _=>[]) (fun k _=>p.all (Gx w)=(p.drop k).all (Gx w)) () rfl rfl Sat.nil ?_;rintro k - σ hk hn hs
 conv=>whnf
 repeat'((first|apply st|(apply sq;intro K U)|(apply si;intro A B Y Z)|(apply Y;clear Z B Y A)|(apply U;clear U K)|refine⟨rfl,?_⟩|refine ix ?_|(refine fc (fun x hx hlt hc=>?_) (fun hk hc=>?_)<;>(try rw[hc])<;>clear hc)|(constructor<;>intro hc<;>(try rw[hc])<;>(replace hc:=bp hc)<;>(try simp(disch:=omega) only[BR,wrap64,AM]at hc))|clear U K)<;>conv=>whnf)
 ·exact AI (by rw[EX,hn,drop_cons hx];simp[Gx,hc];intros;omega)
 ·exact⟨hlt,(),rfl,by rw[hn,drop_cons hx];simp[Gx, *],hs⟩
 ·exact AI (by rw[EX,hn,drop_cons hx];simp[Gx,hc];intros;omega)
 ·exact AI (by rw[EX,hn,Ap hk];simp;omega)
def Bm (f:Fact):Bool:=f.op==2||f.op==3||f.op==4
def WN (f:Fact):Pure Tryz.prog 129 [.a (xF f)] (.b (Bm f)):=by
 refine mJ kZ ?_
 conv=>whnf
 repeat'((first|apply st|(apply sq;intro K U)|(apply si;intro A B Y Z)|(apply Y;clear Z B Y A)|(apply U;clear U K)|refine⟨rfl,?_⟩|(constructor<;>intro hc<;>(try rw[hc])<;>(replace hc:=bp hc))|fail)<;>conv=>whnf)
 all_goals exact AI (by simp[Bm, *])
def Dc:List (Int→Int)→Int→Int→Int
 | [],n,_=>n
 | k::r,n,most=>if n≤most then Dc r (n+k (most - n)) most else n
def CP (f:Fact):Int→Int:=f.Gw fun _ l most=>Dc l 1 most
def HH (f:Fact) (most:Int):CP f most=Dc (f.kids.map CP) 1 most:=by
 rw[CP,Fact.Df];rfl
def OM {most:Int}: ∀(l:List (Int→Int)) (n:Int),(∀g∈l,∀m,0≤m→1≤g m∧g m≤m+1)→1≤n→n≤most+1→1≤Dc l n most∧Dc l n most≤most+1
 | [],n,_,h1,h2=>⟨h1,h2⟩
 | g ::r,n,h,h1,h2=>by
   rw[Dc];split
   ·have:=h g (List.mem_cons_self ..) (most - n) (by omega)
    exact OM r _ (fun g hg=>h g (List.mem_cons_of_mem _ hg)) (by omega) (by omega)
   ·exact⟨h1,h2⟩
def Jp (f:Fact): ∀m,0≤m→1≤CP f m∧CP f m≤m+1:=by
 induction f using Fact.ind with
 | h f ih=>
   intro m hm;rw[HH];refine OM _ _ (fun g hg=>?_) (by omega) (by omega);obtain⟨k,hk,rfl⟩:=Ls.1 hg;exact ih k hk
def bB (f:Fact): ∀most:Int,0≤most→most≤1000→Pure Tryz.prog 156 [.a (xF f),eI most] (eI (CP f most)):=by
 induction f using Fact.ind with
 | h f ih=>
   intro most h0 h1;refine Pure.fit (by kernel_rfl) fun hf=>?_
   have⟨h2,h3,h4⟩:=KB hf.1;have hM:=Mx;refine lj kZ ?_
   conv=>whnf
   repeat'((first|apply st|(apply sq;intro K U)|(apply si;intro A B Y Z)|(apply Y;clear Z B Y A)|(apply U;clear U K)|fail)<;>conv=>whnf)
   refine CZ f.kids.length (fun k (n:Int)=>[(5,eI n),(6,eI (BH k))]) (fun _ _=>[]) (fun k n=>1≤n∧n≤most+1∧CP f most=Dc ((f.kids.drop k).map CP) n most) 1 rfl ⟨by omega,by omega,by rw[List.drop_zero];exact HH f most⟩ Sat.nil ?_;rintro k n σ hk ⟨hn1,hn2,hn⟩ hs
   conv=>whnf
   repeat'((first|apply st|(apply sq;intro K U)|(apply si;intro A B Y Z)|(apply Y;clear Z B Y A)|(apply U;clear U K)|refine⟨rfl,?_⟩|refine⟨kZ,?_⟩|refine Ve ?_|(refine fc (fun x hx hlt hc=>?_) (fun hk hc=>?_)<;>(try rw[hc])<;>clear hc)|(constructor<;>intro hc<;>(try rw[hc])<;>(replace hc:=bp hc))|clear U K)<;>conv=>whnf)
   ·rw[wrap64 (by omega) (by omega)]
    have hb:=Jp x (most - n) (by omega);refine(ih x (Cg hx) (most - n) (by omega) (by omega)).use ?_
    conv=>whnf
    repeat'((first|(apply si;intro A B Y Z)|(apply Y;clear Z B Y A)|(apply U;clear U K)|refine⟨rfl,?_⟩|clear U K)<;>conv=>whnf)
    rw[wrap64 (by omega) (by omega)];exact⟨hlt,_,rfl,⟨by omega,by omega,by rw[hn,drop_cons hx,EA,Dc,if_pos hc]⟩,hs⟩
   ·exact AI (by rw[hn,drop_cons hx,EA,Dc,if_neg (by omega)])
   ·exact AI (by rw[hn,Ap hk];rfl)
def bC (f:Fact):Pure Tryz.prog 126 [.a (xF f)] (eI (CP f 24)):=by
 refine mM kZ ?_
 conv=>whnf
 repeat'((first|apply st|(apply sq;intro K U)|(apply si;intro A B Y Z)|(apply Y;clear Z B Y A)|(apply U;clear U K)|refine⟨kZ,?_⟩|fail)<;>conv=>whnf)
 refine(bB f 24 (by omega) (by omega)).use ?_
 conv=>whnf
 repeat'((first|apply st|(apply Y;clear Z B Y A)|(apply U;clear U K)|fail)<;>conv=>whnf)
 exact AI rfl
def K7 (f:Fact):Nat:=f.Gw fun _ l=>1+l.sum
def Jc (f:Fact):K7 f=1+(f.kids.map K7).sum:=Fact.Df _ f
def Wt {f k:Fact} (h:k∈f.kids):K7 k<K7 f:=by
 have: ∀l:List Fact,k∈l→K7 k≤(l.map K7).sum:=fun l=>by
  induction l with
  | nil=>intro h;cases h
  | cons x r ih=>
    intro h;simp only[EA,List.sum_cons];rcases FE.1 h with rfl|h
    ·omega
    ·have:=ih h;omega
 have:=this _ h;rw[Jc f];omega
def OL {most:Int}: ∀(l:List Fact) (n:Int),(∀k∈l,∀m,0≤m→CP k m≤m→CP k m=K7 k)→0≤n→Dc (l.map CP) n most≤most→Dc (l.map CP) n most=n+(l.map K7).sum
 | [],n,_,_,_=>by simp[Dc]
 | k :: r, n,h,h0,h1=>by
   simp only[EA,Dc]at *;split at h1
   ·rename_i hc
    rw[if_pos hc];have hb:=Jp k (most - n) (by omega)
    have hge: ∀(l:List Fact) (a:Int),a≤Dc (l.map CP) a most:=fun l=>by
     induction l with
     | nil=>intro a;exact Int.le_refl _
     | cons y l ih=>
       intro a;simp only[EA,Dc];split
       ·have:=Jp y (most - a) (by omega)
        have:=ih (a+CP y (most - a));omega
       ·exact Int.le_refl _
    have h2:=hge r (n+CP k (most - n));have h3:=h k (List.mem_cons_self ..) (most - n) (by omega) (by omega);have h4:=OL r (n+CP k (most - n)) (fun k' hk'=>h k' (List.mem_cons_of_mem _ hk')) (by omega) h1;simp only[List.sum_cons];omega
   ·rename_i hc
    omega
def Jo (f:Fact): ∀m,0≤m→CP f m≤m→CP f m=K7 f:=by
 induction f using Fact.ind with
 | h f ih=>
   intro m h0 h1;rw[HH]at *;rw[OL f.kids 1 ih (by omega) h1,Jc];omega
def Gu (a b:Int):Int:=if a<b then b else a
def D8 (f:Fact):Int:=f.Gw fun _ l=>l.foldl Gu 0+1
def Fw (f:Fact):D8 f=(f.kids.map D8).foldl Gu 0+1:=Fact.Df _ f
def JP {m:Int}: ∀(l:List Int) (a:Int),(∀x∈l,x≤m)→a≤m→l.foldl Gu a≤m
 | [],_,_,h=>h
 | x::r,a,h,h'=>by
   refine JP r _ (fun y hy=>h y (List.mem_cons_of_mem _ hy)) ?_;have:=h x (List.mem_cons_self ..);unfold Gu;split<;>omega
def FH: ∀(l:List Int) (a:Int),a≤l.foldl Gu a
 | [],_=>Int.le_refl _
 | x::r,a=>by
   refine Int.le_trans ?_ (FH r _);unfold Gu;split<;>omega
def VM (f:Fact):1≤D8 f∧D8 f≤K7 f:=by
 induction f using Fact.ind with
 | h f ih=>
   rw[Fw];have h1:=FH (f.kids.map D8) 0
   have h2:(f.kids.map D8).foldl Gu 0≤(K7 f:Int) - 1:=by
    refine JP _ _ (fun x hx=>?_) (by have:=Jc f;omega);obtain⟨k,hk,rfl⟩:=Ls.1 hx;have:=(ih k hk).2;have:=Wt hk;omega
   omega
def EP {α:Type} {xs:List α} {k:Nat} {x:α} {β:Type} (g:α→β) (h:β→β→β) (a:β) (hx:xs[k]? =some x):((xs.take (k+1)).map g).foldl h a=h (((xs.take k).map g).foldl h a) (g x):=by
 rw[AX hx,Tu,List.foldl_append];rfl
def bq (f:Fact):K7 f≤Ac→Pure Tryz.prog 127 [.a (xF f)] (eI (D8 f)):=by
 induction f using Fact.ind with
 | h f ih=>
   intro hc;refine Pure.fit (by kernel_rfl) fun hf=>?_
   have⟨h2,h3,h4⟩:=KB hf.1;have hM:=Mx;refine mL kZ ?_
   conv=>whnf
   repeat'((first|apply st|(apply sq;intro K U)|(apply si;intro A B Y Z)|(apply Y;clear Z B Y A)|(apply U;clear U K)|fail)<;>conv=>whnf)
   refine CZ f.kids.length (fun k (_:Unit)=>[(3,eI (((f.kids.take k).map D8).foldl Gu 0)),(9,eI (BH k))]) (fun _ _=>[]) (fun _ _=>True) () rfl trivial Sat.nil ?_;rintro k - σ hk - hs
   conv=>whnf
   repeat'((first|apply st|(apply sq;intro K U)|(apply si;intro A B Y Z)|(apply Y;clear Z B Y A)|(apply U;clear U K)|refine⟨rfl,?_⟩|refine⟨kZ,?_⟩|refine Ve ?_|refine ld ?_|refine sn fun σ hs=>?_|(refine fc (fun x hx hlt hc=>?_) (fun hk hc=>?_)<;>(try rw[hc])<;>clear hc)|(intro nn hnn;generalize hg:A7 _ nn _=σ;refine al hg fun hs=>?_;clear hg)|clear U K)<;>conv=>whnf)
   ·refine(ih x (Cg hx) (by have:=Wt (Cg hx);omega)).use ?_
    conv=>whnf
    repeat'((first|(apply si;intro A B Y Z)|(apply Y;clear Z B Y A)|(apply U;clear U K)|refine⟨rfl,?_⟩|clear U K)<;>conv=>whnf)
    exact⟨hlt,(),by rw[EP _ _ _ hx];rfl,trivial,Sat.nil⟩
   ·have:=VM f
    rw[Fw]at this;exact AI (by rw[BC hk,wrap64 (by omega) (by omega),←Fw])
def Cx (f:Fact):Int:=f.Gw fun f l=>l.foldl Gu (if Bm f then f.arg+1 else 0)
def Dz (f:Fact):Cx f=(f.kids.map Cx).foldl Gu (if Bm f then f.arg+1 else 0):=Fact.Df _ f
def NL (f:Fact):Bool:=f.Gw fun f l=>decide (0≤f.arg)&&decide (f.arg<3)&&l.all id
def Kp (f:Fact):NL f=(decide (0≤f.arg)&&decide (f.arg<3)&&(f.kids.map NL).all id):=Fact.Df _ f
def aY (f:Fact):NL f=true→Pure Tryz.prog 95 [.a (xF f)] (eI (Cx f)):=by
 induction f using Fact.ind with
 | h f ih=>
   intro ha;refine Pure.fit (by kernel_rfl) fun hf=>?_
   have⟨h2,h3,h4⟩:=KB hf.1;have hM:=Mx;rw[Kp]at ha;simp only[BV,CL,List.all_map,EL]at ha;refine ou kZ ?_
   conv=>whnf
   repeat'((first|apply st|(apply sq;intro K U)|(apply si;intro A B Y Z)|(apply Y;clear Z B Y A)|(apply U;clear U K)|refine⟨kZ,?_⟩|fail)<;>conv=>whnf)
   refine(WN f).use ?_
   conv=>whnf
   repeat'((first|apply st|(apply sq;intro K U)|(apply si;intro A B Y Z)|(apply Y;clear Z B Y A)|(apply U;clear U K)|refine⟨rfl,?_⟩|(constructor<;>intro hc<;>(try rw[hc])<;>(replace hc:=bp hc))|fail)<;>conv=>whnf)
   ·refine CZ f.kids.length (fun k (_:Unit)=>[(3,eI (((f.kids.take k).map Cx).foldl Gu (if Bm f then f.arg+1 else 0))),(14,eI (BH k))]) (fun _ _=>[]) (fun _ _=>True) () (by rw[wrap64 (by omega) (by omega),if_pos hc];rfl) trivial Sat.nil ?_
    rintro k - σ hk - hs
    conv=>whnf
    repeat'((first|apply st|(apply sq;intro K U)|(apply si;intro A B Y Z)|(apply Y;clear Z B Y A)|(apply U;clear U K)|refine⟨rfl,?_⟩|refine⟨kZ,?_⟩|refine Ve ?_|refine ld ?_|refine sn fun σ hs=>?_|(refine fc (fun x hx hlt hc=>?_) (fun hk hc=>?_)<;>(try rw[hc])<;>clear hc)|(intro nn hnn;generalize hg:A7 _ nn _=σ;refine al hg fun hs=>?_;clear hg)|clear U K)<;>conv=>whnf)
    ·refine(ih x (Cg hx) (ha.2 x (Cg hx))).use ?_
     conv=>whnf
     repeat'((first|(apply si;intro A B Y Z)|(apply Y;clear Z B Y A)|(apply U;clear U K)|refine⟨rfl,?_⟩|clear U K)<;>conv=>whnf)
     exact⟨hlt,(),by rw[EP _ _ _ hx];rfl,trivial,Sat.nil⟩
    ·exact AI (by rw[BC hk,←Dz])
   ·refine CZ f.kids.length (fun k (_:Unit)=>[(3,eI (((f.kids.take k).map Cx).foldl Gu (if Bm f then f.arg+1 else 0))),(14,eI (BH k))]) (fun _ _=>[]) (fun _ _=>True) () (by rw[if_neg (c:=Bm f=true) (by simp[hc])];rfl) trivial Sat.nil ?_
    rintro k - σ hk - hs
    conv=>whnf
    repeat'((first|apply st|(apply sq;intro K U)|(apply si;intro A B Y Z)|(apply Y;clear Z B Y A)|(apply U;clear U K)|refine⟨rfl,?_⟩|refine⟨kZ,?_⟩|refine Ve ?_|refine ld ?_|refine sn fun σ hs=>?_|(refine fc (fun x hx hlt hc=>?_) (fun hk hc=>?_)<;>(try rw[hc])<;>clear hc)|(intro nn hnn;generalize hg:A7 _ nn _=σ;refine al hg fun hs=>?_;clear hg)|clear U K)<;>conv=>whnf)
    ·refine(ih x (Cg hx) (ha.2 x (Cg hx))).use ?_
     conv=>whnf
     repeat'((first|(apply si;intro A B Y Z)|(apply Y;clear Z B Y A)|(apply U;clear U K)|refine⟨rfl,?_⟩|clear U K)<;>conv=>whnf)
     exact⟨hlt,(),by rw[EP _ _ _ hx];rfl,trivial,Sat.nil⟩
    ·exact AI (by rw[BC hk,←Dz])
def By (op:Int):Nat:=if op=5 then 1 else if op=6∨op=7 then 2 else 0
def Rw (w:AK) (f:Fact):Bool:=
 if f.op=2 then f.n==0&&M4 w f.cls else if f.op=3∨f.op=4 then f.cls==0&&(decide (-1000000000≤f.n)&&decide (f.n≤1000000000))else f.op==1||f.op==5||f.op==6||f.op==7
def C1 (w:AK) (f:Fact):Bool:=
 Rw w f&&(f.kids.length==By f.op&&(decide (0≤f.arg)&&(decide (f.arg<3)&&(EX w f.path&&(Bm f||(f.arg==0&&(f.path.length==0&&(f.cls==0&&f.n==0))))))))
def BW (w:AK) (f:Fact):Bool:=f.Gw fun f l=>C1 w f&&l.all id
def CK (w:AK) (f:Fact):BW w f=(C1 w f&&f.kids.all (BW w)):=by rw[BW,Fact.Df,List.all_map];rfl
def Ni {w:AK} {f:Fact} (h:C1 w f=false):BW w f=false:=by rw[CK,h,Bool.false_and]
def pv {f:Fact} (h1:Bm f=false) (h2:f.arg=0) (h3:(f.path.length:Int) > 0):true= !(Bm f||(f.arg==0&&(f.path.length==0&&(f.cls==0&&f.n==0)))):=by
 have:(f.path.length==0)=false:=by simp;intro e;rw[e]at h3;simp at h3
 rw[this,h1,h2];rfl
def dn (w : AK) (f:Fact):Pure Tryz.prog 128 [.a (BE w),.a (xF f)] (.b (BW w f)):=by
 induction f using Fact.ind with
 | h f ih=>
   refine Pure.fit (by kernel_rfl) fun hf=>?_
   have⟨h2,h3,h4⟩:=KB hf.2.1;have⟨w1,w2,w3⟩:=SO hf.1;have hM:=Mx;refine mK kZ ?_
   conv=>whnf
   repeat'((first|apply st|(apply sq;intro K U)|(apply si;intro A B Y Z)|(apply Y;clear Z B Y A)|(apply U;clear U K)|refine⟨rfl,?_⟩|fail)<;>conv=>whnf)
   have hJ :=ND U (fun(_:Unit)=>[(5,eI (By f.op))]) (fun _=>[]) (fun _=>Rw w f=true) [(2,.rp (BE w)),(3,.rp (xF f)),(5,eI 0)] (by
    clear U;rintro - σ ho -
    conv=>whnf
    repeat'((first|apply st|(apply sq;intro K U)|(apply si;intro A B Y Z)|refine⟨rfl,?_⟩|fail)<;>conv=>whnf)
    have hJ :=ND U (fun(b:Bool)=>[(66,.b b)]) (fun _=>[]) (fun b=>b= !(f.kids.length==By f.op&&(decide (0≤f.arg)&&(decide (f.arg<3)&&EX w f.path)))) [(2,.rp (BE w)),(3,.rp (xF f)),(66,.b false)] (by
     clear U;rintro b σ hb -
     conv=>whnf
     repeat'((first|apply st|fail)<;>conv=>whnf)
     have hJ :=ND U (fun(_:Unit)=>[]) (fun _=>[]) (fun _=>b=false) [(2,.rp (BE w)),(3,.rp (xF f))] (by
      clear U;rintro - σ hb' -;rw[hb']at hb
      conv=>whnf
      repeat'((first|apply st|(apply sq;intro K U)|(apply si;intro A B Y Z)|refine⟨kZ,?_⟩|refine Pure.use (WN _) ?_|fail)<;>conv=>whnf)
      have hJ:=ND U (fun(b:Bool)=>[(90,.b b)]) (fun _=>[]) (fun b=>b= !(Bm f||(f.arg==0&&(f.path.length==0&&(f.cls==0&&f.n==0))))) [(2,.rp (BE w)),(3,.rp (xF f)),(90,.b false)] (by
       clear U;rintro b σ hb2 -
       conv=>whnf
       repeat'((first|apply st|fail)<;>conv=>whnf)
       have hJ:=ND U (fun(_:Unit)=>[]) (fun _=>[]) (fun _=>b=false) [(2,.rp (BE w)),(3,.rp (xF f))] (by
        clear U;rintro - σ hb' -;rw[hb']at hb2
        have hh:C1 w f=true:=by
         have hb:(f.kids.length==By f.op&&(decide (0≤f.arg)&&(decide (f.arg<3)&&EX w f.path)))=true:=by rw[←Bool.not_eq_false',←hb]
         have hb2:(Bm f||(f.arg==0&&(f.path.length==0&&(f.cls==0&&f.n==0))))=true:=by rw[←Bool.not_eq_false',←hb2]
         simp only[BV]at hb;simp only[C1,ho,hb.1,hb.2,hb2,Bool.and_self]
        conv=>whnf
        repeat'((first|apply st|(apply sq;intro K U)|(apply si;intro A B Y Z)|(apply Y;clear Z B Y A)|(apply U;clear U K)|fail)<;>conv=>whnf)
        refine CZ f.kids.length (fun k (_:Unit)=>[(94,eI (BH k))]) (fun _ _=>[]) (fun k _=>BW w f=(f.kids.drop k).all (BW w)) () rfl (by rw[CK,hh];rfl) Sat.nil ?_;rintro k - σ hk hn hs
        conv=>whnf
        repeat'((first|apply st|(apply sq;intro K U)|(apply si;intro A B Y Z)|(apply Y;clear Z B Y A)|(apply U;clear U K)|refine⟨rfl,?_⟩|refine⟨kZ,?_⟩|refine Ve ?_|refine ld ?_|refine sn fun σ hs=>?_|(refine fc (fun x hx hlt hc=>?_) (fun hk hc=>?_)<;>(try rw[hc])<;>clear hc)|(intro nn hnn;generalize hg:A7 _ nn _=σ;refine al hg fun hs=>?_;clear hg)|clear U K)<;>conv=>whnf)
        ·have hxm:=Cg hx
         refine(ih x hxm).use ?_
         conv=>whnf
         repeat'((first|apply st|(apply sq;intro K U)|(apply si;intro A B Y Z)|(apply Y;clear Z B Y A)|(apply U;clear U K)|refine⟨rfl,?_⟩|(constructor<;>intro hc<;>(try rw[hc])<;>(replace hc:=bp hc))|clear U K)<;>conv=>whnf)
         ·exact AI (by rw[hn,drop_cons hx];simp[hc])
         ·exact⟨hlt,(),rfl,by rw[hn,drop_cons hx];simp[hc],Sat.nil⟩
        ·exact AI (by rw[hn,Ap hk];rfl))
       clear U
       conv=>whnf
       repeat'((first|apply st|(apply sq;intro K U)|(apply si;intro A B Y Z)|(apply Y;clear Z B Y A)|(apply U;clear U K)|(constructor<;>intro hc<;>(try rw[hc])<;>(replace hc:=bp hc))|fail)<;>conv=>whnf)
       ·have hx:(Bm f||(f.arg==0&&(f.path.length==0&&(f.cls==0&&f.n==0))))=false:=by rw[←Bool.not_eq_true',←hb2,hc]
        exact AI (by rw[Ni];simp only[C1,hx,Bool.and_false])
       ·exact hJ () _ _ rfl hc Sat.nil)
      clear U;clear hb
      conv=>whnf
      repeat'((first|apply st|(apply Y;clear Z B Y A)|refine⟨rfl,?_⟩|(constructor<;>intro hc<;>(try rw[hc])<;>(replace hc:=bp hc)<;>(try simp(disch:=omega) only[BR,wrap64,AM]at hc))|fail)<;>conv=>whnf)
      ·have hp:f.path.length=0:=by omega
       exact hJ _ _ _ rfl (by rw[hp];simp[*,bne]) Sat.nil
      ·exact hJ true _ _ rfl (by simp[*]) Sat.nil
      ·exact hJ true _ _ rfl (pv (by assumption) (by assumption) hc) Sat.nil
      ·exact hJ true _ _ rfl (by simp[*]) Sat.nil
      ·exact hJ false _ _ rfl (by simp[*]) Sat.nil)
     clear U
     conv=>whnf
     repeat'((first|apply st|(apply sq;intro K U)|(apply si;intro A B Y Z)|(apply Y;clear Z B Y A)|(apply U;clear U K)|(constructor<;>intro hc<;>(try rw[hc])<;>(replace hc:=bp hc))|fail)<;>conv=>whnf)
     ·have hx:(f.kids.length==By f.op&&(decide (0≤f.arg)&&(decide (f.arg<3)&&EX w f.path)))=false:=by rw[←Bool.not_eq_true',←hb,hc]
      exact AI (by rw[Ni];simp only[C1];simp only[Bool.and_eq_false_iff]at hx ⊢;rcases hx with h|h|h|h<;>simp[h])
     ·exact hJ () _ _ rfl hc Sat.nil)
    clear U
    conv=>whnf
    repeat'((first|apply st|(apply Y;clear Z B Y A)|refine⟨rfl,?_⟩|refine⟨kZ,?_⟩|refine Pure.use (dc _ _ _) ?_|(constructor<;>intro hc<;>(try rw[hc])<;>(replace hc:=bp hc)<;>(try simp(disch:=omega) only[BR,wrap64,AM]at hc))|fail)<;>conv=>whnf)
    all_goals exact hJ _ _ _ rfl (by simp[*]<;>omega) Sat.nil)
   clear U
   conv=>whnf
   repeat'((first|apply st|(apply sq;intro K U)|(apply si;intro A B Y Z)|(apply Y;clear Z B Y A)|(apply U;clear U K)|refine⟨rfl,?_⟩|refine⟨kZ,?_⟩|refine Pure.use (bz _ _) ?_|(constructor<;>intro hc<;>(try rw[hc])<;>(replace hc:=bp hc))|fail)<;>conv=>whnf)
   all_goals first
    | exact AI (by rw[Ni];simp only[C1,Rw];simp[*]<;>omega)
    | exact hJ () _ _ (by simp[By, *];rfl) (by simp[Rw, *]<;>omega) Sat.nil
def Qf (n:Int):Bool:=decide (-1000000000≤n)&&decide (n≤1000000000)
def fy (n:Int):Pure Tryz.prog 125 [eI n] (.b (Qf n)):=by
 refine mN kZ ?_
 conv=>whnf
 repeat'((first|apply st|(apply sq;intro K U)|(apply si;intro A B Y Z)|(apply Y;clear Z B Y A)|(apply U;clear U K)|refine⟨rfl,?_⟩|(constructor<;>intro hc<;>(try rw[hc])<;>(replace hc:=bp hc))|fail)<;>conv=>whnf)
 all_goals exact AI (by simp[Qf, *]<;>omega)
def JD (k:Int):Bool:=k==1||k==4
def jB (k:Int):Pure Tryz.prog 97 [eI k] (.b (JD k)):=by
 refine ot kZ ?_
 conv=>whnf
 repeat'((first|apply st|(apply sq;intro K U)|(apply si;intro A B Y Z)|(apply Y;clear Z B Y A)|(apply U;clear U K)|refine⟨rfl,?_⟩|(constructor<;>intro hc<;>(try rw[hc])<;>(replace hc:=bp hc))|fail)<;>conv=>whnf)
 all_goals exact AI (by simp[JD, *])
def GQ {p:Prog} (h:Eu (.a (BN p))):p.AL.length≤Ac∧p.CM.length≤Ac∧p.methods.length≤Ac∧p.nodes.length≤Ac:=by
 simp only[BN,HS,DX,D7,BR]at h;exact⟨h.1.1,h.2.2.1.1,h.2.2.2.1.1,h.2.2.2.2.1.1⟩
def IP (p:Prog) (x:Node):Int:=
 if x.op=1∨x.op=2∨x.op=3∨x.op=6∨x.op=18 then 0 else
 if x.op=4∨x.op=8∨x.op=17 then 1 else
 if x.op=7∨x.op=9∨x.op=11∨x.op=12∨x.op=13∨x.op=14∨x.op=15∨x.op=16 then 2 else
 if x.op=10 then 3 else
 if x.op=5∧0≤x.n∧x.n<p.CM.length then p.CM.getD x.n.toNat 0 else -1
def eH (p:Prog) (x:Node):Pure Tryz.prog 130 [.a (BN p),.a (Ea x)] (eI (IP p x)):=by
 refine Pure.fit (by kernel_rfl) fun hf=>?_
 have⟨p1,p2,p3,p4⟩:=GQ hf.1;have hM:=Mx;refine mI kZ ?_
 conv=>whnf
 repeat'((first|apply st|(apply sq;intro K U)|(apply si;intro A B Y Z)|(apply Y;clear Z B Y A)|(apply U;clear U K)|refine⟨rfl,?_⟩|refine iq fun x hx=>?_|(constructor<;>intro hc<;>(try rw[hc])<;>(replace hc:=bp hc)<;>(try simp(disch:=omega) only[BR,wrap64,AM]at hc))|clear U K)<;>conv=>whnf)
 all_goals first
  | (refine AI ?_;simp[IP, *];done)
  | (refine AI ?_;simp[IP, *];intros;omega)
  | (have hd:=(H4.1 hx).2;refine AI ?_;simp[IP, *];done)
def LF (p:Prog) (x:Node) (size:Int):Bool:=
 if x.op=1 then Qf x.n else if x.op=3 then decide (0≤x.n)&&decide (x.n<size)else if x.op=4∨x.op=7 then decide (0≤x.n)&&decide (x.n<p.AP)else
 if x.op=5 then decide (0≤x.n)&&decide (x.n<p.CM.length)else if x.op=6∨x.op=8 then decide (3≤x.n)&&decide (x.n<3+p.AL.length)else x.n==0
def Xq (p:Prog) (x:Node) (size:Int):Pure Tryz.prog 131 [.a (BN p),.a (Ea x),eI size] (.b (LF p x size)):=by
 refine Pure.fit (by kernel_rfl) fun hf=>?_
 have⟨p1,p2,p3,p4⟩:=GQ hf.1;have hM:=Mx;refine mH kZ ?_
 conv=>whnf
 repeat'((first|apply st|(apply sq;intro K U)|(apply si;intro A B Y Z)|(apply Y;clear Z B Y A)|(apply U;clear U K)|refine⟨rfl,?_⟩|refine Pure.use (fy _) ?_|(constructor<;>intro hc<;>(try rw[hc])<;>(replace hc:=bp hc))|clear U K)<;>conv=>whnf)
 all_goals first
  | (refine AI ?_;simp[LF, *];done)
  | (refine AI ?_;rw[BR,wrap64 (by omega) (by omega)];simp[LF, *];done)
  | (refine AI ?_;simp[LF, *];intros;omega)
def I9 (ps:List (List Int)) (a b:Int):Bool:=a==b||(b==0||(decide (3≤a)&&IC ps a.toNat b.toNat))
def cC (w:AK) (a b:Int) (hl:w.parents.length≤1000) (ho:ordered w.parents) (ha:0≤a) (ha':a<3+w.parents.length) (hb:0≤b) (hb':b<3+w.parents.length):Pure Tryz.prog 120 [.a (BE w),eI a,eI b] (.b (I9 w.parents a b)):=by
 refine Pure.fit (by kernel_rfl) fun hf=>?_
 have⟨w1,w2,w3⟩:=SO hf.1;have hM:=Mx;refine mS kZ ?_
 conv=>whnf
 repeat'((first|apply st|(apply sq;intro K U)|(apply si;intro A B Y Z)|(apply Y;clear Z B Y A)|(apply U;clear U K)|refine⟨rfl,?_⟩|refine⟨kZ,?_⟩|(constructor<;>intro hc<;>(try rw[hc])<;>(replace hc:=bp hc))|clear U K)<;>conv=>whnf)
 ·exact AI (by simp[I9,hc])
 ·exact AI (by simp[I9, *];omega)
 ·have hc':0≤a:=ha
  obtain⟨a,rfl⟩: ∃n:Nat,a=n:=⟨a.toNat,by omega⟩
  refine(na w a ⟨hl,w2,w3⟩ ho (by omega)).use ?_;have hul:=KI w.parents (3+w.parents.length) a (a - 2)
  conv=>whnf
  repeat'((first|apply st|(apply sq;intro K U)|(apply si;intro A B Y Z)|(apply Y;clear Z B Y A)|(apply U;clear U K)|refine iq fun x hx=>?_|fail)<;>conv=>whnf)
  refine AI ?_;have hu:=Vw ho (n:=3+w.parents.length) (c:=a) (by omega) b.toNat;rw[DS,hx]at hu;simp at hu;have e1:((a:Int)==b)=false:=by simpa using ‹(a:Int)≠b›
  have e2:(b==0)=false:=by simpa using ‹b≠0›
  simp[I9,e1,e2,hc,hu]
 ·exact AI (by simp[I9,hc])
structure Jy (w:AK):Prop where
 len:w.parents.length≤60
 ord:ordered w.parents
 own: ∀c∈w.owner,(3:Int)≤c∧c<3+w.parents.length
 gr:w.owner.length≤40
def CA (w:AK) (s:Int):Int:=w.owner.getD s.toNat 0
def hasB (w:AK) (c s:Int):Bool:=decide (3≤c)&&I9 w.parents c (CA w s)
def Zm (w:AK) (c s:Int) (hw:Jy w) (hc0:0≤c) (hc1:c<3+w.parents.length) (hs0:0≤s) (hs1:s<w.owner.length):Pure Tryz.prog 122 [.a (BE w),eI c,eI s] (.b (hasB w c s)):=by
 refine Pure.fit (by kernel_rfl) fun hf=>?_
 have⟨w1,w2,w3⟩:=SO hf.1;have hM:=Mx;have hl:=hw.len;refine mQ kZ ?_
 conv=>whnf
 repeat'((first|apply st|(apply sq;intro K U)|(apply si;intro A B Y Z)|(apply Y;clear Z B Y A)|(apply U;clear U K)|apply dr|refine⟨rfl,?_⟩|refine⟨kZ,?_⟩|refine iq fun x hx=>?_|(constructor<;>intro hc<;>(try rw[hc])<;>(replace hc:=bp hc))|fail)<;>conv=>whnf)
 ·have:=hw.own x (Cg hx)
  refine(cC w c x (by omega) hw.ord hc0 hc1 (by omega) (by omega)).use ?_
  conv=>whnf
  repeat'((first|apply st|(apply Y;clear Z B Y A)|(apply U;clear U K)|apply dr|fail)<;>conv=>whnf)
  exact AI (by simp[hasB,CA,hx,hc])
 ·exact AI (by simp[hasB];omega)
def eN (xs:List Int) (f:Bool) (x:Int):Pure Tryz.prog 154 [.l (iL xs) f,eI x] (.b (xs.contains x)):=Pure.fit (by kernel_rfl) fun hf=>Zl xs f x (L4 hf.1)
def CW (w:AK) (f:Fact):Bool:=decide (CP f 24≤24)&&(decide (D8 f≤12)&&BW w f)
def bb (w:AK) (f:Fact):Pure Tryz.prog 94 [.a (BE w),.a (xF f)] (.b (CW w f)):=by
 refine ov kZ ?_
 conv=>whnf
 repeat'((first|apply st|(apply sq;intro K U)|(apply si;intro A B Y Z)|(apply Y;clear Z B Y A)|(apply U;clear U K)|refine⟨rfl,?_⟩|refine⟨kZ,?_⟩|refine Pure.use (bC _) ?_|(constructor<;>intro hc<;>(try rw[hc])<;>(replace hc:=bp hc))|fail)<;>conv=>whnf)
 ·have:=Jo f 24 (by omega) hc
  refine(bq f (by simp only[Ac];omega)).use ?_
  conv=>whnf
  repeat'((first|apply st|(apply Y;clear Z B Y A)|(apply U;clear U K)|refine⟨rfl,?_⟩|refine⟨kZ,?_⟩|refine Pure.use (dn _ _) ?_|(constructor<;>intro hc<;>(try rw[hc])<;>(replace hc:=bp hc))|fail)<;>conv=>whnf)
  ·exact AI (by simp[CW,hc,‹CP f 24≤24›])
  ·exact AI (by simp[CW, *];intros;omega)
 ·exact AI (by simp[CW];intros;omega)
def gd (i:Nat) (pre:List Int) (c:Int):Bool:=decide (3≤c)&&(decide (c<3+i)&& !pre.contains c)
def LG (i:Nat):List Int→List Int→Bool
 | _,[]=>true
 | pre,c::r=>gd i pre c&&LG i (pre++[c]) r
def Hr:Nat→List (List Int)→Bool
 | _,[]=>true
 | i,l::r=>decide (l.length≤3)&&(LG i [] l&&Hr (i+1) r)
def Dk (g:List (List Int)):Bool:=decide (g.length≤16)&&Hr 0 g
def UT {ls:List (List Int)} {g:Bool} (h:Eu (.l (Ei ls) g)):ls.length≤Ac∧ ∀l∈ls,l.length≤Ac:=by
 simp only[D7,BR,HB,DX]at h;exact⟨h.1,fun l hl=>(h.2 l hl).1.1⟩
def eR (g:List (List Int)) (f:Bool):Pure Tryz.prog 123 [.l (Ei g) f] (.b (Dk g)):=by
 refine Pure.fit (by kernel_rfl) fun hf=>?_
 have⟨g1,g2⟩:=UT hf.1;have hM:=Mx;refine mP kZ ?_
 conv=>whnf
 repeat'((first|apply st|(apply sq;intro K U)|(apply si;intro A B Y Z)|(apply Y;clear Z B Y A)|(apply U;clear U K)|refine⟨rfl,?_⟩|(constructor<;>intro hc<;>(try rw[hc])<;>(replace hc:=bp hc)<;>(try simp(disch:=omega) only[BR,wrap64,AM]at hc))|clear U K)<;>conv=>whnf)
 ·exact AI (by simp[Dk];intros;omega)
 ·refine CZ g.length (fun k (_:Unit)=>[(3,eI (BH k))]) (fun _ _=>[]) (fun k _=>Dk g=Hr k (g.drop k)) () rfl (by simp[Dk];omega) Sat.nil ?_
  rintro k - σ hk hn hs
  conv=>whnf
  repeat'((first|apply st|(apply sq;intro K U)|(apply si;intro A B Y Z)|(apply Y;clear Z B Y A)|(apply U;clear U K)|refine⟨rfl,?_⟩|refine ix ?_|(refine fc (fun x hx hlt hc=>?_) (fun hk hc=>?_)<;>(try rw[hc])<;>clear hc)|(constructor<;>intro hc<;>(try rw[hc])<;>(replace hc:=bp hc)<;>(try simp(disch:=omega) only[BR,wrap64,AM]at hc))|clear U K)<;>conv=>whnf)
  ·exact AI (by rw[hn,drop_cons hx,Hr];simp;intros;omega)
  ·revert x
   rintro l hl hl3;have hll:=g2 l (Cg hl);have hn':Dk g=(LG k [] l&&Hr (k+1) (g.drop (k+1))):=by rw[hn,drop_cons hl,Hr];simp;intros;omega
   refine CZ l.length (fun j (_:Unit)=>[(4,eI (BH j))]) (fun _ _=>[]) (fun j _=>Dk g=(LG k (l.take j) (l.drop j)&&Hr (k+1) (g.drop (k+1)))) () rfl (by rw[hn'];rfl) Sat.nil ?_;rintro j - σ hj hm hs
   conv=>whnf
   repeat'((first|apply st|(apply sq;intro K U)|(apply si;intro A B Y Z)|(apply Y;clear Z B Y A)|(apply U;clear U K)|apply dr|refine⟨rfl,?_⟩|refine ix ?_|refine tL ?_|(refine fc (fun x hx hlt hc=>?_) (fun hk hc=>?_)<;>(try rw[hc])<;>clear hc)|refine Pure.use (eN _ _ _) ?_|(constructor<;>intro hc<;>(try rw[hc])<;>(replace hc:=bp hc)<;>(try simp(disch:=omega) only[BR,wrap64,AM]at hc))|clear U K)<;>conv=>whnf)
   ·exact AI (by rw[hm,drop_cons hx,LG,gd,hc];simp)
   ·refine⟨hlt,(),rfl,?_,Sat.nil⟩
    rw[hm,drop_cons hx,LG,gd,hc,AX hx];simp[*]
   ·exact AI (by rw[hm,drop_cons hx,LG,gd];simp;intros;omega)
   ·exact AI (by rw[hm,drop_cons hx,LG,gd];simp;intros;omega)
   ·refine⟨by assumption,(),rfl,?_,Sat.nil⟩
    rw[hm,Ap hk,LG,Ev]
  ·exact AI (by rw[hn,Ap hk];rfl)
def J3:Int→List Int→Bool
 | _,[]=>true
 | n,s::r=>s==n&&J3 (n+1) r
def Cj:Int→List Me→Bool
 | _,[]=>true
 | n,c::r=>decide (c.AP.length≤4)&&(decide (c.parents.length≤3)&&(J3 n c.AP&&Cj (n+c.AP.length) r))
def DG (w:AK) (c n:Int):List (Int×Int)→List (Int×Int)→Bool
 | _,[]=>true
 | pre,x::r=>decide (0≤x.1)&&(decide (x.1<n)&&(hasB w c x.1&&(Qf x.2&&(pre.all (fun y=>y.1 != x.1)&&DG w c n (pre++[x]) r))))
def cw (g:List (List Int)) (c:Int):Bool:= !((Bz g).getD c.toNat []).isEmpty
def FN (w:AK) (n:Int):Nat→List Me→Bool
 | _,[]=>true
 | i,c::r=>cw w.parents ((i:Int)+3)&&(DG w ((i:Int)+3) n [] c.inits&&FN w n (i+1) r)
def A2 (p:Prog):Bool:=decide (p.AL.length≤10)&&(Cj 0 p.AL&&((Bl p.AL:Int)==p.AP&&(Dk (Av p)&&FN (AR p) (Bl p.AL) 0 p.AL)))
def oZ {c:Me} (h:HO (E3 c)):c.parents.length≤Ac∧c.AP.length≤Ac∧c.inits.length≤Ac:=by
 simp only[E3,DX,D7,BR]at h;exact⟨h.1.1,h.2.1.1,h.2.2.1.1⟩
def KC {p:Prog} (h:Eu (.a (BN p))):hZ p:=by
 refine⟨(GQ h).1,fun c hc=>?_⟩;simp only[BN,HS,DX,D7,HB]at h;exact oZ (h.1.2 c hc)
def bY (p:Prog) (hk0:p.AL.length≤1000):Pure Tryz.prog 91 [.a (BN p)] (.l (Ei (Av p)) false):=Pure.fit (by kernel_rfl) fun hf=>Wc p (KC hf.1) hk0
def E8: ∀(cs:List Me) (n:Int),Cj n cs=true→Bl cs≤4*cs.length∧ ∀c∈cs,c.parents.length≤3∧c.AP.length≤4
 | [],_,_=>⟨IE _,fun _ h=>by cases h⟩
 | c::r,n,h=>by
   simp only[Cj,BV,CL]at h;have⟨h1,h2⟩:=E8 r _ h.2.2.2;refine⟨by simp only[Bl,EA,List.sum_cons,Lt]at *;omega,fun d hd=>?_⟩;rcases FE.1 hd with rfl|hd
   ·exact⟨h.2.1,h.1⟩
   ·exact h2 d hd
def P9 {i:Nat}: ∀(r pre:List Int),LG i pre r=true→pre.Nodup→(pre++r).Nodup∧ ∀c∈r,(3:Int)≤c∧c<3+(i:Int)
 | [],pre,_,h=>⟨by simpa using h,fun _ h=>by cases h⟩
 | c::r,pre,h,hn=>by
   simp only[LG,gd,BV,CL,Bool.not_eq_true']at h;have hc:c∉pre:=by simpa using h.1.2.2
   obtain⟨h1,h2⟩:=P9 r (pre++[c]) h.2 (List.nodup_append.2 ⟨hn,by simp,fun a ha b hb=>by simp at hb;subst hb;exact fun e=>hc (e ▸ ha)⟩);refine⟨by simpa using h1,fun d hd=>?_⟩;rcases FE.1 hd with rfl|hd
   ·exact⟨h.1.1,h.1.2.1⟩
   ·exact h2 d hd
def OG: ∀(g:List (List Int)) (k:Nat),Hr k g=true→ ∀(i:Nat) (l:List Int),g[i]? =some l→l.length≤3∧l.Nodup∧ ∀c∈l,(3:Int)≤c∧c<3+((k+i:Nat):Int)
 | [],_,_,_,_,h=>by cases h
 | l ::r,k,h,i,l',hi=>by
   simp only[Hr,BV,CL]at h;cases i with
   | zero=>
     simp at hi;subst hi;obtain⟨h1,h2⟩:=P9 l [] h.2.1 .nil;exact⟨h.1,by simpa using h1,by simpa using h2⟩
   | succ i=>
     simp at hi;have:=OG r (k+1) h.2.2 i l' hi;rw[show k+(i+1)=k+1+i by omega];exact this
def Dr {g:List (List Int)} (h:Dk g=true):Hu g:=by
 simp only[Dk,BV,CL]at h;refine⟨h.1,fun i l hi=>?_⟩;have:=OG g 0 h.2 i l hi;simpa using this
def Iy {g:List (List Int)} (h:Hu g):ordered g:=by
 intro c p hp;unfold par at hp;split at hp
 ·cases hp
 ·rename_i h3
  rw[DS]at hp;cases hq:g[c - 3]? with
  | none=>rw[hq]at hp;cases hp
  | some l=>
    rw[hq]at hp;have:=(h.2 _ _ hq).2.2 p hp;omega
def Fq {i:Nat} {cs:List Me} {c:Int} (h:c∈BQ i cs):(3:Int)+i≤c∧c<3+i+cs.length:=by
 induction cs generalizing i with
 | nil=>cases h
 | cons d r ih=>
   simp only[BQ,FX,List.mem_replicate]at h;simp only[Lt];rcases h with⟨_,rfl⟩|h
   ·omega
   ·have:=ih h;omega
def N7 {p:Prog} (h1:p.AL.length≤10) (h2:Cj 0 p.AL=true) (h3:Dk (Av p)=true):Jy (AR p):=by
 have hl:(AR p).parents.length=p.AL.length:=by simp[AR,Av]
 refine⟨by omega,Iy (Dr h3),fun c hc=>?_,?_⟩
 ·have:=Fq hc
  rw[hl];omega
 ·have:=(E8 _ _ h2).1
  simp only[AR,CS];omega
def YZ (p : Prog):Pure Tryz.prog 93 [.a (BN p)] (.b (A2 p)):=by
 refine Pure.fit (by kernel_rfl) fun hf=>?_
 have F:=KC hf.1;have hcl:=F.1;have hM:=Mx;refine ow kZ ?_
 conv=>whnf
 repeat'((first|apply st|(apply sq;intro K U)|(apply si;intro A B Y Z)|(apply Y;clear Z B Y A)|(apply U;clear U K)|refine⟨rfl,?_⟩|(constructor<;>intro hc<;>(try rw[hc])<;>(replace hc:=bp hc)<;>(try simp(disch:=omega) only[BR,wrap64,AM]at hc))|clear U K)<;>conv=>whnf)
 ·exact AI (by simp[A2];intros;omega)
 have h10:p.AL.length≤10:=by omega
 refine CZ p.AL.length (fun k (n:Int)=>[(3,eI n),(4,eI (BH k))]) (fun _ _=>[]) (fun k n=>Cj 0 p.AL=Cj n (p.AL.drop k)∧0≤n∧n+Bl (p.AL.drop k)=Bl p.AL∧n≤4*k) 0 rfl (by simp) Sat.nil ?_;rintro k n σ hk ⟨hn,hn0,hn1,hn2⟩ hs
 conv=>whnf
 repeat'((first|apply st|(apply sq;intro K U)|(apply si;intro A B Y Z)|(apply Y;clear Z B Y A)|(apply U;clear U K)|refine⟨rfl,?_⟩|refine⟨kZ,?_⟩|refine ix ?_|(refine fc (fun x hx hlt hc=>?_) (fun hk hc=>?_)<;>(try rw[hc])<;>clear hc)|refine Pure.use (bY _ (by omega)) ?_|refine Pure.use (eR _ _) ?_|(constructor<;>intro hc<;>(try rw[hc])<;>(replace hc:=bp hc)<;>(try simp(disch:=omega) only[BR,wrap64,AM]at hc))|clear U K)<;>conv=>whnf)
 ·exact AI (by simp only[A2];rw[hn,drop_cons hx,Cj];simp;intros;omega)
 ·have hms:n+(x.AP.length:Int)+Bl (p.AL.drop (k+1))=Bl p.AL:=by
   rw[drop_cons hx]at hn1;simp only[Bl,EA,List.sum_cons]at hn1 ⊢;omega
  have hsl:=(F.2 x (Cg hx)).2.1
  have hn':Cj 0 p.AL=(J3 n x.AP&&Cj (n+x.AP.length) (p.AL.drop (k+1))):=by
   have a1:x.AP.length≤4:=by omega
   have a2:x.parents.length≤3:=by omega
   rw[hn,drop_cons hx,Cj];simp only[a1,a2,decide_true,Ev]
  revert x
  rintro c hx hcs h3 hms hsl hn';refine CZ c.AP.length (fun j (m:Int)=>[(3,eI m),(6,eI (BH j))]) (fun _ _=>[]) (fun j m=>Cj 0 p.AL=(J3 m (c.AP.drop j)&&Cj (n+c.AP.length) (p.AL.drop (k+1)))∧m=n+j) n rfl ⟨hn',by simp⟩ Sat.nil ?_;rintro j m σ hj ⟨hm,he⟩ hs
  conv=>whnf
  repeat'((first|apply st|(apply sq;intro K U)|(apply si;intro A B Y Z)|(apply Y;clear Z B Y A)|(apply U;clear U K)|refine⟨rfl,?_⟩|refine ix ?_|(refine fc (fun x hx hlt hc=>?_) (fun hk hc=>?_)<;>(try rw[hc])<;>clear hc)|(constructor<;>intro hc<;>(try rw[hc])<;>(replace hc:=bp hc))|clear U K)<;>conv=>whnf)
  ·exact AI (by simp only[A2];rw[hm,drop_cons (by assumption),J3];simp[hc])
  ·refine⟨hlt,_,rfl,⟨?_,?_⟩,hs⟩
   ·rw[hm,drop_cons (by assumption),J3,wrap64 (by omega) (by omega)];simp[hc]
   ·rw[wrap64 (by omega) (by omega)];omega
  ·refine⟨by assumption,m,rfl,⟨?_,by omega,by omega,by omega⟩,hs⟩
   rw[hm,Ap (by assumption),J3,Ev,he];congr 1;omega
 ·exact AI (by simp only[A2];rw[hn,drop_cons hx,Cj];simp;intros;omega)
 ·have hne:n=Bl p.AL:=by rw[Ap hk]at hn1;simpa[Bl]using hn1
  exact AI (by simp only[A2];rw[hc];simp)
 ·have hne:n=Bl p.AL:=by rw[Ap hk]at hn1;simpa[Bl]using hn1
  have hsb:Cj 0 p.AL=true:=by rw[hn,Ap hk];rfl
  have hms:=(E8 _ _ hsb).1;have hok:=N7 h10 hsb hc
  have hcb:A2 p=FN (AR p) n 0 p.AL:=by
   simp only[A2,hsb,hc,←hne];simp[*]
  refine(Qt p F (by omega) (by omega)).use ?_
  conv=>whnf
  repeat'((first|apply st|(apply sq;intro K U)|(apply si;intro A B Y Z)|(apply Y;clear Z B Y A)|(apply U;clear U K)|refine sn fun σ hs=>?_|(intro nn hnn;generalize hg:A7 _ nn _=σ;refine al hg fun hs=>?_;clear hg)|fail)<;>conv=>whnf)
  refine CZ p.AL.length (fun k (_:Unit)=>[(9,eI (BH k))]) (fun _ _=>[.box nn (BE (AR p))]) (fun k _=>A2 p=FN (AR p) n k (p.AL.drop k)) () rfl (by rw[hcb];rfl) hs ?_;rintro k - σ hk hn hs
  conv=>whnf
  repeat'((first|apply st|(apply sq;intro K U)|(apply si;intro A B Y Z)|(apply Y;clear Z B Y A)|(apply U;clear U K)|refine⟨rfl,?_⟩|(refine fc (fun x hx hlt hc=>?_) (fun hk hc=>?_)<;>(try rw[hc])<;>clear hc)|clear U K)<;>conv=>whnf)
  ·have e3 : IntKind.i64.wrap (BH k+3)=(k:Int)+3:=by rw[AM (by omega),wrap64 (by omega) (by omega)]
   rw[e3];have hgl:(Av p).length=p.AL.length:=by simp[Av]
   refine(jN (Av p) false ((k:Int)+3) (Dr hc) (by omega) (by omega)).use ?_
   conv=>whnf
   repeat'((first|apply st|(apply sq;intro K U)|(apply si;intro A B Y Z)|(apply Y;clear Z B Y A)|(apply U;clear U K)|refine ix ?_|(constructor<;>intro hc<;>(try rw[hc])<;>(replace hc:=bp hc))|clear U K)<;>conv=>whnf)
   ·have hlb:cw (AR p).parents ((k:Int)+3)=false:=by
     show(!((Bz (Av p)).getD ((k:Int)+3).toNat []).isEmpty)=false;rw[hc];rfl
    exact AI (by rw[hn,drop_cons hx,FN,hlb];rfl)
   ·have hil:=(F.2 x (Cg hx)).2.2
    have hn':A2 p=(DG (AR p) ((k:Int)+3) n [] x.inits&&FN (AR p) n (k+1) (p.AL.drop (k+1))):=by
     have hlb:cw (AR p).parents ((k:Int)+3)=true:=by
      show(!((Bz (Av p)).getD ((k:Int)+3).toNat []).isEmpty)=true;rw[hc];rfl
     rw[hn,drop_cons hx,FN,hlb];rfl
    revert x
    rintro c hx hil hn';refine CZ c.inits.length (fun j (_:Unit)=>[(14,eI (BH j))]) (fun _ _=>[.box nn (BE (AR p))]) (fun j _=>A2 p=(DG (AR p) ((k:Int)+3) n (c.inits.take j) (c.inits.drop j)&&FN (AR p) n (k+1) (p.AL.drop (k+1)))) () rfl (by rw[hn'];rfl) hs ?_;rintro j - σ hj hm hs
    conv=>whnf
    repeat'((first|apply st|(apply sq;intro K U)|(apply si;intro A B Y Z)|(apply Y;clear Z B Y A)|(apply U;clear U K)|apply dr|refine⟨rfl,?_⟩|refine⟨kZ,?_⟩|refine ix ?_|refine ld ?_|(refine fc (fun x hx hlt hc=>?_) (fun hk hc=>?_)<;>(try rw[hc])<;>clear hc)|(constructor<;>intro hc<;>(try rw[hc])<;>(replace hc:=bp hc))|clear U K)<;>conv=>whnf)
    ·refine(Zm (AR p) ((k:Int)+3) x.1 hok (by omega) (by rw[show(AR p).parents=Av p from rfl];omega) (by omega) (by rw[show(AR p).owner=BQ 0 p.AL from rfl,CS];omega)).use ?_
     conv=>whnf
     repeat'((first|apply st|(apply sq;intro K U)|(apply si;intro A B Y Z)|(apply Y;clear Z B Y A)|(apply U;clear U K)|apply dr|refine ix ?_|refine Pure.use (fy _) ?_|(constructor<;>intro hc<;>(try rw[hc])<;>(replace hc:=bp hc))|clear U K)<;>conv=>whnf)
     ·exact AI (by rw[hm,drop_cons hx,DG];simp[*])
     ·have hm':A2 p=((c.inits.take j).all (fun y=>y.1 != x.1)&&(DG (AR p) ((k:Int)+3) n (c.inits.take (j+1)) (c.inits.drop (j+1))&&FN (AR p) n (k+1) (p.AL.drop (k+1)))):=by
       have b1:decide (0≤x.1)=true:=decide_eq_true (by assumption);have b2:decide (x.1<n)=true:=decide_eq_true (by assumption);rw[hm,drop_cons hx,DG,AX hx,b1,b2,‹hasB _ _ _=true›,hc];simp only[Ev,Bool.and_assoc]
      revert x
      rintro x hxj hx0 hx1 hhb hbt hm';refine CZ j (fun i (_:Unit)=>[(15,eI (BH i))]) (fun _ _=>[.box nn (BE (AR p))]) (fun i _=>A2 p=(((c.inits.take j).drop i).all (fun y=>y.1 != x.1)&&(DG (AR p) ((k:Int)+3) n (c.inits.take (j+1)) (c.inits.drop (j+1))&&FN (AR p) n (k+1) (p.AL.drop (k+1))))) () rfl (by rw[hm'];rfl) hs ?_;rintro i - σ hi hl hs;rcases Nat.lt_or_ge i j with hij|hij
      ·obtain⟨y,hy⟩: ∃y,c.inits[i]? =some y:=⟨_,DZ (by omega)⟩
       have hy':(c.inits.take j)[i]? =some y:=by rw[List.getElem?_take,if_pos hij,hy]
       conv=>whnf
       repeat'((first|apply st|(apply sq;intro K U)|(apply si;intro A B Y Z)|(apply Y;clear Z B Y A)|(apply U;clear U K)|apply dr|refine⟨rfl,?_⟩|refine ix ?_|(constructor<;>intro hc<;>(try rw[hc])<;>(replace hc:=bp hc)<;>(try simp(disch:=omega) only[BR,wrap64,AM]at hc)<;>try(exfalso;omega))|clear U K)<;>conv=>whnf)
       ·exact AI (by rw[hl,drop_cons hy',Rs,hc];simp)
       ·refine⟨hij,(),rfl,?_,hs⟩
        have hc':(y.1 != x.1)=true:=by simpa using hc
        rw[hl,drop_cons hy',Rs,hc',Ev]
      ·conv=>whnf
       repeat'((first|apply st|(apply sq;intro K U)|(apply si;intro A B Y Z)|(apply Y;clear Z B Y A)|(apply U;clear U K)|refine⟨rfl,?_⟩|(constructor<;>intro hc<;>(try rw[hc])<;>(replace hc:=bp hc)<;>(try simp(disch:=omega) only[BR,wrap64,AM]at hc)<;>try(exfalso;omega))|clear U K)<;>conv=>whnf)
       refine⟨by assumption,(),rfl,?_,hs⟩;rw[hl,List.drop_of_length_le (by rw[K6];omega),List.all_nil,Ev]
     ·exact AI (by rw[hm,drop_cons hx,DG];simp[*])
    ·exact AI (by rw[hm,drop_cons hx,DG];simp;intros;omega)
    ·exact AI (by rw[hm,drop_cons hx,DG];simp;intros;omega)
    ·refine⟨by assumption,(),rfl,?_,hs⟩
     rw[hm,Ap hk,DG,Ev]
  ·exact AI (by rw[hn,Ap hk];rfl)
 ·have hne:n=Bl p.AL:=by rw[Ap hk]at hn1;simpa[Bl]using hn1
  exact AI (by simp only[A2];rw[←hne];simp[hc])
def FM (f:Int→Int→List Int→Option (List Int)) (op size:Int):Nat→List Int→List Int→Option (List Int)
 | _,[],s=>some s
 | i,k::r,s=>match f k (if op=9∧i=1 then size+1 else size) s with
   | none=>none
   | some s'=>FM f op size (i+1) r s'
def D4 (p:Prog) (next:Bool) (size:Int) (x:Node):Bool:=((x.kids.length:Int)==IP p x)&&(LF p x size&&(x.op != 18||next))
def CG (p:Prog) (next:Bool):Nat→Int→Int→List Int→Option (List Int)
 | 0,_,_,_=>none
 | d+1,n,size,s=>
   if n<0∨(p.nodes.length:Int)≤n∨0≤s.getD n.toNat 0 then none else
   match p.nodes[n.toNat]? with
   | none=>none
   | some x=>if D4 p next size x then FM (CG p next d) x.op size 0 x.kids (s.set n.toNat size)else none
def SV (v:V) (s:List Int) (o:Option (List Int)) (r:R) (post:List At):Prop:=
 ∃s':List Int,s'.length=s.length∧post= [.own v 1 (iL s')]∧((o=some s'∧r= .ret (.b true))∨(o=none∧r= .ret (.b false)))
def NJ {v:V} {s s':List Int} {o:Option (List Int)} {σ:AH} {rest:List At} (hs:Sat σ (.own v 1 (iL s')::rest)) (hl:s'.length=s.length) (ho:o=none):Aw σ (.b false) fun r σ'=> ∃post,SV v s o r post∧Sat σ' post:=
 Aq hs (.cons₂ _ (Lr _)) (.refl _) fun σ' hs'=>⟨_,⟨s',hl,rfl,.inr ⟨ho,rfl⟩⟩,hs'⟩
def Zn {p:Prog} (h:Eu (.a (BN p))) {x:Node} (hx:x∈p.nodes):x.kids.length≤Ac:=by
 simp only[BN,HS,DX,D7,HB]at h
 have h2:HO (Ea x):=by
  first|exact h.2.2.2.2.1.2 x hx|exact h.2.2.2.2.2.1.2 x hx|exact h.2.2.2.1.2 x hx|exact h.2.2.1.2 x hx|exact h.2.1.2 x hx
 simp only[Ea,DX,D7,BR]at h2
 first|exact h2.2.2.1.1|exact h2.2.2.1|exact h2.1
def Mf {p:Prog} {next:Bool} {d:Nat} {n size:Int} {s:List Int} {x:Node} {y:Int} (h0:0≤n) (h1:n<(p.nodes.length:Int)) (hs:s[n.toNat]? =some y) (hy:y<0) (hx:p.nodes[n.toNat]? =some x) :
    CG p next (d+1) n size s=if D4 p next size x then FM (CG p next d) x.op size 0 x.kids (s.set n.toNat size)else none:=by
 have e:s.getD n.toNat 0=y:=by rw[DS,hs];rfl
 simp only[CG];rw[if_neg (by rw[e];omega),hx]
def LW {p:Prog} {next:Bool} {d:Nat} {n size:Int} {s:List Int} (h:n<0∨(p.nodes.length:Int)≤n∨0≤s.getD n.toNat 0):CG p next (d+1) n size s=none:=by
 simp only[CG];rw[if_pos h]
set_option maxHeartbeats 4000000 in
def ZN (p : Prog) (next:Bool): ∀d:Nat,d≤12→ ∀(n size depth:Int) (s:List Int) (v:V),depth=13 - d→0≤size→size+d≤100→s.length=p.nodes.length→(Cb v).isSome=true→
    Bc Tryz.prog 96 [.a (BN p),eI n,eI size,eI depth,.b next,v] [.own v 1 (iL s)] (SV v s (CG p next d n size s)):=by
 intro d
 induction d with
 | zero=>
   intro _ n size depth s v hd h0 h1 hl hv σ hs;refine BD.fit (by kernel_rfl) fun hf=>?_
   have⟨p1,p2,p3,p4⟩:=GQ hf.1;have hM:=Mx;refine gE kZ ?_
   conv=>whnf
   repeat'((first|apply st|(apply sq;intro K U)|(apply si;intro A B Y Z)|(apply Y;clear Z B Y A)|(apply U;clear U K)|refine⟨rfl,?_⟩|refine oi ?_|refine ol fun x hx=>?_|(constructor<;>intro hc<;>(try rw[hc])<;>(replace hc:=bp hc)<;>(try simp(disch:=omega) only[BR,wrap64,AM]at hc)<;>try(exfalso;omega))|clear U K)<;>conv=>whnf)
   all_goals exact Aq hs (.refl _) (.refl _) fun σ' hs'=>⟨_,⟨s,rfl,rfl,.inr ⟨rfl,rfl⟩⟩,hs'⟩
 | succ d ih =>
   intro hd12 n size depth s v hd h0 h1 hl hv σ hs;refine BD.fit (by kernel_rfl) fun hf=>?_
   have⟨p1,p2,p3,p4⟩:=GQ hf.1;have hM:=Mx;refine gE kZ ?_
   conv=>whnf
   repeat'((first|apply st|(apply sq;intro K U)|(apply si;intro A B Y Z)|(apply Y;clear Z B Y A)|(apply U;clear U K)|apply dr|refine rk ?_ ?_|exact fun s e=>by cases e;rfl|refine⟨rfl,?_⟩|refine⟨kZ,?_⟩|refine iq fun x hx=>?_|refine ld ?_|refine sn fun σ hs=>?_|refine oi ?_|refine ol fun x hx=>?_|refine oset fun σ hs=>?_|refine Pure.use (eH _ _) ?_|refine Pure.use (Xq _ _ _) ?_|(constructor<;>intro hc<;>(try rw[hc])<;>(replace hc:=bp hc)<;>(try simp(disch:=omega) only[BR,wrap64,AM]at hc)<;>try(exfalso;omega))|(intro nn hnn;generalize hg:A7 _ nn _=σ;refine al hg fun hs=>?_;clear hg)|clear U K)<;>conv=>whnf)
   ·exact NJ hs (by simp) (by rw[Mf (by assumption) (by assumption) (by assumption) (by assumption) hx];simp[D4, *])
   rotate_left
   ·cases hc
   rotate_left
   ·exact NJ hs (by simp) (by rw[Mf (by assumption) (by assumption) (by assumption) (by assumption) hx];simp[D4, *])
   ·exact NJ hs (by simp) (by rw[Mf (by assumption) (by assumption) (by assumption) (by assumption) hx];simp[D4, *])
   ·exact NJ hs rfl (LW (.inr (.inr (by rw[DS,hx];exact hc))))
   ·exact NJ hs rfl (LW (.inr (.inl hc)))
   ·exact NJ hs rfl (LW (.inl hc))
   all_goals
    have hW:CG p next (d+1) n size s=FM (CG p next d) x.op size 0 x.kids (s.set n.toNat size):=by
     rw[Mf (by assumption) (by assumption) (by assumption) (by assumption) hx];simp[D4, *]
    rw[hW]
    rename Node=>nd
    refine CZ nd.kids.length (fun k (_:List Int)=>[(14,eI (BH k))]) (fun _ s'=>[.own v 1 (iL s'),.obj nn (.cs (Ea nd))]) (fun k s'=>s'.length=s.length∧FM (CG p next d) nd.op size 0 nd.kids (s.set n.toNat size)=FM (CG p next d) nd.op size k (nd.kids.drop k) s') (s.set n.toNat size) rfl ⟨by simp,by simp⟩ hs ?_;clear hs;rintro k s' σ hk ⟨hl',hkids⟩ hs;have hkm:=Zn hf.1 (Cg hx);have hck:BH k=k:=AM (by omega);by_cases hlt:k<nd.kids.length
    ·obtain⟨kid,hkid⟩: ∃kid,nd.kids[k]? =some kid:=⟨_,DZ hlt⟩
     have hrec:=fun kid sz h0 h1=>ih (by omega) kid sz (depth+1) s' v (by omega) h0 h1 (by omega) hv
     conv=>whnf
     repeat'((first|apply st|(apply sq;intro K U)|(apply si;intro A B Y Z)|(apply Y;clear Z B Y A)|(apply U;clear U K)|apply dr|refine⟨rfl,?_⟩|refine⟨kZ,?_⟩|refine ix ?_|refine ld ?_|(refine fc (fun x hx hlt hc=>?_) (fun hk hc=>?_)<;>(try rw[hc])<;>clear hc)|(constructor<;>intro hc<;>(try rw[hc])<;>(replace hc:=bp hc)<;>(try simp(disch:=omega) only[BR,wrap64,AM]at hc)<;>try(exfalso;omega))|clear U K)<;>conv=>whnf)
     all_goals try(exfalso;omega)
     all_goals try refine IK (enc:=fun i:Int=>[V.i .i64 i]) hkid hkm rfl ?_
     conv=>whnf
     all_goals try(exfalso;omega)
     all_goals
      have hK2:=hkids;rw[drop_cons hx,FM]at hK2
      first
       | rw[if_pos (by omega)]at hK2
         rw[wrap64 (by omega) (by omega),wrap64 (by omega) (by omega)];refine(hrec x (size+1) (by omega) (by omega)).use hs ?_
       | rw[if_neg (by omega)]at hK2
         rw[wrap64 (by omega) (by omega)];refine(hrec x size (by omega) (by omega)).use hs ?_
      rintro r post σ' ⟨s2,hl2,rfl,⟨ho,rfl⟩|⟨ho,rfl⟩⟩ hs
      ·rw[ho]at hK2
       conv=>whnf
       repeat'((first|apply st|(apply sq;intro K U)|(apply si;intro A B Y Z)|(apply Y;clear Z B Y A)|(apply U;clear U K)|apply dr|refine⟨rfl,?_⟩|(constructor<;>intro hc<;>(try rw[hc])<;>(replace hc:=bp hc)<;>(try simp(disch:=omega) only[BR,wrap64,AM]at hc))|clear U K)<;>conv=>whnf)
       all_goals first|(exfalso;cases hc;done)|exact⟨hlt,s2,rfl,⟨by omega,hK2⟩,hs⟩
      ·rw[ho]at hK2
       conv=>whnf
       repeat'((first|apply st|(apply sq;intro K U)|(apply si;intro A B Y Z)|(apply Y;clear Z B Y A)|(apply U;clear U K)|apply dr|refine⟨rfl,?_⟩|(constructor<;>intro hc<;>(try rw[hc])<;>(replace hc:=bp hc)<;>(try simp(disch:=omega) only[BR,wrap64,AM]at hc))|clear U K)<;>conv=>whnf)
       all_goals first|exact NJ hs (by omega) hK2|(exfalso;cases hc;done)
    ·have hke:k=nd.kids.length:=by omega
     conv=>whnf
     repeat'((first|apply st|(apply sq;intro K U)|(apply si;intro A B Y Z)|(apply Y;clear Z B Y A)|(apply U;clear U K)|refine⟨rfl,?_⟩|refine ld ?_|(refine fc (fun x hx hlt hc=>?_) (fun hk hc=>?_)<;>(try rw[hc])<;>clear hc)|(constructor<;>intro hc<;>(try rw[hc])<;>(replace hc:=bp hc)<;>try(exfalso;omega))|clear U K)<;>conv=>whnf)
     all_goals try(exfalso;omega)
     rw[hke,Ap rfl]at hkids;exact Aq hs (.cons₂ _ (Lr _)) (.refl _) fun σ' hs'=>⟨_,⟨s',hl',rfl,.inl ⟨(by first|rw[hW,hkids,FM]|rw[hkids,FM]),rfl⟩⟩,hs'⟩
end Go.Gl
namespace Go.Gl
variable {P:Program} {σ:AH} {env:Env}
def lo {l:List At} {i:Nat} {v:V} {sz:Nat} {es:List (List V)} {K:V→Prop} (hk:K (.i .i64 es.length)) (h:Sat σ l:=by assumption)
    (hi:l[i]? =some (.own v sz es):=by first|exact Rq|exact Rp|exact Ro|exact Rn|exact Rm|exact Rl) (hm:es.length≤Ac:=by first|omega|(simp only[BR,List.length_replicate,List.length_set,Ac]at *;omega)):A4 v K:=nQ h i hi hm hk
def Sat.take {l:List At} (h:Sat σ l) (n:Nat):Sat σ (l.take n):=h.less (List.take_sublist _ _)
def Cc {b:Bool} {σ σ':AH}:Fa σ σ' (.l [] b) (.l [] false):= .l (fun h=>by cases h) .nil
def L3 {b:Bool} {σ σ':AH} {es:List (List V)}:Fa σ σ' (.l es b) (.l es false):= .l (fun h=>by cases h) (E5.refl _ _ _)
mutual
def QN {σ σ':AH}: ∀vs:List V,C4 σ σ' vs vs
 | []=> .nil
 | v::r=> .cons (.refl v) (QN r)
end
def HN {σ σ':AH}: ∀es:List (List V),E5 σ σ' es es
 | []=> .nil
 | e::r=> .cons (QN e) (HN r)
def BM {α:Type} (xs:List α) {k:Nat} (hk:k≤xs.length):(∃x,xs[k]? =some x∧k<xs.length)∨k=xs.length:=by
 rcases Nat.lt_or_ge k xs.length with h|h
 ·exact .inl ⟨_,DZ h,h⟩
 ·exact .inr (by omega)
def Cv {α:Type} {enc:α→List V} {xs:List α} {k:Nat} {x:α} {A B:Prop} (h1:decide (BH k<((xs.map enc).length:Nat))=true→A) (hx:xs[k]? =some x:=by assumption) (hm:xs.length≤Ac:=by first|assumption|omega|simp[Ac]<;>omega) :
    (decide (BH k<((xs.map enc).length:Nat))=true→A)∧(decide (BH k<((xs.map enc).length:Nat))=false→B):=by
 refine⟨h1,fun h=>?_⟩;have hlt:=(H4.1 hx).1;rw[AM (by omega),BR]at h;have:=of_decide_eq_false h;omega
def EI {α:Type} {enc:α→List V} {xs:List α} {k:Nat} {A B:Prop} (h1:decide (BH k<((xs.map enc).length:Nat))=false→B) (hx:k=xs.length:=by assumption) (hm:xs.length≤Ac:=by first|assumption|omega|simp[Ac]<;>omega) :
    (decide (BH k<((xs.map enc).length:Nat))=true→A)∧(decide (BH k<((xs.map enc).length:Nat))=false→B):=by
 refine⟨fun h=>?_,h1⟩;rw[AM (by omega),BR]at h;have:=of_decide_eq_true h;omega
def ID {α:Type} {enc:α→List V} {xs:List α} {f:Bool} {sz:Nat} {K:V→Prop} {ki:IntKind} {j:Int} {x:α} (h:K (.rp (enc x))) (hx:xs[j.toNat]? =some x:=by assumption) (h0:0≤j:=by omega) (hs:(enc x).length=sz:=by first|rfl|simp|(rw[B0];rfl)) :
    AU sz none (.l (xs.map enc) f) (.i ki j) K:=R9 j.toNat hx (by omega) hs h
def O3 {xs:List Fact} {f:Bool} {K:V→Prop} {ki:IntKind} {j:Int} {x:Fact} (h:K (.rp (xF x))) (hx:xs[j.toNat]? =some x:=by assumption) (h0:0≤j:=by omega):AU 6 none (.l (xs.map F4) f) (.i ki j) K:=by
 refine ID ?_ hx h0;rw[B0];exact h
class CB (b:Bool) (v:outParam Bool):Prop where
 h:b=v
instance :CB true true:=⟨rfl⟩
instance :CB false false:=⟨rfl⟩
instance {b:Bool} [i:CB b true]:CB (!b) false:=⟨by rw[i.h];rfl⟩
instance {b:Bool} [i:CB b false]:CB (!b) true:=⟨by rw[i.h];rfl⟩
instance {b x y v:Bool} [i:CB b true] [j:CB x v]:CB (bif b then x else y) v:=⟨by rw[i.h,j.h];rfl⟩
instance {b x y v:Bool} [i:CB b false] [j:CB y v]:CB (bif b then x else y) v:=⟨by rw[i.h,j.h];rfl⟩
instance {a b:Bool} [i:CB a true] [j:CB b true]:CB (a==b) true:=⟨by rw[i.h,j.h];rfl⟩
instance {a b:Bool} [i:CB a true] [j:CB b false]:CB (a==b) false:=⟨by rw[i.h,j.h];rfl⟩
instance {a b:Bool} [i:CB a false] [j:CB b true]:CB (a==b) false:=⟨by rw[i.h,j.h];rfl⟩
instance {a b:Bool} [i:CB a false] [j:CB b false]:CB (a==b) true:=⟨by rw[i.h,j.h];rfl⟩
instance {a b:Bool} [i:CB a true] [j:CB b true]:CB (a != b) false:=⟨by rw[i.h,j.h];rfl⟩
instance {a b:Bool} [i:CB a true] [j:CB b false]:CB (a != b) true:=⟨by rw[i.h,j.h];rfl⟩
instance {a b:Bool} [i:CB a false] [j:CB b true]:CB (a != b) true:=⟨by rw[i.h,j.h];rfl⟩
instance {a b:Bool} [i:CB a false] [j:CB b false]:CB (a != b) false:=⟨by rw[i.h,j.h];rfl⟩
def FI {A B:Prop} {b:Bool} [i:CB b true] (h:A):(b=true→A)∧(b=false→B):=⟨fun _=>h,fun e=>(by rw[i.h]at e;cases e)⟩
def EM {A B:Prop} {b:Bool} [i:CB b false] (h:B):(b=true→A)∧(b=false→B):=⟨fun e=>(by rw[i.h]at e;cases e),fun _=>h⟩
def UC {A B:Prop} {b:Bool} [i:CB b true] (h:B):(b=false→A)∧(b=true→B):=⟨fun e=>(by rw[i.h]at e;cases e),fun _=>h⟩
def JU {A B:Prop} {b:Bool} [i:CB b false] (h:A):(b=false→A)∧(b=true→B):=⟨fun _=>h,fun e=>(by rw[i.h]at e;cases e)⟩
def vM {l:List At} {i:Nat} {v:V} {sz:Nat} {es:List (List V)} {ki:IntKind} {j:Int} {K:V→Prop} (hk:K (GR v sz j.toNat)) (h:Sat σ l:=by assumption)
    (hi:l[i]? =some (.own v sz es):=by first|exact Rq|exact Rp|exact Ro|exact Rn|exact Rm|exact Rl) (h0:0≤j:=by omega) (h1:j<es.length:=by(simp only[BR,List.length_set];omega)):AU sz none v (.i ki j) K:=
 cW h i j.toNat hi (by omega) (by omega) hk
def m6 {α:Type} {enc:α→List V} {xs:List α} {x:α} {l:List At} {i:Nat} {v:V} {sz k:Nat} {agg:Option Nat} {K:V→Prop} (hk:cut agg (enc x) 0 K) (h:Sat σ l:=by assumption)
    (hi:l[i]? =some (.own v sz (xs.map enc)):=by first|exact Rq|exact Rp|exact Ro|exact Rn|exact Rm|exact Rl) (hx:xs[k]? =some x:=by assumption):Ab σ agg (GR v sz k) K:=
 Ip h i hi (by rw[PF,hx];rfl) hk
def nf {v:V} (h:(Cb v).isSome=true): ∃n l c,v= .sl n l c:=by
 cases v<;>first|(cases h;done)|exact⟨_,_,_,rfl⟩
def vR {l:List At} {i:Nat} {xs:List Fact} {x:Fact} {v:V} {f:Bool} {e:List V} {K:V→AH→Prop} (hk: ∀v' σ',Sat σ' (l.set i (.own v' 6 (facts (xs++[x]))))→(Cb v').isSome=true→K v' σ') (h:Sat σ l:=by assumption)
    (hi:l[i]? =some (.own v 6 (facts xs)):=by first|exact Rq|exact Rp|exact Ro|exact Rn|exact Rm|exact Rl)
    (he:e=xF x:=by rfl)
    {b:Nat} (hl:xs.length<Ac∧(xs.length+1)*b≤140737488355328:=by first|assumption|omega|(simp only[QP,BR,Lt,List.length_nil,K6,tJ,List.length_replicate,Ac]at *;omega)):AO b σ 6 v (.l [e] f) K:=
 GC (Fh h i hi hl NU hk (by rw[he,B0]))
end Go.Gl
namespace Go.Gl
open Go.Proofs
attribute [local irreducible] BD Aw Ai AU AO Ah AV AW AN Ag AS AT Ay A9 Sat Ab A4 Aj W
def ON {w:AK} (f:Fact):BW w f=true→NL f=true:=by
 induction f using Fact.ind with
 | h f ih=>
   intro h;rw[CK]at h;simp only[C1,BV,EL,CL]at h;rw[Kp];simp only[BV,CL,List.all_map,EL,Function.comp_apply,id];exact⟨⟨h.1.2.2.1,h.1.2.2.2.1⟩,fun k hk=>ih k hk (h.2 k hk)⟩
def Mu (p:Prog) (m:MY):Bool:=decide (1≤m.kind)&&(decide (m.kind≤4)&&(decide (0≤m.gen)&&(decide (m.gen<(p.CM.length:Int))&&(CW (AR p) m.fact&&decide (Cx m.fact≤p.CM.getD m.gen.toNat 0)))))
def runM (p:Prog):List MY→List Int→Option (List Int)
 | [],s=>some s
 | m::r,s=>if Mu p m then match CG p (JD m.kind) 12 m.node (p.CM.getD m.gen.toNat 0) s with
   | none=>none
   | some s'=>runM p r s' else none
def Cf (p:Prog):Bool:=A2 p&&(decide (p.CM.length≤8)&&(decide (p.methods.length≤16)&&(decide (1≤p.nodes.length)&&(decide (p.nodes.length≤120)&&p.CM.all fun g=>decide (1≤g)&&decide (g≤3)))))
def BA (p:Prog):Option (List Int):=if Cf p then match runM p p.methods (List.replicate p.nodes.length (-1))with
 | none=>none
 | some s=>match CG p false 12 p.main 0 s with
   | none=>none
   | some s=>if s.all fun n=>decide (0≤n)then some s else none else none
def JE (p:Prog):Option (List Int)→Option (List Int)
 | none=>none
 | some s=>match CG p false 12 p.main 0 s with
   | none=>none
   | some s=>if s.all fun n=>decide (0≤n)then some s else none
def Lz (p:Prog):V:=match BA p with
 | none=> .t [.l [] true,.b false]
 | some s=> .t [.l (iL s) false,.b true]
def ft {p:Prog} (h:BA p=none):Lz p= .t [.l [] true,.b false]:=by simp only[Lz,h]
def n9 {p:Prog} (h:Cf p=false):Lz p= .t [.l [] true,.b false]:=ft (by unfold BA;rw[h];rfl)
def KE {p:Prog} {σ:AH} (h:BA p=none):Aw σ (.t [.l [] true,.b false]) fun r σ'=>r=R.ret (Lz p)∧σ'=emp:=by
 rw[ft h];exact AI rfl
def NI {p:Prog} {σ:AH} (h:Cf p=false):Aw σ (.t [.l [] true,.b false]) fun r σ'=>r=R.ret (Lz p)∧σ'=emp:=by
 rw[n9 h];exact AI rfl
def WI {p:Prog} (h:Cf p=true):BA p=JE p (runM p p.methods (List.replicate p.nodes.length (-1))):=by
 unfold BA;rw[if_pos h];rfl
def DU {p:Prog} {k:Nat} {x:MY} {s:List Int} (hx:p.methods[k]? =some x) (hn:BA p=JE p (runM p (p.methods.drop k) s)) (hok:Mu p x=false):BA p=none:=by
 rw[hn,drop_cons hx,runM,if_neg (by simp[hok])];rfl
def Pd {p:Prog} {k:Nat} {x:MY} {s:List Int} (hx:p.methods[k]? =some x) (hn:BA p=JE p (runM p (p.methods.drop k) s)) (hok:Mu p x=true) (hw:CG p (JD x.kind) 12 x.node (p.CM.getD x.gen.toNat 0) s=none):BA p=none:=by
 rw[hn,drop_cons hx,runM,if_pos hok,hw];rfl
def V1 {p:Prog} {k:Nat} {x:MY} {s s':List Int} (hx:p.methods[k]? =some x) (hn:BA p=JE p (runM p (p.methods.drop k) s)) (hok:Mu p x=true) (hw:CG p (JD x.kind) 12 x.node (p.CM.getD x.gen.toNat 0) s=some s'):BA p=JE p (runM p (p.methods.drop (k+1)) s'):=by
 rw[hn,drop_cons hx,runM,if_pos hok,hw]
def Pw {p:Prog} (h:Cf p=true) {k:Nat} {x:Int} (hx:p.CM[k]? =some x):1≤x∧x≤3:=by
 simp only[Cf,BV,EL,CL]at h;exact h.2.2.2.2.2 x (Cg hx)
set_option maxHeartbeats 4000000 in
def jK (p:Prog):Pure Tryz.prog 65 [.a (BN p)] (Lz p):=by
 refine Pure.fit (by kernel_rfl) fun hf=>?_
 have⟨p1,p2,p3,p4⟩:=GQ hf.1;have hM:=Mx;refine pG kZ ?_;have hs:=Sn
 conv=>whnf
 repeat'((first|apply st|(apply sq;intro K U)|(apply si;intro A B Y Z)|(apply Y;clear Z B Y A)|(apply U;clear U K)|refine⟨rfl,?_⟩|refine⟨kZ,?_⟩|refine Pure.use (YZ _) ?_|(constructor<;>intro hc<;>(try rw[hc])<;>(replace hc:=bp hc)<;>(try simp(disch:=omega) only[BR,wrap64,AM]at hc))|clear U K)<;>conv=>whnf)
 ·exact NI (by simp[Cf];intros;omega)
 rotate_left
 ·exact NI (by simp[Cf];intros;omega)
 ·exact NI (by simp[Cf];intros;omega)
 ·exact NI (by simp[Cf];intros;omega)
 ·exact NI (by simp[Cf, *])
 have a1:p.CM.length≤8:=by omega
 have a2:p.methods.length≤16:=by omega
 have a3:1≤p.nodes.length:=by omega
 have a4:p.nodes.length≤120:=by omega
 have hg:Cf p=p.CM.all fun g=>decide (1≤g)&&decide (g≤3):=by
  simp only[Cf,a1,a2,a3,a4,decide_true,Ev];simp[*]
 refine CZ p.CM.length (fun k (_:Unit)=>[(4,eI (BH k))]) (fun _ _=>[]) (fun k _=>Cf p=(p.CM.drop k).all fun g=>decide (1≤g)&&decide (g≤3)) () rfl (by simpa using hg) hs ?_;clear hs;rintro k - σ hk hn hs
 conv=>whnf
 repeat'((first|apply st|(apply sq;intro K U)|(apply si;intro A B Y Z)|(apply Y;clear Z B Y A)|(apply U;clear U K)|refine⟨rfl,?_⟩|refine ix ?_|(refine fc (fun x hx hlt hc=>?_) (fun hk hc=>?_)<;>(try rw[hc])<;>clear hc)|(constructor<;>intro hc<;>(try rw[hc])<;>(replace hc:=bp hc))|clear U K)<;>conv=>whnf)
 ·exact NI (by rw[hn,drop_cons hx];simp;intros;omega)
 ·exact⟨hlt,(),rfl,by rw[hn,drop_cons hx];simp[*],hs⟩
 ·exact NI (by rw[hn,drop_cons hx];simp;intros;omega)
 have hh:Cf p=true:=by rw[hn,Ap hk];rfl
 have F:=KC hf.1;have hcB:A2 p=true:=by assumption
 have hsb:Cj 0 p.AL=true:=by simp only[A2,BV]at hcB;exact hcB.2.1
 have hc10:p.AL.length≤1000:=by simp only[A2,BV,CL]at hcB;omega
 have hmS:Bl p.AL≤Ac:=by have:=(E8 _ _ hsb).1;simp only[A2,BV,CL]at hcB;omega
 have hL:=WI hh;clear hn hg;refine CZ p.nodes.length (fun j v=>[(5,v),(6,eI (BH j))]) (fun j v=>[.own v 1 (iL (List.replicate j (-1)))]) (fun j v=>1≤j→(Cb v).isSome=true) (.l [] true) rfl (fun h=>by omega) (Fl hs 1) ?_;clear hs;rintro j v σ hj hv hs
 conv=>whnf
 repeat'((first|apply st|(apply sq;intro K U)|(apply si;intro A B Y Z)|(apply Y;clear Z B Y A)|(apply U;clear U K)|refine⟨rfl,?_⟩|refine⟨kZ,?_⟩|refine sn fun σ hs=>?_|refine aq fun v σ hs hsl=>?_|(refine fc (fun x hx hlt hc=>?_) (fun hk hc=>?_)<;>(try rw[hc])<;>clear hc)|refine Pure.use (Qt _ (by assumption) (by omega) (by assumption)) ?_|(intro nn hnn;generalize hg:A7 _ nn _=σ;refine al hg fun hs=>?_;clear hg)|clear U K)<;>conv=>whnf)
 ·exact⟨hlt,_,rfl,fun _=>hsl,by rw[List.replicate_succ'];exact hs⟩
 have hsv:=hv (by omega);subst hk;refine CZ p.methods.length (fun k (s:List Int)=>[(8,eI (BH k))]) (fun _ s=>[.own v 1 (iL s),.box nn (BE (AR p))]) (fun k s=>s.length=p.nodes.length∧BA p=JE p (runM p (p.methods.drop k) s)) (List.replicate p.nodes.length (-1)) rfl ⟨by simp,hL⟩ hs ?_;clear hs;rintro k s σ hk ⟨hl,hn⟩ hs
 conv=>whnf
 repeat'((first|apply st|(apply sq;intro K U)|(apply si;intro A B Y Z)|(apply Y;clear Z B Y A)|(apply U;clear U K)|apply dr|refine rk ?_ ?_|exact fun s e=>by cases e;rfl|refine⟨rfl,?_⟩|refine⟨kZ,?_⟩|refine ix ?_|refine iq fun x hx=>?_|refine ld ?_|refine sn fun σ hs=>?_|(refine fc (fun x hx hlt hc=>?_) (fun hk hc=>?_)<;>(try rw[hc])<;>clear hc)|refine Pure.use (bb _ _) ?_|(constructor<;>intro hc<;>(try rw[hc])<;>(replace hc:=bp hc)<;>(try simp(disch:=omega) only[BR,wrap64,AM]at hc))|(intro nn hnn;generalize hg:A7 _ nn _=σ;refine al hg fun hs=>?_;clear hg)|clear U K)<;>conv=>whnf)
 rotate_left
 ·exact KE (DU hx hn (by simp[Mu, *]))
 ·exact KE (DU hx hn (by simp[Mu];intros;omega))
 ·exact KE (DU hx hn (by simp[Mu];intros;omega))
 ·exact KE (DU hx hn (by simp[Mu];intros;omega))
 ·exact KE (DU hx hn (by simp[Mu];intros;omega))
 ·refine(ZN p false 12 (IE _) p.main 0 1 s v rfl (by omega) (by omega) hl hsv).use hs ?_
  clear hs;rintro r post σ ⟨s2,hl2,rfl,⟨ho,rfl⟩|⟨ho,rfl⟩⟩ hs
  ·conv=>whnf
   repeat'((first|apply st|(apply sq;intro K U)|(apply si;intro A B Y Z)|(apply Y;clear Z B Y A)|(apply U;clear U K)|(constructor<;>intro hc<;>(try rw[hc])<;>(replace hc:=bp hc)<;>(try simp(disch:=omega) only[BR,wrap64,AM]at hc))|clear U K)<;>conv=>whnf)
   ·cases hc
   have hz:BA p=if s2.all fun n=>decide (0≤n)then some s2 else none:=by rw[hn,Ap hk,runM,JE,ho]
   refine CZ s2.length (fun j (_:Unit)=>[(10,eI (BH j))]) (fun _ _=>[.own v 1 (iL s2),.box nn (BE (AR p))]) (fun j _=>BA p=if(s2.drop j).all fun n=>decide (0≤n)then some s2 else none) () rfl hz hs ?_;clear hs;rintro j - σ hj hz hs
   conv=>whnf
   repeat'((first|apply st|(apply sq;intro K U)|(apply si;intro A B Y Z)|(apply Y;clear Z B Y A)|(apply U;clear U K)|refine⟨rfl,?_⟩|refine oc ?_|refine ol fun x hx=>?_|(refine fc (fun x hx hlt hc=>?_) (fun hk hc=>?_)<;>(try rw[hc])<;>clear hc)|refine lo ?_|(constructor<;>intro hc<;>(try rw[hc])<;>(replace hc:=bp hc))|clear U K)<;>conv=>whnf)
   ·exact KE (by rw[hz,drop_cons hx,Rs,if_neg];simp;intros;omega)
   ·exact⟨hlt,(),rfl,by rw[hz,drop_cons hx,Rs];simp[*],hs⟩
   ·have hz2:BA p=some s2:=by rw[hz,Ap (by assumption)];rfl
    simp only[Lz,hz2];exact Bu (.t (.cons (hs.QU 0 rfl) (.cons (.refl _) .nil)))
  ·conv=>whnf
   repeat'((first|apply st|(apply sq;intro K U)|(apply si;intro A B Y Z)|(apply Y;clear Z B Y A)|(apply U;clear U K)|(constructor<;>intro hc<;>(try rw[hc])<;>(replace hc:=bp hc)<;>(try simp(disch:=omega) only[BR,wrap64,AM]at hc))|clear U K)<;>conv=>whnf)
   ·exact KE (by rw[hn,Ap hk,runM,JE,ho])
   ·cases hc
 rename MY=>m
 rename p.methods[k]? =some m=>hm
 refine(aY m.fact (ON _ (by(have:CW (AR p) m.fact=true:=by assumption);simp only[CW,BV]at this;exact this.2.2))).use ?_
 conv=>whnf
 repeat'((first|apply st|(apply sq;intro K U)|(apply si;intro A B Y Z)|(apply Y;clear Z B Y A)|(apply U;clear U K)|apply dr|refine rk ?_ ?_|exact fun s e=>by cases e;rfl|refine⟨rfl,?_⟩|refine⟨kZ,?_⟩|refine iq fun x hx=>?_|refine ld ?_|refine Pure.use (jB _) ?_|(constructor<;>intro hc<;>(try rw[hc])<;>(replace hc:=bp hc))|clear U K)<;>conv=>whnf)
 ·exact KE (DU hm hn (by simp[Mu,DS,hx];intros;omega))
 obtain⟨hx1,hx3⟩:=Pw hh hx;have hgd:p.CM.getD m.gen.toNat 0=x:=by rw[DS,hx];rfl
 rename p.CM[m.gen.toNat]? =some _=>hx2
 have hxe:=Option.some.inj (hx.symm.trans hx2);subst hxe;have hok:Mu p m=true:=by simp only[Mu,hgd,BV,CL];exact⟨by assumption,by omega,by assumption,by assumption,by assumption,by assumption⟩
 refine(ZN p (JD m.kind) 12 (IE _) m.node x 1 s v rfl (by omega) (by omega) hl hsv).use (rest:=[_,_]) hs ?_;clear hs;rintro r post σ ⟨s2,hl2,rfl,⟨ho,rfl⟩|⟨ho,rfl⟩⟩ hs
 ·conv=>whnf
  repeat'((first|apply st|(apply sq;intro K U)|(apply si;intro A B Y Z)|(apply Y;clear Z B Y A)|(apply U;clear U K)|apply dr|refine⟨rfl,?_⟩|(constructor<;>intro hc<;>(try rw[hc])<;>(replace hc:=bp hc)<;>(try simp(disch:=omega) only[BR,wrap64,AM]at hc))|clear U K)<;>conv=>whnf)
  ·cases hc
  ·exact⟨by assumption,s2,rfl,⟨by omega,V1 hm hn hok (by rw[hgd];exact ho)⟩,hs.less (.cons₂ _ (.cons₂ _ (Lr _)))⟩
 ·conv=>whnf
  repeat'((first|apply st|(apply sq;intro K U)|(apply si;intro A B Y Z)|(apply Y;clear Z B Y A)|(apply U;clear U K)|apply dr|refine⟨rfl,?_⟩|(constructor<;>intro hc<;>(try rw[hc])<;>(replace hc:=bp hc)<;>(try simp(disch:=omega) only[BR,wrap64,AM]at hc))|clear U K)<;>conv=>whnf)
  ·exact KE (Pd hm hn hok (by rw[hgd];exact ho))
  ·cases hc
def ZV (p:Prog):Pure Tryz.prog 27 [.a (BN p)] (.b (BA p).isSome):=by
 refine pX kZ ?_;have h:=jK p;unfold Lz at h;cases hl:BA p with
 | none=>
   rw[hl]at h
   conv=>whnf
   repeat'((first|apply st|(apply sq;intro K U)|(apply si;intro A B Y Z)|(apply Y;clear Z B Y A)|(apply U;clear U K)|refine⟨kZ,?_⟩|refine Pure.use (by assumption) ?_|fail)<;>conv=>whnf)
   all_goals exact AI (by first|rfl|simp)
 | some s=>
   rw[hl]at h
   conv=>whnf
   repeat'((first|apply st|(apply sq;intro K U)|(apply si;intro A B Y Z)|(apply Y;clear Z B Y A)|(apply U;clear U K)|refine⟨kZ,?_⟩|refine Pure.use (by assumption) ?_|fail)<;>conv=>whnf)
   all_goals exact AI (by first|rfl|simp)
def Uj (xs ys:List Int) (f g:Bool):Pure Tryz.prog 30 [.l (iL xs) f,.l (iL ys) g] (.b (xs==ys)):=by
 refine Pure.fit (by kernel_rfl) fun hf=>?_
 have hx:=L4 hf.1;have hy:=L4 hf.2.1;have hM:=Mx;refine pW kZ ?_;have hs:=Sn
 conv=>whnf
 repeat'((first|apply st|(apply sq;intro K U)|(apply si;intro A B Y Z)|(apply Y;clear Z B Y A)|(apply U;clear U K)|refine⟨rfl,?_⟩|(constructor<;>intro hc<;>(try rw[hc])<;>(replace hc:=bp hc)<;>(try simp(disch:=omega) only[BR,wrap64,AM]at hc))|clear U K)<;>conv=>whnf)
 ·exact AI (by(have:(xs==ys)=false:=by(simp;intro e;subst e;simp at hc));rw[this])
 have hl:xs.length=ys.length:=by omega
 refine CZ xs.length (fun k (_:Unit)=>[(13,eI (BH k))]) (fun _ _=>[]) (fun k _=>(xs==ys)=(xs.drop k==ys.drop k)) () rfl rfl Sat.nil ?_;clear hs;rintro k - σ hk hn hs;by_cases hlt:k<xs.length
 ·obtain⟨y,hyk⟩: ∃y,ys[k]? =some y:=⟨_,DZ (by omega)⟩
  conv=>whnf
  repeat'((first|apply st|(apply sq;intro K U)|(apply si;intro A B Y Z)|(apply Y;clear Z B Y A)|(apply U;clear U K)|apply dr|refine⟨rfl,?_⟩|refine ix ?_|(refine fc (fun x hx hlt hc=>?_) (fun hk hc=>?_)<;>(try rw[hc])<;>clear hc)|(constructor<;>intro hc<;>(try rw[hc])<;>(replace hc:=bp hc))|clear U K)<;>conv=>whnf)
  ·exact AI (by rw[hn,drop_cons hx,drop_cons hyk];simp[hc])
  ·exact⟨hlt,(),rfl,by rw[hn,drop_cons hx,drop_cons hyk,hc];simp,hs⟩
  ·omega
 ·conv=>whnf
  repeat'((first|apply st|(apply sq;intro K U)|(apply si;intro A B Y Z)|(apply Y;clear Z B Y A)|(apply U;clear U K)|apply dr|refine⟨rfl,?_⟩|refine ix ?_|refine iq fun x hx=>?_|(refine fc (fun x hx hlt hc=>?_) (fun hk hc=>?_)<;>(try rw[hc])<;>clear hc)|(constructor<;>intro hc<;>(try rw[hc])<;>(replace hc:=bp hc)<;>try(exfalso;omega))|clear U K)<;>conv=>whnf)
  exact AI (by rw[hn,Ap hk,Ap (by omega)];rfl)
def UE:List (Fact→Bool)→List Fact→Bool
 | h::r,k::s=>h k&&UE r s
 | _,_=>true
def ff (f:Fact) (l:List (Fact→Bool)) (g:Fact):Bool:=f.op==g.op&&(f.arg==g.arg&&(f.cls==g.cls&&(f.n==g.n&&(f.path==g.path&&(f.kids.length==g.kids.length&&UE l g.kids)))))
def Gy (f:Fact):Fact→Bool:=f.Gw ff
def Sk (f g:Fact):Gy f g=(f.op==g.op&&(f.arg==g.arg&&(f.cls==g.cls&&(f.n==g.n&&(f.path==g.path&&(f.kids.length==g.kids.length&&UE (f.kids.map Gy) g.kids)))))):=congrFun (Fact.Df ff f) g
def TH {xs ys:List Fact} (h: ∀x∈xs,∀y,Gy x y=true↔x=y) (hl:xs.length=ys.length):UE (xs.map Gy) ys=true↔xs=ys:=by
 induction xs generalizing ys with
 | nil=>cases ys with
   | nil=>simp[UE]
   | cons _ _=>simp at hl
 | cons x r ih=>cases ys with
   | nil=>simp at hl
   | cons y s=>
     simp only[EA,UE,BV,List.cons.injEq];rw[h x (.head _) y,ih (fun x hx=>h x (.tail _ hx)) (by simpa using hl)]
def Lc (f g:Fact):Gy f g=true↔f=g:=by
 induction f using Fact.ind generalizing g with
 | h f ih=>
   rw[Sk];cases f with
   | mk o a p c n k=>cases g with
     | mk o' a' p' c' n' k'=>
       simp only[Fact.op,Fact.arg,Fact.cls,Fact.n,Fact.path,Fact.kids,BV,Du,Fact.mk.injEq]at *;constructor
       ·rintro⟨rfl,rfl,rfl,rfl,rfl,hl,h⟩
        exact⟨rfl,rfl,rfl,rfl,rfl,(TH (fun x hx y=>ih x hx y) hl).1 h⟩
       ·rintro⟨rfl,rfl,rfl,rfl,rfl,rfl⟩
        exact⟨rfl,rfl,rfl,rfl,rfl,rfl,(TH (fun x hx y=>ih x hx y) rfl).2 rfl⟩
def F2 (f:Fact):Fact:= .mk 5 0 [] 0 0 [f]
def O6 (f g:Fact):Fact:= .mk 6 0 [] 0 0 [f,g]
def fu (l:Fact):Prop:=l.op=5→l.kids≠[]
def A8 (l:Fact):Fact×Bool:=if l.op=5 then(l.kids.headD default,true)else(l,false)
def B4 (path pre:List Int):Bool:=decide (pre.length≤path.length)&&path.take pre.length==pre
def Lv (a:Int) (p:List Int) (l:Fact):Bool:=(A8 l).1.arg==a&&(A8 l).1.path==p
def FO (ls:List Fact) (a:Int) (p:List Int):Bool:=ls.all fun l=>(A8 l).2|| !((A8 l).1.arg==a&&B4 (A8 l).1.path p)
def Bj (n:Nat):List Int:=(List.range n).map Int.ofNat
def Gd (n:Nat):Bj (n+1)=Bj n++[(n:Int)]:=by simp[Bj,List.range_succ]
def He (n:Nat):(Bj n).length=n:=by simp[Bj]
def fY (a:Int) (p:List Int) (s:Int) (l:Fact):Bool:=(A8 l).1.arg==a&&B4 (A8 l).1.path (p++[s])
def Dl (n:Nat) (ls:List Fact) (a:Int) (p:List Int):List Int:=(Bj n).filter fun s=>ls.any (fY a p s)
def JJ (n:Nat) (ls:List Fact) (a:Int) (p:List Int):Bool:=(Dl n ls a p).all fun s=>FO ls a (p++[s])
def UJ (ls:List Fact):Prop:= ∀l∈ls,-1000000000≤(A8 l).1.n∧(A8 l).1.n≤1000000000
def SE (x:Fact×Bool) (t:Int×Int×List Int):Option (Int×Int×List Int):=
 if x.1.op=2 then if decide (x.1.cls > 1) != x.2 then none else some t
 else if x.1.op=3 then(if x.2 then some (if x.1.n > t.1 then x.1.n else t.1,t.2.1,t.2.2)else some (t.1,if x.1.n - 1<t.2.1 then x.1.n - 1 else t.2.1,t.2.2))
 else if x.2 then some (t.1,t.2.1,t.2.2++[x.1.n])else some (if x.1.n > t.1 then x.1.n else t.1,if x.1.n<t.2.1 then x.1.n else t.2.1,t.2.2)
def foldI:List Fact→Int×Int×List Int→Option (Int×Int×List Int)
 | [],t=>some t
 | x::r,t=>(SE (A8 x) t).bind (foldI r)
def Yy (no:List Int):Nat→Int→Option Int
 | 0,_=>none
 | k+1,n=>if no.all (· != n)then some n else Yy no k (n+1)
def SF (t:Int×Int×List Int):Option Int:=Yy t.2.2 (t.2.1+1 - t.1).toNat t.1
def t0:Int×Int×List Int:=(-1000000000,1000000000,[])
def R4 (ls:List Fact) (a:Int) (p:List Int):Option Int:=(foldI (ls.filter (Lv a p)) t0).bind SF
def PG (x:Fact×Bool):Bool:=((x.1.op==2&&(x.1.cls==0||x.1.cls==2))==x.2)
def NA (n:Nat) (ls:List Fact) (a:Int) (p:List Int):Bool:=(ls.filter (Lv a p)).all (fun l=> !PG (A8 l))&&JJ n ls a p
abbrev BB:=List Bool×List Bool
def Lw (x:Fact×Bool) (t:BB):Option BB:=
 if x.1.op≠2∨x.1.cls=1∨x.1.cls=2 then(if x.2 then some t else none)else
 if x.2 then some (t.1,t.2.set x.1.cls.toNat true)else some (t.1.set x.1.cls.toNat true,t.2)
def JH:List Fact→BB→Option BB
 | [],t=>some t
 | x::r,t=>(Lw (A8 x) t).bind (JH r)
def SD (w:AK) (ls:List Fact) (a:Int) (p:List Int) (can:Int→Bool) (s:Int) (t:BB):Option BB:=
 if !FO ls a (p++[s])&& !can s then none else some (if FO ls a (p++[s])then t.1 else t.1.set (CA w s).toNat true,if can s then t.2 else t.2.set (CA w s).toNat true)
def JG (w:AK) (ls:List Fact) (a:Int) (p:List Int) (can:Int→Bool):List Int→BB→Option BB
 | [],t=>some t
 | s::r,t=>(SD w ls a p can s t).bind (JG w ls a p can r)
def I0 (ps:List (List Int)) (c:Nat) (bs:List Bool):List Bool:=if bs.getD c false then(par ps c).foldl (fun b q=>b.set q.toNat true) bs else bs
def Cp (ps:List (List Int)) (n:Nat):Nat→List Bool→List Bool
 | 0,bs=>bs
 | k+1,bs=>I0 ps (n - 1 - k) (Cp ps n k bs)
def JN: ∀(l:List Int) (bs:List Bool),(l.foldl (fun b q=>b.set q.toNat true) bs).length=bs.length
 | [],_=>rfl
 | q::r,bs=>by rw[List.foldl_cons,JN r,List.length_set]
def FD (ps:List (List Int)) (n:Nat): ∀(k:Nat) (bs:List Bool),(Cp ps n k bs).length=bs.length
 | 0,_=>rfl
 | k+1,bs=>by
   rw[Cp,I0];split
   ·rw[JN,FD ps n k bs]
   ·exact FD ps n k bs
def Y6 (w:AK) (t:BB):Option (List Bool):=
 if t.2.getD 0 false then none else
 if(List.range (3+w.parents.length)).any (fun c=>(Cp w.parents (3+w.parents.length) w.parents.length (t.1.set 0 false)).getD c false&&t.2.getD c false)then none else some (Cp w.parents (3+w.parents.length) w.parents.length (t.1.set 0 false))
def tO (w:AK):BB:=(List.replicate (3+w.parents.length) false,List.replicate (3+w.parents.length) false)
def R0 (w:AK) (ls:List Fact) (a:Int) (p:List Int) (can:Int→Bool):Option (List Bool):=
 ((JH (ls.filter (Lv a p)) (tO w)).bind (JG w ls a p can (Dl w.owner.length ls a p))).bind (Y6 w)
def Lb {n:Nat} {ls:List Fact} {a:Int} {p:List Int} {s:Int} (h:s∈Dl n ls a p):0≤s∧s<n:=by
 have:=(K9.1 h).1;simp only[Bj,Ls,List.mem_range]at this;obtain⟨m,hm,rfl⟩:=this;exact⟨Int.natCast_nonneg m,by simpa using hm⟩
def po (w:AK) (ls:List Fact):Prop:= ∀l∈ls,(A8 l).1.op=2→0≤(A8 l).1.cls∧(A8 l).1.cls<3+w.parents.length
def Qe (w:AK) (ls:List Fact) (a:Int):Nat→List Int→Bool
 | 0,p=>((R4 ls a p).isSome&&JJ w.owner.length ls a p)||(NA w.owner.length ls a p||(R0 w ls a p fun _=>false).isSome)
 | d+1,p=>((R4 ls a p).isSome&&JJ w.owner.length ls a p)||(NA w.owner.length ls a p||(R0 w ls a p fun s=>Qe w ls a d (p++[s])).isSome)
def ZT (ls:List Fact) (n:Nat):Prop:= ∀l∈ls,(A8 l).1.path.length≤n
def PY {n m:Nat} {ls:List Fact} {a:Int} {p:List Int} (h:ZT ls m) (hp:m≤p.length):Dl n ls a p= []:=by
 rw[Dl,List.filter_eq_nil_iff];intro s _ hs;rw[JA]at hs;obtain⟨l,hl,hg⟩:=hs;have:=h l hl;simp only[fY,B4,BV,CL,QP,List.length_singleton]at hg;omega
def I5 (w:AK) (ls:List Fact):Bool:=(Bj 3).all fun a=>Qe w ls a 2 []
def Wb {b:Nat} {σ:AH} {l:List At} (h:Sat σ l) (i j:Nat) {v u:V} {sz:Nat} {es ys:List (List V)} {K:V→AH→Prop} (hi:l[i]? =some (.own v sz es)) (hj:l[j]? =some (.own u sz ys)) (hl:es.length+ys.length≤Ac∧(es.length+ys.length)*b≤140737488355328) (hys: ∀e∈ys,e.length=sz) (ho: ∀e∈ys,∀v∈e,Di v=true)
    (hk: ∀v' σ',Sat σ' (l.set i (.own v' sz (es++ys)))→K v' σ'):AO b σ sz v u K:=by
 have Y:AO b σ sz v (.l ys true) K:=hAppend h i hi hl hys ho hk;rcases h.get hj with⟨rfl,hel⟩|⟨n,cap,rfl,hn⟩
 ·exact Y
 ·unfold AO at Y ⊢
  simp only[rowsOf]at Y ⊢;rw[hn];refine⟨rfl,IE _,?_⟩;rw[List.take_length];exact Y.2
def Cr (a:List Fact):List Fact→List Fact
 | []=>a
 | x::r=>Cr (if a.any (Gy x)then a else a++[x]) r
def U5 (a:List Fact): ∀(b:List Fact) (x:Fact),Cr a (b++[x])=if(Cr a b).any (Gy x)then Cr a b else Cr a b++[x]:=by
 intro b
 induction b generalizing a with
 | nil=>intro x;rfl
 | cons y r ih=>intro x;simp only[List.cons_append,Cr];exact ih _ x
def Pt (a:List Fact): ∀(b:List Fact),(Cr a b).length≤a.length+b.length:=by
 intro b
 induction b generalizing a with
 | nil=>simp[Cr]
 | cons y r ih=>
   simp only[Cr,Lt];refine Nat.le_trans (ih _) ?_;split
   ·omega
   ·simp;omega
def Ps (a:List Fact): ∀(b:List Fact) (x:Fact),x∈Cr a b→x∈a∨x∈b:=by
 intro b
 induction b generalizing a with
 | nil=>intro x hx;exact .inl hx
 | cons y r ih=>
   intro x hx;simp only[Cr]at hx;rcases ih _ x hx with h|h
   ·split at h
    ·exact .inl h
    ·rcases FX.1 h with h|h
     ·exact .inl h
     ·rw[K8.1 h];exact .inr (.head _)
   ·exact .inr (.tail _ h)
end Go.Gl
