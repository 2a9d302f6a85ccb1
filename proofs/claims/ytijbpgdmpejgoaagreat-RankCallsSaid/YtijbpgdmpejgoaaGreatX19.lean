import Derived.Test.YtijbpgdmpejgoaaGreatX14
import Derived.Test.YtijbpgdmpejgoaaGreatX15
import Derived.Test.YtijbpgdmpejgoaaGreatX17
import Derived.Test.YtijbpgdmpejgoaaGreatX18
set_option linter.all false
set_option linter.defProp false
noncomputable section
namespace Go.Gl
variable {P:Program} {σ:AH}
def BL.P0 {f:FuncId} {args args':List V} {σ σ2:AH} {Q:R→AH→Prop} (h:BL P f args' σ2 Q) (hsub:Sub σ2 σ) (hf:Dq σ σ2 args args'):BL P f args σ Q:=by
 refine⟨h.1,fun Λ w cs G hv=>?_⟩;exact Calls.mono (h.2 Λ w cs (G.drop hsub) ⟨by rw[hf.length];exact hv.1,hf.rel G hsub (fun _ _ e=>e) hv.2⟩) fun e w' ⟨r,σ',hr,h1,h2,h3⟩=>⟨r,σ',hr,h1,h2,(CM.drop w hsub).trans h3⟩
def Pure.arg {f:FuncId} {args args':List V} {v:V} (h:Pure P f args' v) (hf:Dq emp emp args args'):Pure P f args v:=BL.P0 h (Sub.refl _) hf
def Own.pD {v:V} {sz:Nat} {es es':List (List V)} (h:Own σ v sz es) (G:Fs σ emp es es'):Gt σ emp v (.l es' false):=by
 rcases h with⟨rfl,_⟩|⟨n,cap,rfl,hn⟩
 ·exact .l (fun h=>(by cases h)) G
 ·exact .arr hn rfl rfl G
def OL {α:Type} {e e':α→List V} (h: ∀x,Dq σ emp (e x) (e' x)): ∀xs:List α,Fs σ emp (xs.map e) (xs.map e')
 | []=> .nil
 | x::r=> .cons (h x) (OL h r)
end Go.Gl
namespace Go.Gl
open Go.Proofs
structure RE (w:AK) (os:List Ob):Prop where
 len:os.length≤40
 own: ∀o∈os,(3:Int)≤o.1∧o.1<3+(w.parents.length:Int)
 num: ∀o∈os,o.2.length=(Ca w o.1).length
 val: ∀o∈os,∀v∈o.2,Bz os.length v=true
def We {w:AK} {os:List Ob} (h:Fe w os=true):RE w os:=by
 simp only[Fe,BZ,CY,E0,Lk,RD,Dn]at h;exact⟨h.1,fun o ho=>(h.2 o ho).1,fun o ho=>(h.2 o ho).2.1,fun o ho=>(h.2 o ho).2.2⟩
def U5 {w:AK} {c s:Int}:s∈Ca w c↔(0≤s∧s<(w.owner.length:Int))∧hasB w c s=true:=by
 rw[Ca,JZ,FT]
abbrev XX (os:List Ob) (v:Int×Int):Ob:=os.getD v.2.toNat (0,[])
def MW (w:AK) (os:List Ob) (s:Int) (v:Int×Int):Int×Int:=(XX os v).2.getD ((Ca w (XX os v).1).idxOf s) (0,0)
def UW (w:AK) (os:List Ob):List Int→Int×Int→Option (Int×Int)
 | [],v=>some v
 | s::r,v=>if v.1==3&&hasB w (XX os v).1 s then UW w os r (MW w os s v)else none
def Ku {n:Int} {v:Int×Int} (h:Bz n v=true) (h3:v.1=3):0≤v.2∧v.2<n:=by
 rw[Bz,if_neg (by omega),if_neg (by omega),if_pos h3]at h;simpa using h
def JE {os:List Ob} {v:Int×Int} (hv:Bz os.length v=true) (h3:v.1=3): ∃o,os[v.2.toNat]? =some o∧XX os v=o∧o∈os:=by
 have:=Ku hv h3;have hl:v.2.toNat<os.length:=by omega
 exact⟨os[v.2.toNat],Ct hl,by rw[XX,DK,Ct hl];rfl,List.getElem_mem hl⟩
def N8 {w:AK} {os:List Ob} {s:Int} {v:Int×Int} {o:Ob} (hos:RE w os) (ho:XX os v=o) (hm:o∈os) (hs:0≤s∧s<(w.owner.length:Int)) (hh:hasB w o.1 s=true) :
    ∃i,i<(Ca w o.1).length∧(Ca w o.1).idxOf s=i∧(Ca w o.1)[i]? =some s∧(∀j x,j<i→(Ca w o.1)[j]? =some x→x≠s)∧o.2[i]? =some (MW w os s v)∧Bz os.length (MW w os s v)=true:=by
 have hmem:s∈Ca w o.1:=U5.2 ⟨hs,hh⟩;have hlt:=List.idxOf_lt_length_of_mem hmem;have hn:=hos.num o hm
 have hx:o.2[(Ca w o.1).idxOf s]? =some (MW w os s v):=by
  rw[MW,ho,DK];rw[Ct (by omega)];rfl
 refine⟨_,hlt,rfl,?_,fun j x hj hjx e=>?_,hx,hos.val o hm _ (B1 hx)⟩
 ·rw[Ct hlt,List.getElem_idxOf hlt]
 ·have hjl:=(Hk.1 hjx).1
  have:=List.not_of_lt_findIdx (p:=(· ==s)) (xs:=Ca w o.1) (by simpa[List.idxOf]using hj);rw[Ct hjl]at hjx;have h2:=Option.some.inj hjx;rw[h2,e]at this;simp at this
def Uv {w:AK} {os:List Ob} (hos:RE w os): ∀ {l:List Int} {v u:Int×Int},(∀s∈l,0≤s∧s<(w.owner.length:Int))→Bz os.length v=true→UW w os l v=some u→Bz os.length u=true
 | [],v,u,_,hv,h=>by cases h;exact hv
 | s ::r,v,u,hl,hv,h=>by
   rw[UW]at h;split at h
   ·rename_i hc
    simp only[BZ,Dn]at hc;obtain⟨o,h1,h2,h3⟩:=JE hv hc.1;obtain⟨i,q1,q2,q3,q4,q5,q6⟩:=N8 hos h2 h3 (hl s (.head _)) (h2 ▸ hc.2);exact Uv hos (fun s hs=>hl s (.tail _ hs)) q6 h
   ·cases h
def ZX (w:AK) (os:List Ob) (args:List (Int×Int)) (f:Fact):Bool:=match UW w os f.path (args.getD f.arg.toNat (0,0))with
 | none=>false
 | some v=>if f.op=2 then M5 w.parents (Ij os v) f.cls else v.1==1&&(if f.op=3 then decide (v.2<f.n)else v.2==f.n)
def Sq (w:AK) (os:List Ob) (args:List (Int×Int)) (f:Fact) (l:List Bool):Bool:=
 if f.op=1 then true else if f.op=5 then !l.getD 0 false else if f.op=6 then l.getD 0 false&&l.getD 1 false else if f.op=7 then l.getD 0 false||l.getD 1 false else ZX w os args f
def CF (w:AK) (os:List Ob) (args:List (Int×Int)) (f:Fact):Bool:=f.HF (Sq w os args)
def TX (w:AK) (os:List Ob) (args:List (Int×Int)) (f:Fact):CF w os args f=Sq w os args f (f.kids.map (CF w os args)):=Fact.Dk (Sq w os args) f
end Go.Gl
namespace Go.Gl
open Go.Proofs
attribute [local irreducible] BL A5 Aj AW AN Ai AV AX AO Ah AS AU BA BK Sat Ad BH Al W
abbrev xf (o:Option (Int×Int)):V:= .t [.a (pI (o.getD (0,0))),.b o.isSome]
set_option maxHeartbeats 1000000 in
def uu (w : AK) (os:List Ob) (f:Bool) (v:Int×Int) (l:List Int) (g:Bool) (hw:Ja w) (hos:RE w os) (hv:Bz os.length v=true) (hl: ∀s∈l,0≤s∧s<(w.owner.length:Int)) :
    Pure Tryz.prog 119 [.a (Aq w),.l (os.map Fa) f,.a (pI v),.l (iL l) g] (xf (UW w os l v)):=by
 refine Pure.fit (by kernel_rfl) fun hf=>?_
 have hll:=Iu hf.2.2.2.1;have hM:=Mx;have ho4:=hos.len;have hol:=hw.ZI;refine nY kZ ?_;have hs:=Sn
 conv=>whnf
 repeat'((first|apply st|(apply sq;intro K U)|(apply si;intro A B Y Z)|(apply Y;clear Z B Y A)|(apply U;clear U K)|(intro nn hnn;generalize hg:A6 _ nn _=σ;refine CW hg fun hs=>?_;clear hg)|fail)<;>conv=>whnf)
 rename_i nV _ _ _;refine B4 l.length (fun k (_:Int×Int)=>[(17,eI (A3 k))]) (fun _ v=>[.box nn [eI 0,eI 0],.box nV (pI v)]) (fun k u=>Bz os.length u=true∧UW w os l v=UW w os (l.drop k) u) v rfl ⟨hv,rfl⟩ hs ?_;clear hs;rintro k ⟨vk,vn⟩ σ hk ⟨hu,hn⟩ hs;rcases BE l hk with⟨s,hsl,hlt⟩|hke
 ·have hsr:=hl s (B1 hsl)
  rw[drop_cons hsl,UW]at hn;by_cases h3:vk=3
  ·obtain ⟨o,ho1,ho2,ho3⟩:=JE hu h3
   have hoo:=hos.own o ho3;have hnr:=Ku hu h3;dsimp only at ho1 ho2 hnr;have c1:=Un w o.1 s hw (by omega) (by omega) hsr.1 hsr.2;rw[ho2,show((vk,vn).1==3)=true by simp[h3],Ey]at hn;cases hh:hasB w o.1 s<;>rw[hh]at c1 hn
   ·rw[if_neg (by decide)]at hn
    conv=>whnf
    repeat'((first|apply st|(apply sq;intro K U)|(apply si;intro A B Y Z)|(apply Y;clear Z B Y A)|(apply U;clear U K)|apply dr|refine⟨rfl,?_⟩|refine⟨kZ,?_⟩|refine ix ?_|refine FE ?_|refine ld ?_|refine DB fun σ hs=>?_|refine E2 ?_|(refine CA (fun hc=>?_)<;>(try rw[hc])<;>clear hc)|refine c1.use ?_|(constructor<;>intro hc<;>(try rw[hc])<;>(replace hc:=bp hc)<;>(try simp(disch:=omega) only[BD,wrap64,AL]at hc)<;>try(exfalso;omega))|clear U K)<;>conv=>whnf)
    all_goals exact AI (by rw[hn];rfl)
   ·rw [if_pos rfl]at hn
    obtain⟨i,q1,q2,q3,q4,q5,q6⟩:=N8 hos ho2 ho3 hsr hh;have c2:=WQ w o.1 hw (by omega) (by omega);have hon:=hos.num o ho3
    have hsl2:(Ca w o.1).length≤40:=by
     have:=KN (hasB w o.1) (Bg w.owner.length);rw[DQ]at this;simp only[Ca];omega
    have ho2M:o.2.length≤Ac:=by omega
    clear hon;generalize MW w os s (vk,vn)=u2 at *;generalize Ca w o.1=ss at *
    conv=>whnf
    repeat'((first|apply st|(apply sq;intro K U)|(apply si;intro A B Y Z)|(apply Y;clear Z B Y A)|(apply U;clear U K)|apply dr|refine⟨rfl,?_⟩|refine⟨kZ,?_⟩|refine ix ?_|refine FE ?_|refine ld ?_|refine D2 ?_|(refine CA (fun hc=>?_)<;>(try rw[hc])<;>clear hc)|refine c1.use ?_|refine c2.use ?_|(constructor<;>intro hc<;>(try rw[hc])<;>(replace hc:=bp hc)<;>(try simp(disch:=omega) only[BD,wrap64,AL]at hc)<;>try(exfalso;omega))|fail)<;>conv=>whnf)
    refine B4 ss.length (fun j (_:Unit)=>[(47,eI (A3 j))]) (fun _ _=>[.box nn [eI 0,eI 0],.box nV (pI (vk,vn))]) (fun j _=>j≤i) () rfl (Nat.zero_le _) hs ?_;clear hs;rintro j - σ hj hji hs;rcases BE ss hj with⟨x,hx,hjlt⟩|hje
    ·by_cases hxs:x=s
     ·obtain rfl:j=i:=by
       rcases Nat.lt_or_ge j i with h|h
       ·exact absurd hxs (q4 j x h hx)
       ·omega
      clear q3
      conv=>whnf
      repeat'((first|apply st|(apply sq;intro K U)|(apply si;intro A B Y Z)|(apply Y;clear Z B Y A)|(apply U;clear U K)|refine⟨rfl,?_⟩|refine⟨kZ,?_⟩|refine ix ?_|refine FE ?_|refine ld ?_|refine DB fun σ hs=>?_|(refine CA (fun hc=>?_)<;>(try rw[hc])<;>clear hc)|(constructor<;>intro hc<;>(try rw[hc])<;>(replace hc:=bp hc)<;>try(exfalso;omega))|clear U K)<;>conv=>whnf)
      exact⟨hlt,u2,rfl,⟨q6,hn⟩,hs⟩
     ·have:j≠i:=fun e=>by subst e;rw[hx]at q3;exact hxs (Option.some.inj q3)
      conv=>whnf
      repeat'((first|apply st|(apply sq;intro K U)|(apply si;intro A B Y Z)|(apply Y;clear Z B Y A)|(apply U;clear U K)|refine⟨rfl,?_⟩|refine ix ?_|(refine CA (fun hc=>?_)<;>(try rw[hc])<;>clear hc)|(constructor<;>intro hc<;>(try rw[hc])<;>(replace hc:=bp hc)<;>try(exfalso;omega))|clear U K)<;>conv=>whnf)
      exact⟨hjlt,(),rfl,by omega,hs⟩
    ·exfalso
     omega
  ·rw[show((vk,vn).1==3)=false by simp[h3],Bool.false_and,if_neg (by decide)]at hn
   conv=>whnf
   repeat'((first|apply st|(apply sq;intro K U)|(apply si;intro A B Y Z)|(apply Y;clear Z B Y A)|(apply U;clear U K)|apply dr|refine⟨rfl,?_⟩|refine⟨kZ,?_⟩|refine ix ?_|refine ld ?_|refine DB fun σ hs=>?_|(refine CA (fun hc=>?_)<;>(try rw[hc])<;>clear hc)|(constructor<;>intro hc<;>(try rw[hc])<;>(replace hc:=bp hc)<;>(try simp(disch:=omega) only[BD,wrap64,AL]at hc)<;>try(exfalso;omega))|clear U K)<;>conv=>whnf)
   all_goals exact AI (by rw[hn];rfl)
 ·rw[Ag hke,UW]at hn
  conv=>whnf
  repeat'((first|apply st|(apply sq;intro K U)|(apply si;intro A B Y Z)|(apply Y;clear Z B Y A)|(apply U;clear U K)|refine⟨rfl,?_⟩|refine⟨kZ,?_⟩|refine ld ?_|refine DB fun σ hs=>?_|(refine DU (fun hc=>?_)<;>(try rw[hc])<;>clear hc)|clear U K)<;>conv=>whnf)
  all_goals exact AI (by rw[hn];rfl)
def pB {α:Type} {l:List α} (h:l.length=2): ∃a b,l= [a,b]:=by
 match l,h with
 | [a,b],_=>exact⟨a,b,rfl⟩
def Ou {w:AK} {f:Fact} (h:Bi w f=true) :
    f.op=1∨(f.op=5∧ ∃a,f.kids= [a]∧Bi w a=true)∨(f.op=6∧ ∃a b,f.kids= [a,b]∧Bi w a=true∧Bi w b=true)∨(f.op=7∧ ∃a b,f.kids= [a,b]∧Bi w a=true∧Bi w b=true)∨
     ((f.op=2∨f.op=3∨f.op=4)∧Br f=true∧(∀s∈f.path,0≤s∧s<(w.owner.length:Int))∧(f.op=2→0≤f.cls∧f.cls<3+(w.parents.length:Int))∧0≤f.arg):=by
 rw[Ci]at h;simp only[DC,BZ,E0,Dn,CY]at h;obtain⟨⟨ho,hk,ha0,ha3,hp,-⟩,hks⟩:=h;simp only[E3,BZ,E0,HH,CY]at hp;by_cases h2:f.op=2
 ·rw[SV,if_pos h2]at ho
  simp only[Nd,BZ,CY]at ho;exact .inr (.inr (.inr (.inr ⟨.inl h2,by simp[Br,h2],hp.1,fun _=>ho.2,ha0⟩)))
 by_cases h34:f.op=3∨f.op=4
 ·exact .inr (.inr (.inr (.inr ⟨.inr h34,by rcases h34 with h|h<;>simp[Br,h],hp.1,fun h=>absurd h h2,ha0⟩)))
 rw[SV,if_neg h2,if_neg h34]at ho;simp only[Fz,Dn]at ho;rcases ho with((h1|h5)|h6)|h7
 ·exact .inl h1
 ·rw[CH,if_pos h5]at hk
  obtain⟨a,ha⟩:=List.length_eq_one_iff.1 hk;exact .inr (.inl ⟨h5,a,ha,hks a (by rw[ha];exact .head _)⟩)
 ·rw[CH,if_neg (by omega),if_pos (.inl h6)]at hk
  obtain⟨a,b,ha⟩:=pB hk;exact .inr (.inr (.inl ⟨h6,a,b,ha,hks a (by rw[ha];exact .head _),hks b (by rw[ha];exact .tail _ (.head _))⟩))
 ·rw[CH,if_neg (by omega),if_pos (.inr h7)]at hk
  obtain⟨a,b,ha⟩:=pB hk;exact .inr (.inr (.inr (.inl ⟨h7,a,b,ha,hks a (by rw[ha];exact .head _),hks b (by rw[ha];exact .tail _ (.head _))⟩)))
def JB: ∀(l:List Int) (a:Int) {x:Int},x∈l→x≤l.foldl HC a
 | y ::r,a,x,h=>by
   rcases GB.1 h with rfl|h
   ·refine Int.le_trans ?_ (FY r _)
    unfold HC;split<;>omega
   ·exact JB r _ h
def DZ {f a:Fact} (h:a∈f.kids):DF a≤DF f:=by
 rw[D8 f];exact JB _ _ (List.mem_map_of_mem h)
def Og {f:Fact} (h:Br f=true):f.arg+1≤DF f:=by
 rw[D8 f,if_pos h];exact FY _ _
set_option maxHeartbeats 1000000 in
def fy (w : AK) (os:List Ob) (b:Bool) (args:List (Int×Int)) (g:Bool) (hw:Ja w) (hos:RE w os) (hv: ∀v∈args,Bz os.length v=true) (f:Fact):Bi w f=true→DF f≤args.length→
    Pure Tryz.prog 88 [.a (Aq w),.a (xF f),.l (os.map Fa) b,.l (pP args) g] (.b (CF w os args f)):=by
 induction f using Fact.ind with
 | h f ih=>
   intro hn hsp;refine Pure.fit (by kernel_rfl) fun hf=>?_
   have⟨h2,h3,h4⟩:=HO hf.2.1;have hM:=Mx;rw[TX,Sq];rcases Ou hn with h1|⟨h5,x,hk,hx⟩|⟨h6,x,y,hk,hx,hy⟩|⟨h7,x,y,hk,hx,hy⟩|⟨hop,hlf,hp,hcl,ha0⟩
   ·refine Md kZ ?_
    have hs:=Sn
    conv=>whnf
    repeat'((first|apply st|(apply sq;intro K U)|(apply si;intro A B Y Z)|(apply Y;clear Z B Y A)|(apply U;clear U K)|refine⟨rfl,?_⟩|(constructor<;>intro hc<;>(try rw[hc])<;>(replace hc:=bp hc)<;>try(exfalso;omega))|clear U K)<;>conv=>whnf)
    all_goals exact AI (by rw[if_pos h1])
   ·have c1:=ih x (by rw[hk];exact .head _) hx (Int.le_trans (DZ (by rw[hk];exact .head _)) hsp)
    have e:(f.kids.map (CF w os args)).getD 0 false=CF w os args x:=by rw[hk];rfl
    have hk0:f.kids[0]? =some x:=by rw[hk];rfl
    rw[if_neg (by omega),if_pos h5,e];clear e hk;refine Md kZ ?_;have hs:=Sn
    conv=>whnf
    repeat'((first|apply st|(apply sq;intro K U)|(apply si;intro A B Y Z)|(apply Y;clear Z B Y A)|(apply U;clear U K)|apply dr|refine⟨rfl,?_⟩|refine⟨kZ,?_⟩|refine Lg ?_|refine c1.use ?_|(constructor<;>intro hc<;>(try rw[hc])<;>(replace hc:=bp hc)<;>try(exfalso;omega))|clear U K)<;>conv=>whnf)
    all_goals exact AI rfl
   ·have c1:=ih x (by rw[hk];exact .head _) hx (Int.le_trans (DZ (by rw[hk];exact .head _)) hsp)
    have c2:=ih y (by rw[hk];exact .tail _ (.head _)) hy (Int.le_trans (DZ (by rw[hk];exact .tail _ (.head _))) hsp);have e:(f.kids.map (CF w os args)).getD 0 false=CF w os args x:=by rw[hk];rfl
    have e2:(f.kids.map (CF w os args)).getD 1 false=CF w os args y:=by rw[hk];rfl
    have hk0:f.kids[0]? =some x:=by rw[hk];rfl
    have hk1:f.kids[1]? =some y:=by rw[hk];rfl
    rw[if_neg (by omega),if_neg (by omega),if_pos h6,e,e2];clear e e2 hk;cases hb:CF w os args x<;>rw[hb]at c1
    all_goals
     refine Md kZ ?_;have hs:=Sn
     conv=>whnf
     repeat'((first|apply st|(apply sq;intro K U)|(apply si;intro A B Y Z)|(apply Y;clear Z B Y A)|(apply U;clear U K)|apply dr|refine⟨rfl,?_⟩|refine⟨kZ,?_⟩|refine Lg ?_|refine Lo ?_|refine c1.use ?_|refine c2.use ?_|(constructor<;>intro hc<;>(try rw[hc])<;>(replace hc:=bp hc)<;>try(exfalso;omega))|clear U K)<;>conv=>whnf)
     all_goals exact AI rfl
   ·have c1:=ih x (by rw[hk];exact .head _) hx (Int.le_trans (DZ (by rw[hk];exact .head _)) hsp)
    have c2:=ih y (by rw[hk];exact .tail _ (.head _)) hy (Int.le_trans (DZ (by rw[hk];exact .tail _ (.head _))) hsp);have e:(f.kids.map (CF w os args)).getD 0 false=CF w os args x:=by rw[hk];rfl
    have e2:(f.kids.map (CF w os args)).getD 1 false=CF w os args y:=by rw[hk];rfl
    have hk0:f.kids[0]? =some x:=by rw[hk];rfl
    have hk1:f.kids[1]? =some y:=by rw[hk];rfl
    rw[if_neg (by omega),if_neg (by omega),if_neg (by omega),if_pos h7,e,e2];clear e e2 hk;cases hb:CF w os args x<;>rw[hb]at c1
    all_goals
     refine Md kZ ?_;have hs:=Sn
     conv=>whnf
     repeat'((first|apply st|(apply sq;intro K U)|(apply si;intro A B Y Z)|(apply Y;clear Z B Y A)|(apply U;clear U K)|apply dr|refine⟨rfl,?_⟩|refine⟨kZ,?_⟩|refine Lg ?_|refine Lo ?_|refine c1.use ?_|refine c2.use ?_|(constructor<;>intro hc<;>(try rw[hc])<;>(replace hc:=bp hc)<;>try(exfalso;omega))|clear U K)<;>conv=>whnf)
     all_goals exact AI rfl
   ·have hsl:=Og hlf
    rw[if_neg (by omega),if_neg (by omega),if_neg (by omega),if_neg (by omega),ZX];obtain⟨v,hva⟩: ∃v,args[f.arg.toNat]? =some v:=⟨_,Ct (by omega)⟩
    have hvd:args.getD f.arg.toNat (0,0)=v:=by rw[DK,hva];rfl
    have hvv:=hv v (B1 hva);rw[hvd];have c1:=uu w os b v f.path false hw hos hvv hp;have hok:=fun u=>Uv (u:=u) hos hp hvv
    clear hvd;cases hu:UW w os f.path v with
    | none=>
      rw[hu]at c1;replace c1:Pure Tryz.prog 119 [.a (Aq w),.l (os.map Fa) b,.a (pI v),.l (iL f.path) false] (.t [.a (pI (0,0)),.b false]):=c1;refine Md kZ ?_;have hs:=Sn
      conv=>whnf
      repeat'((first|apply st|(apply sq;intro K U)|(apply si;intro A B Y Z)|(apply Y;clear Z B Y A)|(apply U;clear U K)|apply dr|refine rk ?_ ?_|exact fun s e=>by cases e;rfl|refine⟨rfl,?_⟩|refine⟨kZ,?_⟩|refine FE ?_|refine DB fun σ hs=>?_|refine⟨_,c1,?_⟩|(constructor<;>intro hc<;>(try rw[hc])<;>(replace hc:=bp hc)<;>try(exfalso;omega))|(intro nn hnn;generalize hg:A6 _ nn _=σ;refine CW hg fun hs=>?_;clear hg)|clear U K)<;>conv=>whnf)
      all_goals exact AI rfl
    | some u=>
      rw[hu]at c1;have hu2:=hok u hu;clear hok hu;obtain⟨uk,un⟩:=u;replace c1:Pure Tryz.prog 119 [.a (Aq w),.l (os.map Fa) b,.a (pI v),.l (iL f.path) false] (.t [.a (pI (uk,un)),.b true]):=c1;have c2:=Vw os b (uk,un) hu2;by_cases h2:f.op=2
      ·have hcr:0≤Ij os (uk,un)∧Ij os (uk,un)<3+w.parents.length:=by
        rw[Ij];split
        ·omega
        split
        ·omega
        ·rename_i h1 h2
         have h3:(uk,un).1=3:=by
          simp only[Bz,if_neg h1,if_neg h2]at hu2;split at hu2
          ·assumption
          ·cases hu2
         obtain⟨o,q1,q2,q3⟩:=JE hu2 h3;have:=hos.own o q3;have e:(os.getD (uk,un).2.toNat (0,[]))=o:=q2;rw[e];omega
       have hfc:=hcl h2;have c3:=Tj w (Ij os (uk,un)) f.cls (by have:=hw.len;omega) hw.ord hcr.1 hcr.2 hfc.1 hfc.2;refine Md kZ ?_;have hs:=Sn
       conv=>whnf
       repeat'((first|apply st|(apply sq;intro K U)|(apply si;intro A B Y Z)|(apply Y;clear Z B Y A)|(apply U;clear U K)|apply dr|refine rk ?_ ?_|exact fun s e=>by cases e;rfl|refine⟨rfl,?_⟩|refine⟨kZ,?_⟩|refine FE ?_|refine ld ?_|refine DB fun σ hs=>?_|refine⟨_,c1,?_⟩|refine c2.use ?_|refine c3.use ?_|(constructor<;>intro hc<;>(try rw[hc])<;>(replace hc:=bp hc)<;>try(exfalso;omega))|(intro nn hnn;generalize hg:A6 _ nn _=σ;refine CW hg fun hs=>?_;clear hg)|clear U K)<;>conv=>whnf)
       all_goals exact AI (by simp[h2])
      ·clear hv hvv ih h4 hp hn hcl c2
       dsimp only;rw[if_neg h2];by_cases hk:uk=1
       ·rw[Dn.2 hk,Ey]
        rcases(show f.op=3∨f.op=4 by omega)with h3|h3
        all_goals
         refine Md kZ ?_;have hs:=Sn
         conv=>whnf
         repeat'((first|apply st|(apply sq;intro K U)|(apply si;intro A B Y Z)|(apply Y;clear Z B Y A)|(apply U;clear U K)|apply dr|refine⟨rfl,?_⟩|refine⟨kZ,?_⟩|refine FE ?_|refine ld ?_|refine DB fun σ hs=>?_|refine⟨_,c1,?_⟩|(constructor<;>intro hc<;>(try rw[hc])<;>(replace hc:=bp hc)<;>(try simp(disch:=omega) only[BD,wrap64,AL]at hc)<;>try(exfalso;omega))|(intro nn hnn;generalize hg:A6 _ nn _=σ;refine CW hg fun hs=>?_;clear hg)|clear U K)<;>conv=>whnf)
         all_goals exact AI (by simp[h3])
       ·rw[beq_eq_false_iff_ne.2 hk,Bool.false_and]
        refine Md kZ ?_;have hs:=Sn
        conv=>whnf
        repeat'((first|apply st|(apply sq;intro K U)|(apply si;intro A B Y Z)|(apply Y;clear Z B Y A)|(apply U;clear U K)|apply dr|refine⟨rfl,?_⟩|refine⟨kZ,?_⟩|refine FE ?_|refine ld ?_|refine DB fun σ hs=>?_|refine⟨_,c1,?_⟩|(constructor<;>intro hc<;>(try rw[hc])<;>(replace hc:=bp hc)<;>(try simp(disch:=omega) only[BD,wrap64,AL]at hc)<;>try(exfalso;omega))|(intro nn hnn;generalize hg:A6 _ nn _=σ;refine CW hg fun hs=>?_;clear hg)|clear U K)<;>conv=>whnf)
        all_goals exact AI rfl
structure Ask (p:Prog) (os:List Ob) (gen:Int) (args:List (Int×Int)):Prop where
 look:(BX p).isSome=true
 iS:RE (AM p) os
 po:Jt p gen=true
 len:(args.length:Int)=p.Cz.getD gen.toNat 0
 vR: ∀v∈args,Bz os.length v=true
def Uw {p:Prog} {os:List Ob} {gen:Int} {args:List (Int×Int)} (h:Cy p os gen args=true):Ask p os gen args:=by
 simp only[Cy,BZ,CY,E0]at h;exact⟨h.1,We h.2.1,h.2.2.1,h.2.2.2.1,h.2.2.2.2⟩
def Rm {p:Prog} (h:(BX p).isSome=true) {x:M7} (hx:x∈p.methods):(1≤x.kind∧x.kind≤4)∧Cg (AM p) x.fact=true∧Bi (AM p) x.fact=true∧DF x.fact≤p.Cz.getD x.gen.toNat 0:=by
 have:=(Eo h).2 x hx;simp only[NY,BZ,CY]at this;have hf:=this.2.2.2.2.1;simp only[Cg,BZ,CY]at hf;exact⟨⟨this.1,this.2.1⟩,this.2.2.2.2.1,hf.2.2,this.2.2.2.2.2⟩
def Pb (p:Prog) (os:List Ob) (gen:Int) (args:List (Int×Int)) (k:Nat):List Int:=(Bg k).filter fun m=>(BJ p m).gen==gen&&CF (AM p) os args (BJ p m).fact
def Yx (p:Prog) (os:List Ob) (gen:Int) (args:List (Int×Int)) (k:Nat):Pb p os gen args (k+1)=if(BJ p (k:Int)).gen==gen&&CF (AM p) os args (BJ p (k:Int)).fact then Pb p os gen args k++[(k:Int)]else Pb p os gen args k:=by
 rw[Pb,Et,List.filter_append];cases hp:(BJ p (k:Int)).gen==gen&&CF (AM p) os args (BJ p (k:Int)).fact<;>simp[Pb,hp]
def Tk (p:Prog) (os:List Ob) (gen:Int) (args:List (Int×Int)) (k:Nat):(Pb p os gen args k).length≤k:=by
 have:=KN (fun m=>(BJ p m).gen==gen&&CF (AM p) os args (BJ p m).fact) (Bg k)
 rwa [DQ]at this
def Ng (p:Prog) (os:List Ob) (gen:Int) (args:List (Int×Int)):List Int:=Pb p os gen args p.methods.length
set_option maxHeartbeats 1000000 in
def UP (p:Prog) (os:List Ob) (f:Bool) (gen:Int) (args:List (Int×Int)) (g:Bool) (ha:Ask p os gen args):Pure Tryz.prog 60 [.a (BV p),.l (os.map Fa) f,eI gen,.l (pP args) g] (.l (iL (Ng p os gen args)) false):=by
 refine Pure.fit (by kernel_rfl) fun hf=>?_
 have F:=Jg hf.1;have hok:=look_ok ha.look;have hM:=Mx;have h16:=hok.many;have c1:=Kj p F hok.ZW hok.AT;refine qc kZ ?_;have hs:=Sn
 conv=>whnf
 repeat'((first|apply st|(apply sq;intro K U)|(apply si;intro A B Y Z)|(apply Y;clear Z B Y A)|(apply U;clear U K)|refine⟨kZ,?_⟩|refine DB fun σ hs=>?_|refine c1.use ?_|(intro nn hnn;generalize hg:A6 _ nn _=σ;refine CW hg fun hs=>?_;clear hg)|fail)<;>conv=>whnf)
 clear c1;refine B4 p.methods.length (fun k v=>[(10,v),(11,eI (A3 k))]) (fun k v=>[.box nn (Aq (AM p)),.own v 1 (iL (Pb p os gen args k))]) (fun _ _=>True) (.l [] true) rfl trivial (EM hs 1) ?_;clear hs;rintro k v σ hk - hs;have hal:=Tk p os gen args k;rcases BE p.methods hk with⟨x,hx,hlt⟩|hke
 ·have hck:A3 k=k:=AL (by omega)
  have hxe:BJ p (k:Int)=x:=by
   have:=B0 (p:=p) (m:=k) (by simp[A7];omega);rw[IT,hx]at this;exact(Option.some.inj this).symm
  have hst:=Yx p os gen args k;rw[hxe]at hst;generalize Pb p os gen args k=zs at *;have hll:zs.length<Ac∧(zs.length+1)*8≤140737488355328:=by omega
  obtain⟨-,-,hno,hsp⟩:=Rm ha.look (B1 hx);by_cases hg:x.gen=gen
  ·rw[hg,←ha.len]at hsp
   have c1:=fy (AM p) os f args g hok.iB ha.iS ha.vR x.fact hno hsp;rw[Dn.2 hg,Ey]at hst;cases hh:CF (AM p) os args x.fact<;>rw[hh]at c1 hst
   ·conv=>whnf
    repeat'((first|apply st|(apply sq;intro K U)|(apply si;intro A B Y Z)|(apply Y;clear Z B Y A)|(apply U;clear U K)|apply dr|refine⟨rfl,?_⟩|refine⟨kZ,?_⟩|refine ix ?_|refine ld ?_|refine D2 ?_|(refine CA (fun hc=>?_)<;>(try rw[hc])<;>clear hc)|refine c1.use ?_|(constructor<;>intro hc<;>(try rw[hc])<;>(replace hc:=bp hc)<;>try(exfalso;omega))|clear U K)<;>conv=>whnf)
    exact⟨hlt,_,rfl,trivial,by rw[hst];exact hs⟩
   ·conv=>whnf
    repeat'((first|apply st|(apply sq;intro K U)|(apply si;intro A B Y Z)|(apply Y;clear Z B Y A)|(apply U;clear U K)|apply dr|refine⟨rfl,?_⟩|refine⟨kZ,?_⟩|refine ix ?_|refine ld ?_|refine aq fun v σ hs hsl=>?_|refine E2 ?_|(refine CA (fun hc=>?_)<;>(try rw[hc])<;>clear hc)|refine c1.use ?_|(constructor<;>intro hc<;>(try rw[hc])<;>(replace hc:=bp hc)<;>try(exfalso;omega))|clear U K)<;>conv=>whnf)
    exact⟨hlt,_,rfl,trivial,by rw[hst,←hck];exact hs⟩
  ·rw[beq_eq_false_iff_ne.2 hg,Bool.false_and]at hst
   conv=>whnf
   repeat'((first|apply st|(apply sq;intro K U)|(apply si;intro A B Y Z)|(apply Y;clear Z B Y A)|(apply U;clear U K)|apply dr|refine⟨rfl,?_⟩|refine ix ?_|(refine CA (fun hc=>?_)<;>(try rw[hc])<;>clear hc)|(constructor<;>intro hc<;>(try rw[hc])<;>(replace hc:=bp hc)<;>try(exfalso;omega))|clear U K)<;>conv=>whnf)
   exact⟨hlt,_,rfl,trivial,by rw[hst];exact hs⟩
 ·rw[hke]at hs
  conv=>whnf
  repeat'((first|apply st|(apply sq;intro K U)|(apply si;intro A B Y Z)|(apply Y;clear Z B Y A)|(apply U;clear U K)|refine⟨rfl,?_⟩|(refine DU (fun hc=>?_)<;>(try rw[hc])<;>clear hc)|clear U K)<;>conv=>whnf)
  exact BO (hs.MV 1 rfl)
structure Pl where
 ar:List Int
 xq:Bool
 be:List Int
 pr:List Int
 prt:Bool
 af:List Int
abbrev om (x:Pl) (g h:Bool):List V:=[.l (iL x.ar) g,.b x.xq,.l (iL x.be) g,.l (iL x.pr) g,.b x.prt,.l (iL x.af) h]
def CC (p:Prog) (l:List Int) (k:Int):List Int:=l.filter fun m=>(BJ p m).kind==k
def oq:Pl:=⟨[],false,[],[],false,[]⟩
def gL (A:Int→Int→Bool) (p:Prog) (l:List Int):Pl:=
 ⟨(Bk A (CC p l 4).length (CC p l 4)).1,(Bk A (CC p l 4).length (CC p l 4)).2,DM A (CC p l 2).length (Cw (CC p l 2)),(Bk A (CC p l 1).length (CC p l 1)).1,(Bk A (CC p l 1).length (CC p l 1)).2,(DM A (CC p l 3).length (Cw (CC p l 3))).reverse⟩
def El (A:Int→Int→Bool) (p:Prog) (l:List Int):Pl×Bool:=if(CC p l 1).isEmpty then(oq,false)else(gL A p l,true)
def da (p:Prog) (l:List Int) (f:Bool) (kd:Int) (hm: ∀x∈l,A7 p x=true) (hl:l.length≤16) (h16:p.methods.length≤16):Pure Tryz.prog 37 [.a (BV p),.l (iL l) f,eI kd] (.l (iL (CC p l kd)) false):=by
 have hM:=Mx;refine qo kZ ?_;have hs:=Sn
 conv=>whnf
 repeat'((first|apply st|(apply sq;intro K U)|(apply si;intro A B Y Z)|(apply Y;clear Z B Y A)|(apply U;clear U K)|fail)<;>conv=>whnf)
 refine B4 l.length (fun k v=>[(7,v),(8,eI (A3 k))]) (fun k v=>[.own v 1 (iL (CC p (l.take k) kd))]) (fun _ _=>True) (.l [] true) rfl trivial (EM hs 1) ?_;clear hs;rintro k v σ hk - hs
 have hfl:(CC p (l.take k) kd).length≤16:=by
  have:=KN (fun m=>(BJ p m).kind==kd) (l.take k);rw[LZ]at this;simp only[CC];omega
 rcases BE l hk with⟨x,hx,hlt⟩|hke
 ·have hst:CC p (l.take (k+1)) kd=if(BJ p x).kind==kd then CC p (l.take k) kd++[x]else CC p (l.take k) kd:=by
   rw[AQ hx,CC,List.filter_append];cases hp:(BJ p x).kind==kd<;>simp[CC,hp]
  have hmx:=hm x (B1 hx);have hxm:=B0 hmx;simp only[A7,BZ,CY]at hmx;generalize CC p (l.take k) kd=zs at *;have hll:zs.length<Ac∧(zs.length+1)*8≤140737488355328:=by omega
  by_cases hkd:(BJ p x).kind=kd
  ·rw[if_pos (Dn.2 hkd)]at hst
   conv=>whnf
   repeat'((first|apply st|(apply sq;intro K U)|(apply si;intro A B Y Z)|(apply Y;clear Z B Y A)|(apply U;clear U K)|apply dr|refine⟨rfl,?_⟩|refine ix ?_|refine FE ?_|refine aq fun v σ hs hsl=>?_|(refine CA (fun hc=>?_)<;>(try rw[hc])<;>clear hc)|(constructor<;>intro hc<;>(try rw[hc])<;>(replace hc:=bp hc)<;>try(exfalso;omega))|clear U K)<;>conv=>whnf)
   exact⟨hlt,_,rfl,trivial,by rw[hst];exact hs⟩
  ·rw[if_neg (by simpa using hkd)]at hst
   conv=>whnf
   repeat'((first|apply st|(apply sq;intro K U)|(apply si;intro A B Y Z)|(apply Y;clear Z B Y A)|(apply U;clear U K)|apply dr|refine⟨rfl,?_⟩|refine ix ?_|refine FE ?_|(refine CA (fun hc=>?_)<;>(try rw[hc])<;>clear hc)|(constructor<;>intro hc<;>(try rw[hc])<;>(replace hc:=bp hc)<;>try(exfalso;omega))|clear U K)<;>conv=>whnf)
   exact⟨hlt,_,rfl,trivial,by rw[hst];exact hs⟩
 ·rw[Au hke]at hs
  conv=>whnf
  repeat'((first|apply st|(apply sq;intro K U)|(apply si;intro A B Y Z)|(apply Y;clear Z B Y A)|(apply U;clear U K)|refine⟨rfl,?_⟩|(refine DU (fun hc=>?_)<;>(try rw[hc])<;>clear hc)|clear U K)<;>conv=>whnf)
  exact BO (hs.MV 0 rfl)
end Go.Gl
namespace Go.Gl
open Go.Proofs
structure Nl (p:Prog) (l:List Int):Prop where
 Iq: ∀x∈l,A7 p x=true
 gen: ∀x∈l,∀y∈l,(BJ p x).gen=(BJ p y).gen
 nodup:l.Nodup
 many:l.length≤16
def Gn {p:Prog} {l:List Int} {k x:Int} (h:x∈CC p l k):x∈l∧(BJ p x).kind=k:=by
 have:=JZ.1 h;exact⟨this.1,by simpa using this.2⟩
def Wh {p:Prog} {l:List Int} {k:Int}:(CC p l k).length≤l.length:=KN _ _
def Nl.of {p:Prog} {l:List Int} (h:Nl p l) (k:Int):Ny p (CC p l k)∧(CC p l k).Nodup:=by
 refine⟨⟨fun x hx=>h.Iq x (Gn hx).1,fun x hx y hy=>?_,Nat.le_trans Wh h.many⟩,h.nodup.sublist (List.filter_sublist ..)⟩;rw[B3,h.gen x (Gn hx).1 y (Gn hy).1,(Gn hx).2,(Gn hy).2];simp
def T1 {p:Prog} {l:List Int} {A B:Int→Int→Bool} (h:Nl p l) (hq: ∀x∈l,∀y∈l,B3 p x y=true→A x y=B x y):El A p l=El B p l:=by
 have hk: ∀k,∀x∈CC p l k,∀y∈CC p l k,A x y=B x y:=fun k x hx y hy=>hq x (Gn hx).1 y (Gn hy).1 ((h.of k).1.alike x hx y hy)
 have hc: ∀k,Bk A (CC p l k).length (CC p l k)=Bk B (CC p l k).length (CC p l k):=fun k=>LU _ _ (hk k)
 have hb: ∀k,DM A (CC p l k).length (Cw (CC p l k))=DM B (CC p l k).length (Cw (CC p l k)):=fun k=>PL _ _ fun x hx y hy=>hk k x (JL.1 hx) y (JL.1 hy)
 unfold El gL;rw[hc 4,hc 1,hb 2,hb 3]
def JX.sub {T:List (List Bool)} {l l':List Int} (h:JX T l) (hs: ∀x∈l',x∈l) (hl:l'.length≤l.length):JX T l':=⟨h.len,h.sq,fun x hx=>h.ins x (hs x hx),Nat.le_trans hl h.many⟩
attribute [local irreducible] BL A5 Aj AW AN Ai AV AX AO Ah AS AU BA BK Sat Ad BH Al W
set_option maxHeartbeats 4000000 in
def bK (p:Prog) (T:List (List Bool)) (l:List Int) (f:Bool) (hG:Nl p l) (h16:p.methods.length≤16) (hT:JX T l) :
    Pure Tryz.prog 86 [.a (BV p),oh T,.l (iL l) f] (.t [.a (om (El (Dp T) p l).1 (!(El (Dp T) p l).2) (!(El (Dp T) p l).2)),.b (El (Dp T) p l).2]):=by
 have hM:=Mx;have c1:=da p l f 1 hG.Iq hG.many h16;have c2:=da p l f 2 hG.Iq hG.many h16;have c3:=da p l f 3 hG.Iq hG.many h16;have c4:=da p l f 4 hG.Iq hG.many h16;have htk: ∀k,JX T (CC p l k):=fun k=>hT.sub (fun x hx=>(Gn hx).1) Wh
 have hts: ∀k,JX T (Cw (CC p l k)):=fun k=>(htk k).sub (fun x hx=>JL.1 hx) (by rw[QE];exact JU _)
 have d1:=Ti T (CC p l 1) false (htk 1);have d4:=Ti T (CC p l 4) false (htk 4);have e2:=Qu T (CC p l 2) false (hts 2) (htk 2).many;have e3:=Qu T (CC p l 3) false (hts 3) (htk 3).many;rw[QE]at e2 e3
 have hbl:(DM (Dp T) (CC p l 3).length (Cw (CC p l 3))).length≤16:=by
  have: ∀k l,(DM (Dp T) k l).length=k:=fun k=>by
   induction k with
   | zero=>intro l;rfl
   | succ k ih=>intro l;simp only[DM,La,ih]
  rw[this];exact(htk 3).many
 have hpl:El (Dp T) p l=if(CC p l 1).isEmpty then(oq,false)else(⟨(Bk (Dp T) (CC p l 4).length (CC p l 4)).1,(Bk (Dp T) (CC p l 4).length (CC p l 4)).2,DM (Dp T) (CC p l 2).length (Cw (CC p l 2)),(Bk (Dp T) (CC p l 1).length (CC p l 1)).1,(Bk (Dp T) (CC p l 1).length (CC p l 1)).2,(DM (Dp T) (CC p l 3).length (Cw (CC p l 3))).reverse⟩,true):=rfl
 rw[hpl];have hl1:=(htk 1).many;clear htk hts hpl;generalize DM (Dp T) (CC p l 3).length (Cw (CC p l 3))=xs at *;generalize DM (Dp T) (CC p l 2).length (Cw (CC p l 2))=bs at *;generalize Bk (Dp T) (CC p l 4).length (CC p l 4)=q4 at *;generalize Bk (Dp T) (CC p l 1).length (CC p l 1)=q1 at *;generalize CC p l 1=l1 at *;obtain⟨r4,t4⟩:=q4;obtain⟨r1,t1⟩:=q1;dsimp only at d1 d4;refine qL kZ ?_;have hs:=Sn;by_cases hz:l1.length=0
 ·have he:l1.isEmpty=true:=by simpa using hz
  rw[he]
  conv=>whnf
  repeat'((first|apply st|(apply sq;intro K U)|(apply si;intro A B Y Z)|(apply Y;clear Z B Y A)|(apply U;clear U K)|refine⟨rfl,?_⟩|refine⟨kZ,?_⟩|refine ld ?_|refine DB fun σ hs=>?_|refine c1.use ?_|(constructor<;>intro hc<;>(try rw[hc])<;>(replace hc:=bp hc)<;>(try simp(disch:=omega) only[BD,wrap64,AL]at hc)<;>try(exfalso;omega))|(intro nn hnn;generalize hg:A6 _ nn _=σ;refine CW hg fun hs=>?_;clear hg)|clear U K)<;>conv=>whnf)
  all_goals exact AI rfl
 ·have he:l1.isEmpty=false:=by cases l1 with
   | nil=>simp at hz
   | cons=>rfl
  rw[he]
  conv=>whnf
  repeat'((first|apply st|(apply sq;intro K U)|(apply si;intro A B Y Z)|(apply Y;clear Z B Y A)|(apply U;clear U K)|refine⟨rfl,?_⟩|refine⟨kZ,?_⟩|refine FB fun σ hs=>?_|refine c1.use ?_|refine c2.use ?_|refine c3.use ?_|refine c4.use ?_|refine d1.use ?_|refine d4.use ?_|refine e2.use ?_|refine e3.use ?_|(constructor<;>intro hc<;>(try rw[hc])<;>(replace hc:=bp hc)<;>(try simp(disch:=omega) only[BD,wrap64,AL]at hc)<;>try(exfalso;omega))|(intro nn hnn;generalize hg:A6 _ nn _=σ;refine CW hg fun hs=>?_;clear hg)|fail)<;>conv=>whnf)
  rename_i n6 _ _ _ _ _ _ _ _ _ _ _ _ _
  have hwl:IntKind.i64.wrap ((iL xs).length - 1)=(xs.length:Int) - 1:=by
   have e:((iL xs).length:Int)=xs.length:=by simp
   rw[e,wrap64 (by omega) (by omega)]
  refine ED (fun x:Int×V=>(x.1+1).toNat) (fun x=>[(10,eI x.1)]) (fun x=>[.box nn [.l (iL r4) false,.b t4,.l (iL bs) false,.l (iL r1) false,.b t1,x.2],.box n6 [.l [] true,.b false,.l [] true,.l [] true,.b false,.l [] true],.own x.2 1 (iL ((xs.drop (x.1+1).toNat).reverse))]) (fun x=> -1≤x.1∧x.1<xs.length) (IntKind.i64.wrap ((iL xs).length - 1),.l [] true) rfl ?_ ?_ ?_
  ·dsimp only
   rw[hwl];exact⟨by omega,by omega⟩
  ·dsimp only
   rw[hwl,List.drop_of_length_le (by omega)];exact EM hs 1
  clear hs hwl;rintro⟨i,v⟩ σ ⟨hi1,hi2⟩ hs;dsimp only at hi1 hi2 hs;dsimp only;by_cases hneg:i<0
  ·obtain rfl:i= -1:=by omega
   rw[show((-1:Int)+1).toNat=0 from rfl,List.drop_zero]at hs
   conv=>whnf
   repeat'((first|apply st|(apply sq;intro K U)|(apply si;intro A B Y Z)|(apply Y;clear Z B Y A)|(apply U;clear U K)|refine⟨rfl,?_⟩|refine⟨kZ,?_⟩|refine ld ?_|(constructor<;>intro hc<;>(try rw[hc])<;>(replace hc:=bp hc)<;>try(exfalso;omega))|clear U K)<;>conv=>whnf)
   have o1:=Gx hs 2 rfl;refine Hp hs 1 rfl rfl rfl (by simp[o1]) (by decide) fun σ hs=>?_
   clear o1
   conv=>whnf
   repeat'((first|apply st|(apply Y;clear Z B Y A)|(apply U;clear U K)|refine⟨kZ,?_⟩|refine ld ?_|fail)<;>conv=>whnf)
   exact BO (.t (.cons (.a (.cons (.refl _) (.cons (.refl _) (.cons (.refl _) (.cons (.refl _) (.cons (.refl _) (.cons (hs.MV 2 rfl) .nil))))))) (.cons (.refl _) .nil)))
  ·have hpos:0≤i:=by omega
   obtain⟨x,hx⟩: ∃x,xs[i.toNat]? =some x:=⟨_,Ct (by omega)⟩
   have hd:(xs.drop i.toNat).reverse=(xs.drop (i+1).toNat).reverse++[x]:=by
    rw[drop_cons hx,List.reverse_cons,show(i+1).toNat=i.toNat+1 by omega]
   have hdl:((xs.drop (i+1).toNat).reverse).length≤16:=by
    rw[List.length_reverse,hZ];omega
   generalize (xs.drop (i+1).toNat).reverse=zs at *;have hll:zs.length<Ac∧(zs.length+1)*8≤140737488355328:=by omega
   have hwi:IntKind.i64.wrap (i - 1)=i - 1:=wrap64 (by omega) (by omega)
   conv=>whnf
   repeat'((first|apply st|(apply sq;intro K U)|(apply si;intro A B Y Z)|(apply Y;clear Z B Y A)|(apply U;clear U K)|apply dr|refine⟨rfl,?_⟩|refine FE ?_|refine ld ?_|refine FB fun σ hs=>?_|refine aq fun v σ hs hsl=>?_|(constructor<;>intro hc<;>(try rw[hc])<;>(replace hc:=bp hc)<;>try(exfalso;omega))|clear U K)<;>conv=>whnf)
   refine⟨(i - 1,v),by dsimp only;omega,by rw[hwi];rfl,⟨by dsimp only;omega,by dsimp only;omega⟩,?_⟩;dsimp only;rw[show(i - 1+1).toNat=i.toNat by omega,hd];exact hs
def bJ (p:Prog) (l:List Int) (f:Bool) (hok:Dv p) (hG:Nl p l) :
    Pure Tryz.prog 59 [.a (BV p),.l (iL l) f] (.t [.a (om (El (Am p) p l).1 (!(El (Am p) p l).2) (!(El (Am p) p l).2)),.b (El (Am p) p l).2]):=by
 refine Pure.of ?_;refine qd kZ ?_;have hs:=Sn
 conv=>whnf
 repeat'((first|apply st|(apply sq;intro K U)|(apply si;intro A B Y Z)|(apply Y;clear Z B Y A)|(apply U;clear U K)|apply dr|refine⟨kZ,?_⟩|(intro nn hnn;generalize hg:A6 _ nn _=σ;refine CW hg fun hs=>?_;clear hg)|fail)<;>conv=>whnf)
 refine(cj p l f hok hG.many hG.Iq).use (rest:=_) (hs.front (j:=0) rfl) ?_;clear hs;rintro r post σ ⟨rfl,T,rfl,hT,hq⟩ hs;have c1:=bK p T l f hG hok.many hT;rw[T1 hG hq]at c1
 conv=>whnf
 repeat'((first|apply st|(apply Y;clear Z B Y A)|(apply U;clear U K)|apply dr|refine rk ?_ ?_|exact fun s e=>by cases e;rfl|refine⟨kZ,?_⟩|refine ld ?_|refine DB fun σ hs=>?_|refine c1.use ?_|fail)<;>conv=>whnf)
 all_goals exact AR (by rfl)
end Go.Gl
namespace Go.Gl
open Go.Proofs
attribute [local irreducible] BL A5 Aj AW AN Ai AV AX AO Ah AS AU BA BK Sat Ad BH Al W
def bQ {p:Prog} {l:List Int} {k:Nat} {x:Int} (hx:l[k]? =some x) (kd:Int):CC p (l.take (k+1)) kd=if(BJ p x).kind==kd then CC p (l.take k) kd++[x]else CC p (l.take k) kd:=by
 rw[AQ hx,CC,List.filter_append];cases hp:(BJ p x).kind==kd<;>simp[CC,hp]
def K2 {p:Prog} {l:List Int} {k:Nat} {kd:Int} (h:l.length≤16):(CC p (l.take k) kd).length≤16:=by
 have:=KN (fun m=>(BJ p m).kind==kd) (l.take k);rw[LZ]at this;simp only[CC];omega
set_option maxHeartbeats 4000000 in
def jG (p:Prog) (L:Nat) (l:List Int) (f:Bool) (h:(BX p).isSome=true) (hG:Nl p l) (M:List (Int×Int)) :
    Bj Tryz.prog 57 [Fu p L,.l (iL l) f] [.map L (FL p M)] fun r post=>r= .ret (.t [.a (om (El (Am p) p l).1 true (!(El (Am p) p l).2)),.b (El (Am p) p l).2])∧ ∃M',post= [.map L (FL p M')]:=by
 intro σ hs;have hM:=Mx;have hok:=look_ok h;have hgw:=No h;have hfm:=Kp h;have h16:=hG.many;have hm16:=hok.many;generalize hX:El (Am p) p l=X;refine qf kZ ?_
 conv=>whnf
 repeat'((first|apply st|(apply sq;intro K U)|(apply si;intro A B Y Z)|(apply Y;clear Z B Y A)|(apply U;clear U K)|(intro nn hnn;generalize hg:A6 _ nn _=σ;refine CW hg fun hs=>?_;clear hg)|fail)<;>conv=>whnf)
 rename_i n4 _ _ _;clear hnn;refine B4 l.length (fun k (_:V×V×V×V)=>[(13,eI (A3 k))]) (fun k x=>[.own x.1 1 (iL (CC p (l.take k) 1)),.own x.2.1 1 (iL (CC p (l.take k) 2)),.own x.2.2.1 1 (iL (CC p (l.take k) 3)),.own x.2.2.2 1 (iL (CC p (l.take k) 4)),.box nn [.l [] true,x.1,x.2.1,x.2.2.1,x.2.2.2],.box n4 [.l [] true,.b false,.l [] true,.l [] true,.b false,.l [] true],.map L (FL p M)]) (fun _ _=>True) (.l [] true,.l [] true,.l [] true,.l [] true) rfl trivial (Cx (Cx (Cx (Cx hs 1) 1) 1) 1) ?_;clear hs;rintro k ⟨v1,v2,v3,v4⟩ σ hk - hs;dsimp only at hs;dsimp only;rcases BE l hk with⟨x,hx,hlt⟩|hke
 ·have hmx:=hG.Iq x (B1 hx)
  have hxm:=B0 hmx;obtain⟨hkr,-⟩:=Rm h (B1 hxm);have hst:=bQ (p:=p) hx;simp only[A7,BZ,CY]at hmx;have l1:(CC p (l.take k) 1).length≤16:=K2 h16;have l2:(CC p (l.take k) 2).length≤16:=K2 h16;have l3:(CC p (l.take k) 3).length≤16:=K2 h16;have l4:(CC p (l.take k) 4).length≤16:=K2 h16;have s1:=hst 1;have s2:=hst 2;have s3:=hst 3;have s4:=hst 4;clear hst;generalize BJ p x=y at *;generalize CC p (l.take k) 1=z1 at *;generalize CC p (l.take k) 2=z2 at *;generalize CC p (l.take k) 3=z3 at *;generalize CC p (l.take k) 4=z4 at *;obtain⟨kd,gn,fc,nd⟩:=y;dsimp only at hkr s1 s2 s3 s4;rcases(show kd=1∨kd=2∨kd=3∨kd=4 by omega)with rfl|rfl|rfl|rfl
  ·rw[if_pos (beq_self_eq_true _)]at s1
   rw[if_neg (by decide)]at s2 s3 s4;have hll:z1.length<Ac∧(z1.length+1)*8≤140737488355328:=by omega
   clear l1 l2 l3 l4
   conv=>whnf
   repeat'((first|apply st|(apply sq;intro K U)|(apply si;intro A B Y Z)|(apply Y;clear Z B Y A)|(apply U;clear U K)|refine⟨rfl,?_⟩|refine ix ?_|refine FE ?_|refine ld ?_|refine FB fun σ hs=>?_|refine aq fun v σ hs hsl=>?_|(refine CA (fun hc=>?_)<;>(try rw[hc])<;>clear hc)|refine UT (j:=1) ?_ (by decide) (by decide)|clear U K)<;>conv=>whnf)
   exact⟨hlt,(v,v2,v3,v4),rfl,trivial,by rw[s1,s2,s3,s4];exact hs⟩
  ·rw[if_pos (beq_self_eq_true _)]at s2
   rw[if_neg (by decide)]at s1 s3 s4;have hll:z2.length<Ac∧(z2.length+1)*8≤140737488355328:=by omega
   clear l1 l2 l3 l4
   conv=>whnf
   repeat'((first|apply st|(apply sq;intro K U)|(apply si;intro A B Y Z)|(apply Y;clear Z B Y A)|(apply U;clear U K)|refine⟨rfl,?_⟩|refine ix ?_|refine FE ?_|refine ld ?_|refine FB fun σ hs=>?_|refine aq fun v σ hs hsl=>?_|(refine CA (fun hc=>?_)<;>(try rw[hc])<;>clear hc)|refine UT (j:=2) ?_ (by decide) (by decide)|clear U K)<;>conv=>whnf)
   exact⟨hlt,(v1,v,v3,v4),rfl,trivial,by rw[s1,s2,s3,s4];exact hs⟩
  ·rw[if_pos (beq_self_eq_true _)]at s3
   rw[if_neg (by decide)]at s1 s2 s4;have hll:z3.length<Ac∧(z3.length+1)*8≤140737488355328:=by omega
   clear l1 l2 l3 l4
   conv=>whnf
   repeat'((first|apply st|(apply sq;intro K U)|(apply si;intro A B Y Z)|(apply Y;clear Z B Y A)|(apply U;clear U K)|refine⟨rfl,?_⟩|refine ix ?_|refine FE ?_|refine ld ?_|refine FB fun σ hs=>?_|refine aq fun v σ hs hsl=>?_|(refine CA (fun hc=>?_)<;>(try rw[hc])<;>clear hc)|refine UT (j:=3) ?_ (by decide) (by decide)|clear U K)<;>conv=>whnf)
   exact⟨hlt,(v1,v2,v,v4),rfl,trivial,by rw[s1,s2,s3,s4];exact hs⟩
  ·rw[if_pos (beq_self_eq_true _)]at s4
   rw[if_neg (by decide)]at s1 s2 s3;have hll:z4.length<Ac∧(z4.length+1)*8≤140737488355328:=by omega
   clear l1 l2 l3 l4
   conv=>whnf
   repeat'((first|apply st|(apply sq;intro K U)|(apply si;intro A B Y Z)|(apply Y;clear Z B Y A)|(apply U;clear U K)|refine⟨rfl,?_⟩|refine ix ?_|refine FE ?_|refine ld ?_|refine FB fun σ hs=>?_|refine aq fun v σ hs hsl=>?_|(refine CA (fun hc=>?_)<;>(try rw[hc])<;>clear hc)|refine UT (j:=4) ?_ (by decide) (by decide)|clear U K)<;>conv=>whnf)
   exact⟨hlt,(v1,v2,v3,v),rfl,trivial,by rw[s1,s2,s3,s4];exact hs⟩
 ·rw [Au hke]at hs
  obtain⟨o1,d1⟩:=hG.of 1;obtain⟨o2,d2⟩:=hG.of 2;obtain⟨o3,d3⟩:=hG.of 3;obtain⟨o4,d4⟩:=hG.of 4;have hpl:El (Am p) p l=if(CC p l 1).isEmpty then(oq,false)else(⟨(Bk (Am p) (CC p l 4).length (CC p l 4)).1,(Bk (Am p) (CC p l 4).length (CC p l 4)).2,DM (Am p) (CC p l 2).length (Cw (CC p l 2)),(Bk (Am p) (CC p l 1).length (CC p l 1)).1,(Bk (Am p) (CC p l 1).length (CC p l 1)).2,(DM (Am p) (CC p l 3).length (Cw (CC p l 3))).reverse⟩,true):=rfl
  rw[hpl]at hX;clear hpl;have e4:=fun M=>R0 p L (CC p l 4) false hok hgw hfm o4 d4 M
  have e2:=fun M=>Yt p L (CC p l 2) false hok hgw hfm o2 d2 M
  have e1:=fun M=>R0 p L (CC p l 1) false hok hgw hfm o1 d1 M
  have e3:=fun M=>Vx p L (CC p l 3) false hok hgw hfm o3 d3 M
  rw[QD d2]at e2;rw[QD d3]at e3;have hl1:=o1.many
  have hbl:(DM (Am p) (CC p l 3).length (Cw (CC p l 3))).length≤16:=by
   have: ∀k l,(DM (Am p) k l).length=k:=fun k=>by
    induction k with
    | zero=>intro l;rfl
    | succ k ih=>intro l;simp only[DM,La,ih]
   rw[this];exact o3.many
  clear o1 o2 o3 o4 d1 d2 d3 d4 hG;generalize DM (Am p) (CC p l 3).length (Cw (CC p l 3))=xs at *;generalize DM (Am p) (CC p l 2).length (Cw (CC p l 2))=bs at *;generalize Bk (Am p) (CC p l 4).length (CC p l 4)=q4 at *;generalize Bk (Am p) (CC p l 1).length (CC p l 1)=q1 at *;generalize CC p l 1=l1 at *;generalize CC p l 2=l2 at *;generalize CC p l 3=l3 at *;generalize CC p l 4=l4 at *;obtain⟨r4,t4⟩:=q4;obtain⟨r1,t1⟩:=q1;dsimp only at e1 e4;by_cases hz:l1.length=0
  ·have he:l1.isEmpty=true:=by simpa using hz
   rw[he,if_pos rfl]at hX;subst hX
   conv=>whnf
   repeat'((first|apply st|(apply sq;intro K U)|(apply si;intro A B Y Z)|(apply Y;clear Z B Y A)|(apply U;clear U K)|refine⟨rfl,?_⟩|refine⟨kZ,?_⟩|refine UT ?_|refine lo ?_|refine ld ?_|(refine DU (fun hc=>?_)<;>(try rw[hc])<;>clear hc)|(constructor<;>intro hc<;>(try rw[hc])<;>(replace hc:=bp hc)<;>(try simp(disch:=omega) only[BD,wrap64,AL]at hc)<;>try(exfalso;omega))|(intro nn hnn;generalize hg:A6 _ nn _=σ;refine CW hg fun hs=>?_;clear hg)|clear U K)<;>conv=>whnf)
   refine Hp hs 6 rfl rfl rfl (by simp) (by decide) fun σ hs=>?_
   conv=>whnf
   repeat'((first|apply st|(apply Y;clear Z B Y A)|(apply U;clear U K)|clear U K)<;>conv=>whnf)
   refine Ss hs 6 rfl ?_
   conv=>whnf
   repeat'((first|refine⟨kZ,?_⟩|fail)<;>conv=>whnf)
   exact Ap (hs.front (j:=7) rfl) (.cons₂ _ (LY _)) (.refl _) fun σ' hs'=>⟨_,⟨rfl,M,rfl⟩,hs'⟩
  ·have he:l1.isEmpty=false:=by cases l1 with
    | nil=>simp at hz
    | cons=>rfl
   rw[he,if_neg (by decide)]at hX;subst hX
   conv=>whnf
   repeat'((first|apply st|(apply sq;intro K U)|(apply si;intro A B Y Z)|(apply Y;clear Z B Y A)|(apply U;clear U K)|refine⟨rfl,?_⟩|refine UT ?_|refine lo ?_|refine ld ?_|(refine DU (fun hc=>?_)<;>(try rw[hc])<;>clear hc)|(constructor<;>intro hc<;>(try rw[hc])<;>(replace hc:=bp hc)<;>(try simp(disch:=omega) only[BD,wrap64,AL]at hc)<;>try(exfalso;omega))|(intro nn hnn;generalize hg:A6 _ nn _=σ;refine CW hg fun hs=>?_;clear hg)|clear U K)<;>conv=>whnf)
   obtain⟨σ2,g1,g2,g3⟩:=Ir hs 4 rfl;refine BL.P0 ((e4 M).use (rest:=_) (g3.front (j:=6) rfl) ?_) g1 (.cons (.refl _) (.cons g2 .nil));clear hs g1 g2 g3;rintro r post σ ⟨rfl,M,rfl⟩ hs
   conv=>whnf
   repeat'((first|(apply sq;intro K U)|(apply si;intro A B Y Z)|(apply Y;clear Z B Y A)|(apply U;clear U K)|refine UT ?_|refine ld ?_|refine FB fun σ hs=>?_|fail)<;>conv=>whnf)
   obtain⟨σ2,g1,g2,g3⟩:=Ir hs 3 rfl;refine BL.P0 ((e2 M).use (rest:=_) g3 ?_) g1 (.cons (.refl _) (.cons g2 .nil));clear hs g1 g2 g3;rintro r post σ ⟨rfl,M,rfl⟩ hs
   conv=>whnf
   repeat'((first|(apply sq;intro K U)|(apply si;intro A B Y Z)|(apply Y;clear Z B Y A)|(apply U;clear U K)|refine UT ?_|refine ld ?_|refine FB fun σ hs=>?_|fail)<;>conv=>whnf)
   obtain⟨σ2,g1,g2,g3⟩:=Ir hs 2 rfl;refine BL.P0 ((e1 M).use (rest:=_) g3 ?_) g1 (.cons (.refl _) (.cons g2 .nil));clear hs g1 g2 g3;rintro r post σ ⟨rfl,M,rfl⟩ hs
   conv=>whnf
   repeat'((first|(apply sq;intro K U)|(apply si;intro A B Y Z)|(apply Y;clear Z B Y A)|(apply U;clear U K)|refine UT ?_|refine ld ?_|refine FB fun σ hs=>?_|fail)<;>conv=>whnf)
   obtain⟨σ2,g1,g2,g3⟩:=Ir hs 2 rfl;refine BL.P0 ((e3 M).use (rest:=_) g3 ?_) g1 (.cons (.refl _) (.cons g2 .nil));clear hs g1 g2 g3;rintro r post σ ⟨v,M,rfl,rfl,hv⟩ hs
   conv=>whnf
   repeat'((first|(apply sq;intro K U)|(apply si;intro A B Y Z)|(apply Y;clear Z B Y A)|(apply U;clear U K)|refine ld ?_|refine FB fun σ hs=>?_|fail)<;>conv=>whnf)
   refine(Xv xs v (by omega) hv).use (rest:=_) hs ?_;clear hs;rintro r post σ ⟨rfl,rfl⟩ hs
   conv=>whnf
   repeat'((first|(apply sq;intro K U)|(apply si;intro A B Y Z)|(apply Y;clear Z B Y A)|(apply U;clear U K)|refine⟨kZ,?_⟩|refine ld ?_|fail)<;>conv=>whnf)
   have o1:=Gx hs 0 rfl;refine Hp hs 4 rfl rfl rfl (by simp[o1]) (by decide) fun σ hs=>?_
   clear o1
   conv=>whnf
   repeat'((first|apply st|(apply Y;clear Z B Y A)|(apply U;clear U K)|refine⟨kZ,?_⟩|refine ld ?_|fail)<;>conv=>whnf)
   obtain⟨σ2,g1,g2,g3⟩:=Ir hs 0 rfl;exact F3 g1 (.t (.cons (.a (.cons (.refl _) (.cons (.refl _) (.cons (.refl _) (.cons (.refl _) (.cons (.refl _) (.cons g2 .nil))))))) (.cons (.refl _) .nil))) ⟨_,⟨rfl,M,rfl⟩,g3.less (.cons₂ _ (LY _))⟩
def Nv (g:FuncId) (fi ca:List V) (q:Ob→Bool):Prop:= ∀v,Pure Tryz.prog g (fi++[.a (Fa v)]++ca) (.b (q v))
def Nv.use {g:FuncId} {fi ca:List V} {q:Ob→Bool} (h:Nv g fi ca q) {v:Ob} {σ:AH} {k kp:V→AH→Prop} (hk:k (.b (q v)) σ):BA Tryz.prog (.f (.func g) fi ca) [.a (Fa v)] σ (qk k kp):=Bp ((h v).use hk)
def Vo {g:FuncId} {fi ca:List V} {q:Ob→Bool} (hpf:Nv g fi ca q) (v:Ob):Pure Tryz.prog 238 [.a (Fa v),.rp [.f (.func g) fi ca]] (.b (!q v)):=by
 refine lF kZ ?_;have hs:=Sn
 conv=>whnf
 repeat'((first|apply st|(apply sq;intro K U)|(apply si;intro A B Y Z)|(apply Y;clear Z B Y A)|(apply U;clear U K)|refine⟨kZ,?_⟩|refine Nv.use hpf ?_|fail)<;>conv=>whnf)
 all_goals exact AI rfl
def bt {g:FuncId} {fi ca:List V} {q:Ob→Bool} (hpf:Nv g fi ca q) (l:List Ob) (b:Bool):Pure Tryz.prog 267 [.l (l.map Fa) b,.f (.func 238) [] [.rp [.f (.func g) fi ca]]] (eI (Nf q l 0)):=by
 refine Pure.fit (by kernel_rfl) fun hf=>?_
 have hl:l.length≤Ac:=by
  have:=hf.1;simp only[EZ,BD]at this;exact this.1
 have hM:=Mx;refine kW kZ ?_;have hs:=Sn
 conv=>whnf
 repeat'((first|apply st|(apply sq;intro K U)|(apply si;intro A B Y Z)|(apply Y;clear Z B Y A)|(apply U;clear U K)|fail)<;>conv=>whnf)
 refine B4 l.length (fun k (_:Unit)=>[(8,eI (A3 k))]) (fun _ _=>[]) (fun k _=>Nf q l 0=Nf q (l.drop k) k) () rfl rfl hs ?_;clear hs;rintro k - σ hk hn hs;have hck:A3 k=k:=AL (by omega);rcases BE l hk with⟨x,hx,hlt⟩|hke
 ·have c1:=Vo hpf x
  rw[drop_cons hx,Nf]at hn;cases hv:q x<;>rw[hv]at c1 hn
  ·conv=>whnf
   repeat'((first|apply st|(apply sq;intro K U)|(apply si;intro A B Y Z)|(apply Y;clear Z B Y A)|(apply U;clear U K)|refine⟨rfl,?_⟩|refine⟨kZ,?_⟩|refine ix ?_|refine E2 ?_|(refine CA (fun hc=>?_)<;>(try rw[hc])<;>clear hc)|refine Bp (c1.use ?_)|clear U K)<;>conv=>whnf)
   exact AI (by rw[hn,if_neg (by decide),hck])
  ·conv=>whnf
   repeat'((first|apply st|(apply sq;intro K U)|(apply si;intro A B Y Z)|(apply Y;clear Z B Y A)|(apply U;clear U K)|refine⟨rfl,?_⟩|refine⟨kZ,?_⟩|refine ix ?_|refine D2 ?_|(refine CA (fun hc=>?_)<;>(try rw[hc])<;>clear hc)|refine Bp (c1.use ?_)|clear U K)<;>conv=>whnf)
   exact⟨hlt,(),rfl,by rw[hn,if_pos rfl],hs⟩
 ·conv=>whnf
  repeat'((first|apply st|(apply sq;intro K U)|(apply si;intro A B Y Z)|(apply Y;clear Z B Y A)|(apply U;clear U K)|refine⟨rfl,?_⟩|(refine DU (fun hc=>?_)<;>(try rw[hc])<;>clear hc)|clear U K)<;>conv=>whnf)
  exact AI (by rw[hn,Ag hke];rfl)
def UL {g:FuncId} {fi ca:List V} {q:Ob→Bool} (hpf:Nv g fi ca q) (l:List Ob) (b:Bool):Pure Tryz.prog 237 [.l (l.map Fa) b,.f (.func 238) [] [.rp [.f (.func g) fi ca]]] (.b (!l.all q)):=by
 have c1:=bt hpf l b;refine lG kZ ?_;have hs:=Sn
 conv=>whnf
 repeat'((first|apply st|(apply sq;intro K U)|(apply si;intro A B Y Z)|(apply Y;clear Z B Y A)|(apply U;clear U K)|refine⟨rfl,?_⟩|refine c1.use ?_|fail)<;>conv=>whnf)
 all_goals exact AI (by rw[←OR q l 0])
def oW {g:FuncId} {fi ca:List V} {q:Ob→Bool} (hpf:Nv g fi ca q) (l:List Ob) (b:Bool):Pure Tryz.prog 186 [.l (l.map Fa) b,.f (.func g) fi ca] (.b (l.all q)):=by
 have c1:=UL hpf l b;refine mC kZ ?_;have hs:=Sn
 conv=>whnf
 repeat'((first|apply st|(apply sq;intro K U)|(apply si;intro A B Y Z)|(apply Y;clear Z B Y A)|(apply U;clear U K)|refine c1.use ?_|fail)<;>conv=>whnf)
 all_goals exact AI (by rw[Bool.not_not])
def Vq (os:List Ob) (f:Bool) (v:Int×Int):Pure Tryz.prog 189 [.a (pI v),.rp [.l (os.map Fa) f]] (.b (Bz os.length v)):=by
 have e3:((os.map Fa).length:Int)=os.length:=by simp
 have c1:Pure Tryz.prog 149 [.a (pI v),eI ((os.map Fa).length:Int)] (.b (Bz os.length v)):=by rw[e3];exact S1 v os.length
 refine mA kZ ?_;have hs:=Sn
 conv=>whnf
 repeat'((first|apply st|(apply sq;intro K U)|(apply si;intro A B Y Z)|(apply Y;clear Z B Y A)|(apply U;clear U K)|refine⟨kZ,?_⟩|refine c1.use ?_|fail)<;>conv=>whnf)
 all_goals exact AI rfl
set_option maxHeartbeats 1000000 in
def Vr (w:AK) (hw:CS w) (hw2:Ja w) (os:List Ob) (f:Bool) (o:Ob):Pure Tryz.prog 187 [.a (Fa o),.rp [.rp (wC w (CG w.parents))],.rp [.l (os.map Fa) f]] (.b (Lk w os.length o)):=by
 refine Pure.fit (by kernel_rfl) fun hf=>?_
 have hM:=Mx;have c1:Pure Tryz.prog 178 [.rp (wC w (CG w.parents)),eI o.1] (.b (RD w o.1)):=eK w (CG w.parents) o.1 hw2.len;have c3:=aO (g:=189) (fi:=[]) (ca:=[.rp [.l (os.map Fa) f]]) (Vq os f) o.2 false;cases ho:RD w o.1<;>rw[ho]at c1
 ·refine Us kZ ?_
  have hs:=Sn
  conv=>whnf
  repeat'((first|apply st|(apply sq;intro K U)|(apply si;intro A B Y Z)|(apply Y;clear Z B Y A)|(apply U;clear U K)|apply dr|refine rk ?_ ?_|exact fun s e=>by cases e;rfl|refine c1.use ?_|fail)<;>conv=>whnf)
  all_goals exact AI (by rw[Lk,ho];rfl)
 ·have hor:=ho
  simp only[RD,BZ,CY]at hor;have c2:=TD w o.1 hw hw2 hor.1 hor.2;have hob:Lk w os.length o=(o.2.length==(Ca w o.1).length&&o.2.all (Bz os.length)):=by rw[Lk,ho,Ey]
  rw[hob];clear hob;generalize Ca w o.1=ss at *;by_cases he:o.2.length=ss.length
  ·rw[Dn.2 he,Ey]
   refine Us kZ ?_;have hs:=Sn
   conv=>whnf
   repeat'((first|apply st|(apply sq;intro K U)|(apply si;intro A B Y Z)|(apply Y;clear Z B Y A)|(apply U;clear U K)|apply dr|refine rk ?_ ?_|exact fun s e=>by cases e;rfl|refine⟨rfl,?_⟩|refine c1.use ?_|refine c2.use ?_|refine c3.use ?_|(constructor<;>intro hc<;>(try rw[hc])<;>(replace hc:=bp hc)<;>(try simp(disch:=omega) only[BD,wrap64,AL]at hc)<;>try(exfalso;omega))|fail)<;>conv=>whnf)
   all_goals first
    | exact AI rfl
    | (exfalso;simp[he]at hc;done)
    | (exfalso;simp at hc;omega)
  ·rw[beq_eq_false_iff_ne.2 he,Bool.false_and]
   refine Us kZ ?_;have hs:=Sn
   conv=>whnf
   repeat'((first|apply st|(apply sq;intro K U)|(apply si;intro A B Y Z)|(apply Y;clear Z B Y A)|(apply U;clear U K)|apply dr|refine rk ?_ ?_|exact fun s e=>by cases e;rfl|refine⟨rfl,?_⟩|refine c1.use ?_|refine c2.use ?_|(constructor<;>intro hc<;>(try rw[hc])<;>(replace hc:=bp hc)<;>(try simp(disch:=omega) only[BD,wrap64,AL]at hc)<;>try(exfalso;omega))|fail)<;>conv=>whnf)
   all_goals first
    | exact AI rfl
    | (exfalso;simp at hc;omega)
def Xk (w:AK) (hw:CS w) (hw2:Ja w) (os:List Ob) (f:Bool):Pure Tryz.prog 146 [.rp (wC w (CG w.parents)),.l (os.map Fa) f] (.b (Fe w os)):=by
 refine Pure.fit (by kernel_rfl) fun hf=>?_
 have hM:=Mx;have c1:=oW (g:=187) (fi:=[]) (ca:=[.rp [.rp (wC w (CG w.parents))],.rp [.l (os.map Fa) f]]) (Vr w hw hw2 os f) os f;by_cases h40:os.length≤40
 ·have e0:Fe w os=os.all (Lk w os.length):=by rw[Fe,decide_eq_true h40,Ey]
  rw[e0];refine aE kZ ?_;have hs:=Sn
  conv=>whnf
  repeat'((first|apply st|(apply sq;intro K U)|(apply si;intro A B Y Z)|(apply Y;clear Z B Y A)|(apply U;clear U K)|refine⟨rfl,?_⟩|refine c1.use ?_|(constructor<;>intro hc<;>(try rw[hc])<;>(replace hc:=bp hc)<;>(try simp(disch:=omega) only[BD,wrap64,AL]at hc)<;>try(exfalso;omega))|fail)<;>conv=>whnf)
  all_goals exact AI rfl
 ·refine aE kZ ?_
  have hs:=Sn
  conv=>whnf
  repeat'((first|apply st|(apply sq;intro K U)|(apply si;intro A B Y Z)|(apply Y;clear Z B Y A)|(apply U;clear U K)|refine⟨rfl,?_⟩|(constructor<;>intro hc<;>(try rw[hc])<;>(replace hc:=bp hc)<;>(try simp(disch:=omega) only[BD,wrap64,AL]at hc)<;>try(exfalso;omega))|fail)<;>conv=>whnf)
  all_goals exact AI (by rw[Fe,decide_eq_false h40];rfl)
def Jf (w:AK) (os:List Ob) (args:List (Int×Int)):Bool:=Fe w os&&(decide (1≤args.length)&&(decide (args.length≤3)&&args.all (Bz os.length)))
def Qd (w:AK) (hw:CS w) (hw2:Ja w) (os:List Ob) (f:Bool) (args:List (Int×Int)) (g:Bool):Pure Tryz.prog 115 [.rp (wC w (CG w.parents)),.l (os.map Fa) f,.l (pP args) g] (.b (Jf w os args)):=by
 refine Pure.fit (by kernel_rfl) fun hf=>?_
 have hM:=Mx;have c1:=Xk w hw hw2 os f;have c2:=aO (g:=148) (fi:=[]) (ca:=[.rp [.l (os.map Fa) f]]) (Vs os f) args g;rw[Jf];cases ho:Fe w os<;>rw[ho]at c1
 ·refine RX kZ ?_
  have hs:=Sn
  conv=>whnf
  repeat'((first|apply st|(apply sq;intro K U)|(apply si;intro A B Y Z)|(apply Y;clear Z B Y A)|(apply U;clear U K)|refine c1.use ?_|fail)<;>conv=>whnf)
  all_goals exact AI rfl
 ·by_cases h1:1≤args.length
  ·by_cases h3:args.length≤3
   ·rw[decide_eq_true h1,decide_eq_true h3,Ey,Ey,Ey]
    refine RX kZ ?_;have hs:=Sn
    conv=>whnf
    repeat'((first|apply st|(apply sq;intro K U)|(apply si;intro A B Y Z)|(apply Y;clear Z B Y A)|(apply U;clear U K)|refine⟨rfl,?_⟩|refine c1.use ?_|refine c2.use ?_|(constructor<;>intro hc<;>(try rw[hc])<;>(replace hc:=bp hc)<;>(try simp(disch:=omega) only[BD,wrap64,AL]at hc)<;>try(exfalso;omega))|fail)<;>conv=>whnf)
    all_goals exact AI rfl
   ·rw[decide_eq_true h1,decide_eq_false h3,Ey,Bool.false_and,Bool.and_false]
    refine RX kZ ?_;have hs:=Sn
    conv=>whnf
    repeat'((first|apply st|(apply sq;intro K U)|(apply si;intro A B Y Z)|(apply Y;clear Z B Y A)|(apply U;clear U K)|refine⟨rfl,?_⟩|refine c1.use ?_|(constructor<;>intro hc<;>(try rw[hc])<;>(replace hc:=bp hc)<;>(try simp(disch:=omega) only[BD,wrap64,AL]at hc)<;>try(exfalso;omega))|fail)<;>conv=>whnf)
    all_goals exact AI rfl
  ·rw[decide_eq_false h1,Bool.false_and,Bool.and_false]
   refine RX kZ ?_;have hs:=Sn
   conv=>whnf
   repeat'((first|apply st|(apply sq;intro K U)|(apply si;intro A B Y Z)|(apply Y;clear Z B Y A)|(apply U;clear U K)|refine⟨rfl,?_⟩|refine c1.use ?_|(constructor<;>intro hc<;>(try rw[hc])<;>(replace hc:=bp hc)<;>(try simp(disch:=omega) only[BD,wrap64,AL]at hc)<;>try(exfalso;omega))|fail)<;>conv=>whnf)
   all_goals exact AI rfl
def W8 {x:Int}: ∀(xs:List Int) (k i:Nat),xs[i]? =some x→(∀j y,j<i→xs[j]? =some y→y≠x)→(Bo (fun y (_:Unit)=>(x==y,())) xs k ()).1=((k+i:Nat):Int)
 | [],_,_,h,_=>by simp at h
 | y::r,k,0,h,_=>by
   obtain rfl:y=x:=by simpa using h
   simp[Bo]
 | y::r,k,i+1,h,hn=>by
   have hy:=hn 0 y (Nat.succ_pos i) rfl;rw[Bo,if_neg (by simpa using fun e:x=y=>hy e.symm)];rw[W8 r (k+1) i (by simpa using h) fun j z hj hz=>hn (j+1) z (by omega) (by simpa using hz)];omega
set_option maxHeartbeats 1000000 in
def rB (w:AK) (os:List Ob) (f:Bool) (v:Int×Int) (l:List Int) (g:Bool) (hg:CS w) (hw:Ja w) (hos:RE w os) (hv:Bz os.length v=true) (hl: ∀s∈l,0≤s∧s<(w.owner.length:Int)) :
    Pure Tryz.prog 151 [.rp (wC w (CG w.parents)),.l (os.map Fa) f,.a (pI v),.l (iL l) g] (xf (UW w os l v)):=by
 refine Pure.fit (by kernel_rfl) fun hf=>?_
 have hll:=Iu hf.2.2.2.1;have hM:=Mx;have ho4:=hos.len;have hol:=hw.ZI;refine ml kZ ?_;have hs:=Sn
 conv=>whnf
 repeat'((first|apply st|(apply sq;intro K U)|(apply si;intro A B Y Z)|(apply Y;clear Z B Y A)|(apply U;clear U K)|(intro nn hnn;generalize hg:A6 _ nn _=σ;refine CW hg fun hs=>?_;clear hg)|fail)<;>conv=>whnf)
 rename_i nV _ _ _;refine B4 l.length (fun k (_:Int×Int)=>[(14,eI (A3 k))]) (fun _ v=>[.box nn [eI 0,eI 0],.box nV (pI v)]) (fun k u=>Bz os.length u=true∧UW w os l v=UW w os (l.drop k) u) v rfl ⟨hv,rfl⟩ hs ?_;clear hs;rintro k ⟨vk,vn⟩ σ hk ⟨hu,hn⟩ hs;rcases BE l hk with⟨s,hsl,hlt⟩|hke
 ·have hsr:=hl s (B1 hsl)
  rw[drop_cons hsl,UW]at hn;by_cases h3:vk=3
  ·obtain⟨o,ho1,ho2,ho3⟩:=JE hu h3
   have hoo:=hos.own o ho3;have hnr:=Ku hu h3;dsimp only at ho1 ho2 hnr;have c1:=Zy w hg o.1 s hoo.1 hoo.2 hsr.1 hsr.2;rw[←Wu hg hw hoo.1 hoo.2 hsr.1 hsr.2]at c1;rw[ho2,show((vk,vn).1==3)=true by simp[h3],Ey]at hn;cases hh:hasB w o.1 s<;>rw[hh]at c1 hn
   ·rw[if_neg (by decide)]at hn
    conv=>whnf
    repeat'((first|apply st|(apply sq;intro K U)|(apply si;intro A B Y Z)|(apply Y;clear Z B Y A)|(apply U;clear U K)|refine⟨rfl,?_⟩|refine⟨kZ,?_⟩|refine ix ?_|refine FE ?_|refine ld ?_|refine DB fun σ hs=>?_|refine E2 ?_|(refine CA (fun hc=>?_)<;>(try rw[hc])<;>clear hc)|refine c1.use ?_|(constructor<;>intro hc<;>(try rw[hc])<;>(replace hc:=bp hc)<;>(try simp(disch:=omega) only[BD,wrap64,AL]at hc)<;>try(exfalso;omega))|clear U K)<;>conv=>whnf)
    all_goals exact AI (by rw[hn];rfl)
   ·rw[if_pos rfl]at hn
    obtain⟨i,q1,q2,q3,q4,q5,q6⟩:=N8 hos ho2 ho3 hsr hh;have c2:=TD w o.1 hg hw hoo.1 hoo.2;have c3:=TW (Ca w o.1) false s;rw[show ZJ (Ca w o.1) s=(i:Int) by rw[ZJ,W8 _ 0 i q3 q4,HA]]at c3;have q5':o.2[((i:Nat):Int).toNat]? =some (MW w os s (vk,vn)):=q5;generalize MW w os s (vk,vn)=u2 at *;generalize Ca w o.1=ss at *;clear q2 q3 q4 q5
    conv=>whnf
    repeat'((first|apply st|(apply sq;intro K U)|(apply si;intro A B Y Z)|(apply Y;clear Z B Y A)|(apply U;clear U K)|apply dr|refine rk ?_ ?_|exact fun s e=>by cases e;rfl|refine⟨rfl,?_⟩|refine⟨kZ,?_⟩|refine ix ?_|refine FE ?_|refine ld ?_|refine DB fun σ hs=>?_|refine D2 ?_|(refine CA (fun hc=>?_)<;>(try rw[hc])<;>clear hc)|refine c1.use ?_|refine c2.use ?_|refine c3.use ?_|(constructor<;>intro hc<;>(try rw[hc])<;>(replace hc:=bp hc)<;>(try simp(disch:=omega) only[BD,wrap64,AL]at hc)<;>try(exfalso;omega))|clear U K)<;>conv=>whnf)
    exact⟨hlt,u2,rfl,⟨q6,hn⟩,hs⟩
  ·rw[show((vk,vn).1==3)=false by simp[h3],Bool.false_and,if_neg (by decide)]at hn
   conv=>whnf
   repeat'((first|apply st|(apply sq;intro K U)|(apply si;intro A B Y Z)|(apply Y;clear Z B Y A)|(apply U;clear U K)|refine⟨rfl,?_⟩|refine⟨kZ,?_⟩|refine ix ?_|refine ld ?_|refine DB fun σ hs=>?_|(refine CA (fun hc=>?_)<;>(try rw[hc])<;>clear hc)|(constructor<;>intro hc<;>(try rw[hc])<;>(replace hc:=bp hc)<;>(try simp(disch:=omega) only[BD,wrap64,AL]at hc)<;>try(exfalso;omega))|clear U K)<;>conv=>whnf)
   all_goals exact AI (by rw[hn];rfl)
 ·rw[Ag hke,UW]at hn
  conv=>whnf
  repeat'((first|apply st|(apply sq;intro K U)|(apply si;intro A B Y Z)|(apply Y;clear Z B Y A)|(apply U;clear U K)|refine⟨rfl,?_⟩|refine⟨kZ,?_⟩|refine ld ?_|refine DB fun σ hs=>?_|(refine DU (fun hc=>?_)<;>(try rw[hc])<;>clear hc)|clear U K)<;>conv=>whnf)
  all_goals exact AI (by rw[hn];rfl)
end Go.Gl
namespace Go.Gl
open Go.Proofs
def fh {w:AK} (ho:ordered w.parents) {c b:Int} (h0:0≤c) (h1:c<3+w.parents.length) (hb:0≤b):M5 w.parents c b=((CG w.parents).getD c.toNat 0).testBit b.toNat:=by
 rw[N5 ho (by omega),M5];have e0:(b.toNat==0)=(b==0):=by rw[Le];simp only[Dn];omega
 rw[e0];by_cases h3:3≤c
 ·rw[decide_eq_true h3,Ey]
  by_cases h:c=b
  ·subst h;rw[Fj ho];simp
  ·rw[beq_eq_false_iff_ne.2 h,Bool.false_or]
 ·have hp:par w.parents c.toNat= []:=if_pos (by omega)
  rw[decide_eq_false h3,Bool.false_and,Bool.or_false,E4 ho,hp];have:(c.toNat==b.toNat)=(c==b):=by rw[Le];simp only[Dn];omega
  rw[this,List.any_nil,Bool.or_false,Bool.or_comm]
def dg {w:AK} (hw:CS w) {c:Int} (h0:0≤c) (h1:c<3+w.parents.length):(List.drop (c.toNat*1) (List.drop 2 (wC w (CG w.parents))))[0]? =some (eU ((CG w.parents).getD c.toNat 0)):=by
 have hul:(CG w.parents).length=3+w.parents.length:=En _ _;rw[c0,c0,←V7 w (CG w.parents) (i:=c.toNat) (by omega)];congr 1;omega
def nz {w:AK} {os:List Ob} (hos:RE w os) {v:Int×Int} (hv:Bz os.length v=true):0≤Ij os v∧Ij os v<3+w.parents.length:=by
 rw[Ij];split
 ·omega
 split
 ·omega
 ·rename_i h1 h2
  have h3:v.1=3:=by
   simp only[Bz,if_neg h1,if_neg h2]at hv;split at hv
   ·assumption
   ·cases hv
  obtain⟨o,q1,q2,q3⟩:=JE hv h3;have:=hos.own o q3;have e:os.getD v.2.toNat (0,[])=o:=q2;rw[e];omega
def ij {n:Int} {v:Int×Int} (hv:Bz n v=true):v.1=1∨v.1=2∨v.1=3:=by
 rw[Bz]at hv;by_cases h1:v.1=1
 ·exact .inl h1
 by_cases h2:v.1=2
 ·exact .inr (.inl h2)
 by_cases h3:v.1=3
 ·exact .inr (.inr h3)
 rw[if_neg h1,if_neg h2,if_neg h3]at hv;cases hv
def pf {op un n:Int} (h:op=3∨op=4) (hc:((un==n)==(op==4))=true):(if op=3 then decide (un<n)else un==n)=decide (un≤n):=by
 rcases h with rfl|rfl
 ·have:un≠n:=by simpa using hc
  rw[if_pos rfl,decide_eq_decide];omega
 ·have:un=n:=by simpa using hc
  subst this;simp
def pg {op un n:Int} (h:op=3∨op=4) (hc:((un==n)==(op==4))=false):(if op=3 then decide (un<n)else un==n)=false:=by
 rcases h with rfl|rfl
 ·have:un=n:=by simpa using hc
  subst this;simp
 ·have:un≠n:=by simpa using hc
  simpa using this
attribute [local irreducible] BL A5 Aj AW AN Ai AV AX AO Ah AS AU BA BK Sat Ad BH Al W
set_option maxHeartbeats 1000000 in
def bw (w : AK) (os:List Ob) (b:Bool) (args:List (Int×Int)) (g:Bool) (hg:CS w) (hw:Ja w) (hos:RE w os) (hv: ∀v∈args,Bz os.length v=true) (f:Fact):Bi w f=true→DF f≤args.length→
    Pure Tryz.prog 117 [.rp (wC w (CG w.parents)),.a (xF f),.l (os.map Fa) b,.l (pP args) g] (.b (CF w os args f)):=by
 induction f using Fact.ind with
 | h f ih=>
   intro hn hsp;refine Pure.fit (by kernel_rfl) fun hf=>?_
   have⟨h2,h3,h4⟩:=HO hf.2.1;have hM:=Mx;have hwl:=hw.len;rw[TX,Sq];rcases Ou hn with h1|⟨h5,x,hk,hx⟩|⟨h6,x,y,hk,hx,hy⟩|⟨h7,x,y,hk,hx,hy⟩|⟨hop,hlf,hp,hcl,ha0⟩
   ·refine Hq kZ ?_
    have hs:=Sn
    conv=>whnf
    repeat'((first|apply st|(apply sq;intro K U)|(apply si;intro A B Y Z)|(apply Y;clear Z B Y A)|(apply U;clear U K)|refine⟨rfl,?_⟩|(constructor<;>intro hc<;>(try rw[hc])<;>(replace hc:=bp hc)<;>try(exfalso;omega))|clear U K)<;>conv=>whnf)
    all_goals exact AI (by rw[if_pos h1])
   ·have c1:=ih x (by rw[hk];exact .head _) hx (Int.le_trans (DZ (by rw[hk];exact .head _)) hsp)
    have e:(f.kids.map (CF w os args)).getD 0 false=CF w os args x:=by rw[hk];rfl
    have hk0:f.kids[0]? =some x:=by rw[hk];rfl
    rw[if_neg (by omega),if_pos h5,e];clear e hk;refine Hq kZ ?_;have hs:=Sn
    conv=>whnf
    repeat'((first|apply st|(apply sq;intro K U)|(apply si;intro A B Y Z)|(apply Y;clear Z B Y A)|(apply U;clear U K)|refine⟨rfl,?_⟩|refine⟨kZ,?_⟩|refine Lg ?_|refine c1.use ?_|(constructor<;>intro hc<;>(try rw[hc])<;>(replace hc:=bp hc)<;>try(exfalso;omega))|clear U K)<;>conv=>whnf)
    all_goals exact AI rfl
   ·have c1:=ih x (by rw[hk];exact .head _) hx (Int.le_trans (DZ (by rw[hk];exact .head _)) hsp)
    have c2:=ih y (by rw[hk];exact .tail _ (.head _)) hy (Int.le_trans (DZ (by rw[hk];exact .tail _ (.head _))) hsp);have e:(f.kids.map (CF w os args)).getD 0 false=CF w os args x:=by rw[hk];rfl
    have e2:(f.kids.map (CF w os args)).getD 1 false=CF w os args y:=by rw[hk];rfl
    have hk0:f.kids[0]? =some x:=by rw[hk];rfl
    have hk1:f.kids[1]? =some y:=by rw[hk];rfl
    rw[if_neg (by omega),if_neg (by omega),if_pos h6,e,e2];clear e e2 hk;cases hb:CF w os args x<;>rw[hb]at c1
    all_goals
     refine Hq kZ ?_;have hs:=Sn
     conv=>whnf
     repeat'((first|apply st|(apply sq;intro K U)|(apply si;intro A B Y Z)|(apply Y;clear Z B Y A)|(apply U;clear U K)|refine⟨rfl,?_⟩|refine⟨kZ,?_⟩|refine Lg ?_|refine Lo ?_|refine c1.use ?_|refine c2.use ?_|(constructor<;>intro hc<;>(try rw[hc])<;>(replace hc:=bp hc)<;>try(exfalso;omega))|clear U K)<;>conv=>whnf)
     all_goals exact AI rfl
   ·have c1:=ih x (by rw[hk];exact .head _) hx (Int.le_trans (DZ (by rw[hk];exact .head _)) hsp)
    have c2:=ih y (by rw[hk];exact .tail _ (.head _)) hy (Int.le_trans (DZ (by rw[hk];exact .tail _ (.head _))) hsp);have e:(f.kids.map (CF w os args)).getD 0 false=CF w os args x:=by rw[hk];rfl
    have e2:(f.kids.map (CF w os args)).getD 1 false=CF w os args y:=by rw[hk];rfl
    have hk0:f.kids[0]? =some x:=by rw[hk];rfl
    have hk1:f.kids[1]? =some y:=by rw[hk];rfl
    rw[if_neg (by omega),if_neg (by omega),if_neg (by omega),if_pos h7,e,e2];clear e e2 hk;cases hb:CF w os args x<;>rw[hb]at c1
    all_goals
     refine Hq kZ ?_;have hs:=Sn
     conv=>whnf
     repeat'((first|apply st|(apply sq;intro K U)|(apply si;intro A B Y Z)|(apply Y;clear Z B Y A)|(apply U;clear U K)|refine⟨rfl,?_⟩|refine⟨kZ,?_⟩|refine Lg ?_|refine Lo ?_|refine c1.use ?_|refine c2.use ?_|(constructor<;>intro hc<;>(try rw[hc])<;>(replace hc:=bp hc)<;>try(exfalso;omega))|clear U K)<;>conv=>whnf)
     all_goals exact AI rfl
   ·have hsl:=Og hlf
    rw[if_neg (by omega),if_neg (by omega),if_neg (by omega),if_neg (by omega),ZX];obtain⟨v,hva⟩: ∃v,args[f.arg.toNat]? =some v:=⟨_,Ct (by omega)⟩
    have hvd:args.getD f.arg.toNat (0,0)=v:=by rw[DK,hva];rfl
    have hvv:=hv v (B1 hva);rw[hvd];have c1:=rB w os b v f.path false hg hw hos hvv hp;have hok:=fun u=>Uv (u:=u) hos hp hvv
    clear hvd;cases hu:UW w os f.path v with
    | none=>
      rw[hu]at c1;replace c1:Pure Tryz.prog 151 [.rp (wC w (CG w.parents)),.l (os.map Fa) b,.a (pI v),.l (iL f.path) false] (.t [.a (pI (0,0)),.b false]):=c1;refine Hq kZ ?_;have hs:=Sn
      conv=>whnf
      repeat'((first|apply st|(apply sq;intro K U)|(apply si;intro A B Y Z)|(apply Y;clear Z B Y A)|(apply U;clear U K)|apply dr|refine⟨rfl,?_⟩|refine⟨kZ,?_⟩|refine FE ?_|refine DB fun σ hs=>?_|refine E2 ?_|refine⟨_,c1,?_⟩|(constructor<;>intro hc<;>(try rw[hc])<;>(replace hc:=bp hc)<;>try(exfalso;omega))|(intro nn hnn;generalize hg:A6 _ nn _=σ;refine CW hg fun hs=>?_;clear hg)|clear U K)<;>conv=>whnf)
      all_goals exact AI rfl
    | some u=>
      rw[hu]at c1;have hu2:=hok u hu;clear hok hu;replace c1:Pure Tryz.prog 151 [.rp (wC w (CG w.parents)),.l (os.map Fa) b,.a (pI v),.l (iL f.path) false] (.t [.a (pI u),.b true]):=c1;by_cases h2:f.op=2
      ·have hcr:=nz hos hu2
       have hfc:=hcl h2;have hup:=dg hg hcr.1 hcr.2;have hbb:=fh hw.ord hcr.1 hcr.2 hfc.1;have c2:=Wv ((CG w.parents).getD (Ij os u).toNat 0) f.cls (Lv (HS _ _ (by have:=hg.1.1;omega)) _) hfc.1 (by omega);have hkk:=ij hu2;dsimp only;rw[if_pos h2];rw[hbb];by_cases h3:u.1=3
       ·obtain⟨o,q1,q2,q3⟩:=JE hu2 h3
        have hnr:=Ku hu2 h3
        have hce:Ij os u=o.1:=by
         rw[Ij,if_neg (by omega),if_neg (by omega)];exact congrArg Prod.fst q2
        rw[hce]at hcr hup c2 ⊢;clear hce hbb hcl hv hvv ih h4 hp hn q2;generalize CG w.parents=us at *;obtain⟨uk,un⟩:=u;dsimp only at h3 q1 hnr;refine Hq kZ ?_;have hs:=Sn
        conv=>whnf
        repeat'((first|apply st|(apply sq;intro K U)|(apply si;intro A B Y Z)|(apply Y;clear Z B Y A)|(apply U;clear U K)|apply dr|refine⟨rfl,?_⟩|refine⟨kZ,?_⟩|refine oz ?_|refine FE ?_|refine ld ?_|refine DB fun σ hs=>?_|refine D2 ?_|refine⟨_,c1,?_⟩|(constructor<;>intro hc<;>(try rw[hc])<;>(replace hc:=bp hc)<;>(try simp(disch:=omega) only[BD,wrap64,AL]at hc)<;>try(exfalso;omega))|(intro nn hnn;generalize hg:A6 _ nn _=σ;refine CW hg fun hs=>?_;clear hg)|fail)<;>conv=>whnf)
        rw[hup]
        conv=>whnf
        repeat'((first|apply st|(apply Y;clear Z B Y A)|(apply U;clear U K)|apply dr|refine c2.use ?_|clear U K)<;>conv=>whnf)
        all_goals exact AI rfl
       ·have hce:Ij os u=u.1:=by
         rw[Ij];split
         ·omega
         ·rw[if_pos (by omega)];omega
        rw[hce]at hcr hup c2 ⊢;clear hce hbb hcl hv hvv ih h4 hp hn;generalize CG w.parents=us at *;obtain⟨uk,un⟩:=u;dsimp only at *;refine Hq kZ ?_;have hs:=Sn
        conv=>whnf
        repeat'((first|apply st|(apply sq;intro K U)|(apply si;intro A B Y Z)|(apply Y;clear Z B Y A)|(apply U;clear U K)|apply dr|refine⟨rfl,?_⟩|refine⟨kZ,?_⟩|refine oz ?_|refine FE ?_|refine ld ?_|refine DB fun σ hs=>?_|refine D2 ?_|refine⟨_,c1,?_⟩|(constructor<;>intro hc<;>(try rw[hc])<;>(replace hc:=bp hc)<;>(try simp(disch:=omega) only[BD,wrap64,AL]at hc)<;>try(exfalso;omega))|(intro nn hnn;generalize hg:A6 _ nn _=σ;refine CW hg fun hs=>?_;clear hg)|fail)<;>conv=>whnf)
        rw[hup]
        conv=>whnf
        repeat'((first|apply st|(apply Y;clear Z B Y A)|(apply U;clear U K)|apply dr|refine c2.use ?_|fail)<;>conv=>whnf)
        all_goals exact AI rfl
      ·dsimp only
       rw[if_neg h2];clear hv hvv ih h4 hp hn hcl;obtain⟨uk,un⟩:=u;dsimp only at *;by_cases hk:uk=1
       ·rw [Dn.2 hk,Ey]
        have h34:f.op=3∨f.op=4:=by omega
        have hT:=fun hc=>pf (un:=un) (n:=f.n) h34 hc
        have hF:=fun hc=>pg (un:=un) (n:=f.n) h34 hc
        refine Hq kZ ?_;have hs:=Sn
        conv=>whnf
        repeat'((first|apply st|(apply sq;intro K U)|(apply si;intro A B Y Z)|(apply Y;clear Z B Y A)|(apply U;clear U K)|apply dr|refine⟨rfl,?_⟩|refine⟨kZ,?_⟩|refine FE ?_|refine ld ?_|refine DB fun σ hs=>?_|refine D2 ?_|refine⟨_,c1,?_⟩|(constructor<;>intro hc<;>(try rw[hc])<;>(replace hc:=bp hc)<;>(try simp(disch:=omega) only[BD,wrap64,AL]at hc)<;>try(exfalso;omega))|(intro nn hnn;generalize hg:A6 _ nn _=σ;refine CW hg fun hs=>?_;clear hg)|clear U K)<;>conv=>whnf)
        all_goals
         refine AI ?_
         first
          | (rw[hT (by assumption)];rfl)
          | (rw[hF (by assumption)];rfl)
       ·rw[beq_eq_false_iff_ne.2 hk,Bool.false_and]
        refine Hq kZ ?_;have hs:=Sn
        conv=>whnf
        repeat'((first|apply st|(apply sq;intro K U)|(apply si;intro A B Y Z)|(apply Y;clear Z B Y A)|(apply U;clear U K)|apply dr|refine⟨rfl,?_⟩|refine⟨kZ,?_⟩|refine FE ?_|refine ld ?_|refine DB fun σ hs=>?_|refine D2 ?_|refine⟨_,c1,?_⟩|(constructor<;>intro hc<;>(try rw[hc])<;>(replace hc:=bp hc)<;>(try simp(disch:=omega) only[BD,wrap64,AL]at hc)<;>try(exfalso;omega))|(intro nn hnn;generalize hg:A6 _ nn _=σ;refine CW hg fun hs=>?_;clear hg)|clear U K)<;>conv=>whnf)
        all_goals exact AI rfl
end Go.Gl
namespace Go.Gl
open Go.Proofs
attribute [local irreducible] BL A5 Aj AW AN Ai AV AX AO Ah AS AU BA BK Sat Ad BH Al W
def pX (p:Prog) (L:Nat) (g:Int) (h16:p.methods.length≤16) {S:Type} {fn:Fn} {fi ca:List V} {H:S→List At} (Inv:Nat→S→Prop) {s:S} (h0:Inv 0 s)
    (hsk: ∀k s,k<p.methods.length→(BJ p (k:Nat)).gen≠g→Inv k s→Inv (k+1) s)
    (hT: ∀(k:Nat) s,k<p.methods.length→(BJ p (k:Nat)).gen=g→Inv k s→ ∀(rest:List At) (σ:AH),Sat σ (H s++rest)→BA Tryz.prog (.f fn fi ca) [eI (k:Int)] σ fun r σ'=> ∃s',r= .ret (.b true)∧Inv (k+1) s'∧Sat σ' (H s'++rest)) (σ:AH) (hs:Sat σ (H s)) :
    BL Tryz.prog 75 [.f fn fi ca,.rp [Fu p L],.rp [eI g]] σ fun r σ'=> ∃s',r= .ret (.t [])∧Inv p.methods.length s'∧Sat σ' (H s'):=by
 have hM:=Mx;refine qU kZ ?_
 conv=>whnf
 repeat'((first|apply st|(apply sq;intro K U)|(apply si;intro A B Y Z)|(apply Y;clear Z B Y A)|(apply U;clear U K)|fail)<;>conv=>whnf)
 refine B4 p.methods.length (fun k (_:S)=>[(12,eI (A3 k))]) (fun _ s'=>H s') (fun k s'=>Inv k s') s rfl h0 hs ?_;clear hs;rintro k s' σ hk ho hs;rcases BE p.methods hk with⟨x,hx,hlt⟩|hke
 ·have hck:A3 k=k:=AL (by omega)
  have hxe:BJ p (k:Int)=x:=by
   have:=B0 (p:=p) (m:=k) (by simp[A7];omega);rw[IT,hx]at this;exact(Option.some.inj this).symm
  have hsk':=hsk k s' hlt;have hT':=hT k s' hlt;rw[hxe]at hsk' hT';rw[←hck]at hT';by_cases hg:x.gen=g
  ·conv=>whnf
   repeat'((first|apply st|(apply sq;intro K U)|(apply si;intro A B Y Z)|(apply Y;clear Z B Y A)|(apply U;clear U K)|refine⟨rfl,?_⟩|refine⟨kZ,?_⟩|refine ix ?_|refine ld ?_|refine DB fun σ hs=>?_|(refine CA (fun hc=>?_)<;>(try rw[hc])<;>clear hc)|(constructor<;>intro hc<;>(try rw[hc])<;>(replace hc:=bp hc)<;>try(exfalso;omega))|(intro nn hnn;generalize hg:A6 _ nn _=σ;refine CW hg fun hs=>?_;clear hg)|fail)<;>conv=>whnf)
   refine(hT' hg ho [_] σ (Sat.perm hs (List.perm_append_singleton _ _).symm)).mono ?_;rintro r σ ⟨s2,rfl,hi2,hs⟩
   conv=>whnf
   repeat'((first|apply st|(apply si;intro A B Y Z)|(apply Y;clear Z B Y A)|(apply U;clear U K)|refine⟨rfl,?_⟩|refine D2 ?_|fail)<;>conv=>whnf)
   exact⟨hlt,_,rfl,hi2,hs.less (List.sublist_append_left _ _)⟩
  ·conv=>whnf
   repeat'((first|apply st|(apply sq;intro K U)|(apply si;intro A B Y Z)|(apply Y;clear Z B Y A)|(apply U;clear U K)|refine⟨rfl,?_⟩|refine⟨kZ,?_⟩|refine ix ?_|refine ld ?_|refine DB fun σ hs=>?_|(refine CA (fun hc=>?_)<;>(try rw[hc])<;>clear hc)|(constructor<;>intro hc<;>(try rw[hc])<;>(replace hc:=bp hc)<;>try(exfalso;omega))|(intro nn hnn;generalize hg:A6 _ nn _=σ;refine CW hg fun hs=>?_;clear hg)|fail)<;>conv=>whnf)
   exact⟨hlt,_,rfl,hsk' hg ho,hs.less (Jp _ _)⟩
 ·rw[hke]at ho
  conv=>whnf
  repeat'((first|apply st|(apply sq;intro K U)|(apply si;intro A B Y Z)|(apply Y;clear Z B Y A)|(apply U;clear U K)|refine⟨rfl,?_⟩|(refine DU (fun hc=>?_)<;>(try rw[hc])<;>clear hc)|clear U K)<;>conv=>whnf)
  exact AR ⟨_,rfl,ho,hs⟩
def Sm (p:Prog) (L:Nat) (g:Int) (h16:p.methods.length≤16) {nn:Nat} {E:Env} {ok:FuncId→Array Tmp→Code→Code→Nat→Prop} {S:Type} (H:S→List At) (Inv:Nat→S→Prop) (s:S) {σ:AH} (h0:Inv 0 s) (hs:Sat σ (.obj nn (.loop .ready E ok)::H s))
    (hsk: ∀k s,k<p.methods.length→(BJ p (k:Nat)).gen≠g→Inv k s→Inv (k+1) s)
    (hT: ∀(k:Nat) s,k<p.methods.length→(BJ p (k:Nat)).gen=g→Inv k s→ ∀(rest:List At) (σ:AH),Sat σ (.obj nn (.loop .ready E ok)::(H s++rest))→Nj Tryz.prog nn [eI (k:Int)] σ fun r σ'=> ∃s',r= .ret (.b true)∧Inv (k+1) s'∧Sat σ' (.obj nn (.loop .ready E ok)::(H s'++rest)))
    {Q:R→AH→Prop} (hq: ∀s' σ',Inv p.methods.length s'→Sat σ' (.obj nn (.loop .ready E ok)::H s')→Q (.ret (.t [])) σ') :
    BL Tryz.prog 75 [.f (.yield nn) [] [],.rp [Fu p L],.rp [eI g]] σ Q:=
 BL.mono (pX p L g h16 (fn:= .yield nn) (fi:=[]) (ca:=[]) (H:=fun s=> .obj nn (.loop .ready E ok)::H s) Inv h0 hsk (fun k s hk hg hi rest σ hs=>ah (hT k s hk hg hi rest σ hs)) σ hs) fun r σ' ⟨s',e,hi,h⟩=>e ▸ hq s' σ' hi h
def FN (p:Prog) (g:Int) (k:Nat):List Int:=(Bg k).filter fun m=>(BJ p m).gen==g
def Mm (p:Prog) (g:Int) (k:Nat):FN p g (k+1)=if(BJ p (k:Int)).gen==g then FN p g k++[(k:Int)]else FN p g k:=by
 rw[FN,Et,List.filter_append];cases hp:(BJ p (k:Int)).gen==g<;>simp[FN,hp]
def Oz (p:Prog) (g:Int) (k:Nat):(FN p g k).length≤k:=by
 have:=KN (fun m=>(BJ p m).gen==g) (Bg k)
 rwa [DQ]at this
def V0 (p:Prog) (L:Nat) (g:Int) (h16:p.methods.length≤16):Bj Tryz.prog 118 [.l [] true,.f (.func 75) [] [.rp [Fu p L],.rp [eI g]]] [] fun r post=> ∃v,r= .ret v∧post= [.own v 1 (iL (FN p g p.methods.length))]:=by
 intro σ hs;have hM:=Mx;refine aF kZ ?_
 conv=>whnf
 repeat'((first|apply st|(apply sq;intro K U)|(apply si;intro A B Y Z)|(apply Y;clear Z B Y A)|(apply U;clear U K)|(intro nn hnn;generalize hg:A6 _ nn _=σ;refine CW hg fun hs=>?_;clear hg)|fail)<;>conv=>whnf)
 rename_i nb _ _ _;refine Sm p L g h16 (nn:=nn) (fun s:V×List Int=>[.box nb [s.1],.own s.1 1 (iL s.2)]) (fun k s=>s.2=FN p g k) (.l [] true,[]) rfl ((Cx hs 1).perm (IK _ _ _ _)) ?_ ?_ ?_
 ·intro k s hlt hne hi
  rw[Mm,if_neg (by simpa using hne),hi]
 ·clear hs hnn
  rintro k ⟨v,ys⟩ hlt hgk hi rest σ hs;dsimp only at hi hs;have hck:A3 k=k:=AL (by omega);have hl:=Oz p g k;rw[←hi]at hl;have hll:ys.length<Ac∧(ys.length+1)*8≤140737488355328:=by omega
  refine Es (l:=[.box nb [v],.own v 1 (iL ys)]++rest) rfl hs ?_;clear hs;intro σ hs
  conv=>whnf
  repeat'((first|apply st|(apply si;intro A B Y Z)|(apply Y;clear Z B Y A)|refine ld ?_|refine FB fun σ hs=>?_|refine aq fun v σ hs hsl=>?_|clear U K)<;>conv=>whnf)
  intro hn;exact⟨(v,ys++[(k:Int)]),rfl,by rw[Mm,if_pos (by simpa using hgk),hi],hs.Ju hn⟩
 ·clear hs
  rintro⟨v,ys⟩ σ hi hs;dsimp only at hi hs;refine Fk hs fun σ hs=>?_
  conv=>whnf
  repeat'((first|apply st|(apply sq;intro K U)|(apply si;intro A B Y Z)|(apply Y;clear Z B Y A)|(apply U;clear U K)|refine ld ?_|fail)<;>conv=>whnf)
  rw[hi]at hs;exact Ap hs (Jp _ _) (.refl _) fun σ' hs'=>⟨_,⟨v,rfl,rfl⟩,hs'⟩
def Vn (p:Prog) (L:Nat) (g:Int) (h16:p.methods.length≤16):Bj Tryz.prog 84 [.f (.func 75) [] [.rp [Fu p L],.rp [eI g]]] [] fun r post=> ∃v,r= .ret v∧post= [.own v 1 (iL (FN p g p.methods.length))]:=by
 intro σ hs;refine gb kZ ?_
 conv=>whnf
 repeat'((first|(apply sq;intro K U)|(apply si;intro A B Y Z)|(apply Y;clear Z B Y A)|(apply U;clear U K)|fail)<;>conv=>whnf)
 refine(V0 p L g h16).use (rest:=[]) (by simpa using hs) ?_;clear hs;rintro r post σ ⟨v,rfl,rfl⟩ hs
 conv=>whnf
 repeat'((first|apply st|(apply Y;clear Z B Y A)|(apply U;clear U K)|fail)<;>conv=>whnf)
 exact Ap hs (List.sublist_append_left _ _) (.refl _) fun σ' hs'=>⟨_,⟨v,rfl,rfl⟩,hs'⟩
end Go.Gl
