import Derived.Test.YtijbpgdmpejgoaaGreatZ10
import Derived.Test.YtijbpgdmpejgoaaGreatZ11
import Derived.Test.YtijbpgdmpejgoaaGreatZ12
import Derived.Test.YtijbpgdmpejgoaaGreatZ13
import Derived.Test.YtijbpgdmpejgoaaGreatZ14
import Derived.Test.YtijbpgdmpejgoaaGreatZ15
import Derived.Test.YtijbpgdmpejgoaaGreatZ16
set_option linter.all false
set_option linter.defProp false
noncomputable section
namespace Go.Gl
open Go.Proofs
attribute [local irreducible] BC Ax Ai AU AO Ag AV AW AM Af AR AT A0 A9 Sat Ab A6 Ak W
def Ms (g:FuncId) (fi ca:List V) (q:Ob→Bool):Prop:= ∀v,Pure Tryz.prog g (fi++[.a (E6 v)]++ca) (.b (q v))
def Ms.use {g:FuncId} {fi ca:List V} {q:Ob→Bool} (h:Ms g fi ca q) {v:Ob} {σ:AH} {k kp:V→AH→Prop} (hk:k (.b (q v)) σ):A0 Tryz.prog (.f (.func g) fi ca) [.a (E6 v)] σ (qk k kp):=Bl ((h v).use hk)
def Uk {g:FuncId} {fi ca:List V} {q:Ob→Bool} (hpf:Ms g fi ca q) (v:Ob):Pure Tryz.prog 238 [.a (E6 v),.rp [.f (.func g) fi ca]] (.b (!q v)):=by
 refine iw kZ ?_;have hs:=Sn
 conv=>whnf
 repeat'((first|apply st|(apply sq;intro K U)|(apply si;intro A B Y Z)|(apply Y;clear Z B Y A)|(apply U;clear U K)|refine⟨kZ,?_⟩|refine Ms.use hpf ?_|fail)<;>conv=>whnf)
 all_goals exact AI rfl
def Z4 {g:FuncId} {fi ca:List V} {q:Ob→Bool} (hpf:Ms g fi ca q) (l:List Ob) (b:Bool):Pure Tryz.prog 267 [.l (l.map E6) b,.f (.func 238) [] [.rp [.f (.func g) fi ca]]] (eI (Mb q l 0)):=by
 refine Pure.fit (by kernel_rfl) fun hf=>?_
 have hl:l.length≤Ae:=by
  have:=hf.1;simp only[Ed,BQ]at this;exact this.1
 have hM:=Mx;refine iX kZ ?_;have hs:=Sn
 conv=>whnf
 repeat'((first|apply st|(apply sq;intro K U)|(apply si;intro A B Y Z)|(apply Y;clear Z B Y A)|(apply U;clear U K)|fail)<;>conv=>whnf)
 refine CZ l.length (fun k (_:Unit)=>[(8,eI (BL k))]) (fun _ _=>[]) (fun k _=>Mb q l 0=Mb q (l.drop k) k) () rfl rfl hs ?_;clear hs;rintro k - σ hk hn hs;have hck:BL k=k:=AL (by omega);rcases BS l hk with⟨x,hx,hlt⟩|hke
 ·have c1:=Uk hpf x
  rw[drop_cons hx,Mb]at hn;cases hv:q x<;>rw[hv]at c1 hn
  ·conv=>whnf
   repeat'((first|apply st|(apply sq;intro K U)|(apply si;intro A B Y Z)|(apply Y;clear Z B Y A)|(apply U;clear U K)|refine⟨rfl,?_⟩|refine⟨kZ,?_⟩|refine ix ?_|refine E7 ?_|(refine Cs (fun hc=>?_)<;>(try rw[hc])<;>clear hc)|refine Bl (c1.use ?_)|clear U K)<;>conv=>whnf)
   exact AI (by rw[hn,if_neg (by decide),hck])
  ·conv=>whnf
   repeat'((first|apply st|(apply sq;intro K U)|(apply si;intro A B Y Z)|(apply Y;clear Z B Y A)|(apply U;clear U K)|refine⟨rfl,?_⟩|refine⟨kZ,?_⟩|refine ix ?_|refine EA ?_|(refine Cs (fun hc=>?_)<;>(try rw[hc])<;>clear hc)|refine Bl (c1.use ?_)|clear U K)<;>conv=>whnf)
   exact⟨hlt,(),rfl,by rw[hn,if_pos rfl],hs⟩
 ·conv=>whnf
  repeat'((first|apply st|(apply sq;intro K U)|(apply si;intro A B Y Z)|(apply Y;clear Z B Y A)|(apply U;clear U K)|refine⟨rfl,?_⟩|(refine EV (fun hc=>?_)<;>(try rw[hc])<;>clear hc)|clear U K)<;>conv=>whnf)
  exact AI (by rw[hn,An hke];rfl)
def TG {g:FuncId} {fi ca:List V} {q:Ob→Bool} (hpf:Ms g fi ca q) (l:List Ob) (b:Bool):Pure Tryz.prog 237 [.l (l.map E6) b,.f (.func 238) [] [.rp [.f (.func g) fi ca]]] (.b (!l.all q)):=by
 have c1:=Z4 hpf l b;refine iy kZ ?_;have hs:=Sn
 conv=>whnf
 repeat'((first|apply st|(apply sq;intro K U)|(apply si;intro A B Y Z)|(apply Y;clear Z B Y A)|(apply U;clear U K)|refine⟨rfl,?_⟩|refine c1.use ?_|fail)<;>conv=>whnf)
 all_goals exact AI (by rw[←NR q l 0])
def lJ {g:FuncId} {fi ca:List V} {q:Ob→Bool} (hpf:Ms g fi ca q) (l:List Ob) (b:Bool):Pure Tryz.prog 186 [.l (l.map E6) b,.f (.func g) fi ca] (.b (l.all q)):=by
 have c1:=TG hpf l b;refine je kZ ?_;have hs:=Sn
 conv=>whnf
 repeat'((first|apply st|(apply sq;intro K U)|(apply si;intro A B Y Z)|(apply Y;clear Z B Y A)|(apply U;clear U K)|refine c1.use ?_|fail)<;>conv=>whnf)
 all_goals exact AI (by rw[Bool.not_not])
def Um (os:List Ob) (f:Bool) (v:Int×Int):Pure Tryz.prog 189 [.a (pI v),.rp [.l (os.map E6) f]] (.b (Bt os.length v)):=by
 have e3:((os.map E6).length:Int)=os.length:=by simp
 have c1:Pure Tryz.prog 149 [.a (pI v),eI ((os.map E6).length:Int)] (.b (Bt os.length v)):=by rw[e3];exact Rw v os.length
 refine jc kZ ?_;have hs:=Sn
 conv=>whnf
 repeat'((first|apply st|(apply sq;intro K U)|(apply si;intro A B Y Z)|(apply Y;clear Z B Y A)|(apply U;clear U K)|refine⟨kZ,?_⟩|refine c1.use ?_|fail)<;>conv=>whnf)
 all_goals exact AI rfl
set_option maxHeartbeats 1000000 in
def Un (w:AK) (hw:CE w) (hw2:Km w) (os:List Ob) (f:Bool) (o:Ob):Pure Tryz.prog 187 [.a (E6 o),.rp [.rp (wC w (B0 w.parents))],.rp [.l (os.map E6) f]] (.b (Kr w os.length o)):=by
 refine Pure.fit (by kernel_rfl) fun hf=>?_
 have hM:=Mx;have c1:Pure Tryz.prog 178 [.rp (wC w (B0 w.parents)),eI o.1] (.b (Pz w o.1)):=cA w (B0 w.parents) o.1 hw2.len;have c3:=ZB (g:=189) (fi:=[]) (ca:=[.rp [.l (os.map E6) f]]) (Um os f) o.2 false;cases ho:Pz w o.1<;>rw[ho]at c1
 ·refine Tu kZ ?_
  have hs:=Sn
  conv=>whnf
  repeat'((first|apply st|(apply sq;intro K U)|(apply si;intro A B Y Z)|(apply Y;clear Z B Y A)|(apply U;clear U K)|apply dr|refine rk ?_ ?_|exact fun s e=>by cases e;rfl|refine c1.use ?_|fail)<;>conv=>whnf)
  all_goals exact AI (by rw[Kr,ho];rfl)
 ·have hor:=ho
  simp only[Pz,BY,CY]at hor;have c2:=R7 w o.1 hw hw2 hor.1 hor.2;have hob:Kr w os.length o=(o.2.length==(CG w o.1).length&&o.2.all (Bt os.length)):=by rw[Kr,ho,EW]
  rw[hob];clear hob;generalize CG w o.1=ss at *;by_cases he:o.2.length=ss.length
  ·rw[Dn.2 he,EW]
   refine Tu kZ ?_;have hs:=Sn
   conv=>whnf
   repeat'((first|apply st|(apply sq;intro K U)|(apply si;intro A B Y Z)|(apply Y;clear Z B Y A)|(apply U;clear U K)|apply dr|refine rk ?_ ?_|exact fun s e=>by cases e;rfl|refine⟨rfl,?_⟩|refine c1.use ?_|refine c2.use ?_|refine c3.use ?_|(constructor<;>intro hc<;>(try rw[hc])<;>(replace hc:=bp hc)<;>(try simp(disch:=omega) only[BQ,wrap64,AL]at hc)<;>try(exfalso;omega))|fail)<;>conv=>whnf)
   all_goals first
    | exact AI rfl
    | (exfalso;simp[he]at hc;done)
    | (exfalso;simp at hc;omega)
  ·rw[beq_eq_false_iff_ne.2 he,Bool.false_and]
   refine Tu kZ ?_;have hs:=Sn
   conv=>whnf
   repeat'((first|apply st|(apply sq;intro K U)|(apply si;intro A B Y Z)|(apply Y;clear Z B Y A)|(apply U;clear U K)|apply dr|refine rk ?_ ?_|exact fun s e=>by cases e;rfl|refine⟨rfl,?_⟩|refine c1.use ?_|refine c2.use ?_|(constructor<;>intro hc<;>(try rw[hc])<;>(replace hc:=bp hc)<;>(try simp(disch:=omega) only[BQ,wrap64,AL]at hc)<;>try(exfalso;omega))|fail)<;>conv=>whnf)
   all_goals first
    | exact AI rfl
    | (exfalso;simp at hc;omega)
def Wa (w:AK) (hw:CE w) (hw2:Km w) (os:List Ob) (f:Bool):Pure Tryz.prog 146 [.rp (wC w (B0 w.parents)),.l (os.map E6) f] (.b (FC w os)):=by
 refine Pure.fit (by kernel_rfl) fun hf=>?_
 have hM:=Mx;have c1:=lJ (g:=187) (fi:=[]) (ca:=[.rp [.rp (wC w (B0 w.parents))],.rp [.l (os.map E6) f]]) (Un w hw hw2 os f) os f;by_cases h40:os.length≤40
 ·have e0:FC w os=os.all (Kr w os.length):=by rw[FC,decide_eq_true h40,EW]
  rw[e0];refine Y1 kZ ?_;have hs:=Sn
  conv=>whnf
  repeat'((first|apply st|(apply sq;intro K U)|(apply si;intro A B Y Z)|(apply Y;clear Z B Y A)|(apply U;clear U K)|refine⟨rfl,?_⟩|refine c1.use ?_|(constructor<;>intro hc<;>(try rw[hc])<;>(replace hc:=bp hc)<;>(try simp(disch:=omega) only[BQ,wrap64,AL]at hc)<;>try(exfalso;omega))|fail)<;>conv=>whnf)
  all_goals exact AI rfl
 ·refine Y1 kZ ?_
  have hs:=Sn
  conv=>whnf
  repeat'((first|apply st|(apply sq;intro K U)|(apply si;intro A B Y Z)|(apply Y;clear Z B Y A)|(apply U;clear U K)|refine⟨rfl,?_⟩|(constructor<;>intro hc<;>(try rw[hc])<;>(replace hc:=bp hc)<;>(try simp(disch:=omega) only[BQ,wrap64,AL]at hc)<;>try(exfalso;omega))|fail)<;>conv=>whnf)
  all_goals exact AI (by rw[FC,decide_eq_false h40];rfl)
def Iv (w:AK) (os:List Ob) (args:List (Int×Int)):Bool:=FC w os&&(decide (1≤args.length)&&(decide (args.length≤3)&&args.all (Bt os.length)))
def PS (w:AK) (hw:CE w) (hw2:Km w) (os:List Ob) (f:Bool) (args:List (Int×Int)) (g:Bool):Pure Tryz.prog 115 [.rp (wC w (B0 w.parents)),.l (os.map E6) f,.l (pP args) g] (.b (Iv w os args)):=by
 refine Pure.fit (by kernel_rfl) fun hf=>?_
 have hM:=Mx;have c1:=Wa w hw hw2 os f;have c2:=ZB (g:=148) (fi:=[]) (ca:=[.rp [.l (os.map E6) f]]) (Uo os f) args g;rw[Iv];cases ho:FC w os<;>rw[ho]at c1
 ·refine QG kZ ?_
  have hs:=Sn
  conv=>whnf
  repeat'((first|apply st|(apply sq;intro K U)|(apply si;intro A B Y Z)|(apply Y;clear Z B Y A)|(apply U;clear U K)|refine c1.use ?_|fail)<;>conv=>whnf)
  all_goals exact AI rfl
 ·by_cases h1:1≤args.length
  ·by_cases h3:args.length≤3
   ·rw[decide_eq_true h1,decide_eq_true h3,EW,EW,EW]
    refine QG kZ ?_;have hs:=Sn
    conv=>whnf
    repeat'((first|apply st|(apply sq;intro K U)|(apply si;intro A B Y Z)|(apply Y;clear Z B Y A)|(apply U;clear U K)|refine⟨rfl,?_⟩|refine c1.use ?_|refine c2.use ?_|(constructor<;>intro hc<;>(try rw[hc])<;>(replace hc:=bp hc)<;>(try simp(disch:=omega) only[BQ,wrap64,AL]at hc)<;>try(exfalso;omega))|fail)<;>conv=>whnf)
    all_goals exact AI rfl
   ·rw[decide_eq_true h1,decide_eq_false h3,EW,Bool.false_and,Bool.and_false]
    refine QG kZ ?_;have hs:=Sn
    conv=>whnf
    repeat'((first|apply st|(apply sq;intro K U)|(apply si;intro A B Y Z)|(apply Y;clear Z B Y A)|(apply U;clear U K)|refine⟨rfl,?_⟩|refine c1.use ?_|(constructor<;>intro hc<;>(try rw[hc])<;>(replace hc:=bp hc)<;>(try simp(disch:=omega) only[BQ,wrap64,AL]at hc)<;>try(exfalso;omega))|fail)<;>conv=>whnf)
    all_goals exact AI rfl
  ·rw[decide_eq_false h1,Bool.false_and,Bool.and_false]
   refine QG kZ ?_;have hs:=Sn
   conv=>whnf
   repeat'((first|apply st|(apply sq;intro K U)|(apply si;intro A B Y Z)|(apply Y;clear Z B Y A)|(apply U;clear U K)|refine⟨rfl,?_⟩|refine c1.use ?_|(constructor<;>intro hc<;>(try rw[hc])<;>(replace hc:=bp hc)<;>(try simp(disch:=omega) only[BQ,wrap64,AL]at hc)<;>try(exfalso;omega))|fail)<;>conv=>whnf)
   all_goals exact AI rfl
def Vr {x:Int}: ∀(xs:List Int) (k i:Nat),xs[i]? =some x→(∀j y,j<i→xs[j]? =some y→y≠x)→(Bj (fun y (_:Unit)=>(x==y,())) xs k ()).1=((k+i:Nat):Int)
 | [],_,_,h,_=>by simp at h
 | y::r,k,0,h,_=>by
   obtain rfl:y=x:=by simpa using h
   simp[Bj]
 | y::r,k,i+1,h,hn=>by
   have hy:=hn 0 y (Nat.succ_pos i) rfl;rw[Bj,if_neg (by simpa using fun e:x=y=>hy e.symm)];rw[Vr r (k+1) i (by simpa using h) fun j z hj hz=>hn (j+1) z (by omega) (by simpa using hz)];omega
set_option maxHeartbeats 1000000 in
def nz (w:AK) (os:List Ob) (f:Bool) (v:Int×Int) (l:List Int) (g:Bool) (hg:CE w) (hw:Km w) (hos:P0 w os) (hv:Bt os.length v=true) (hl: ∀s∈l,0≤s∧s<(w.owner.length:Int)) :
    Pure Tryz.prog 151 [.rp (wC w (B0 w.parents)),.l (os.map E6) f,.a (pI v),.l (iL l) g] (tt (TS w os l v)):=by
 refine Pure.fit (by kernel_rfl) fun hf=>?_
 have hll:=Jl hf.2.2.2.1;have hM:=Mx;have ho4:=hos.len;have hol:=hw.bN;refine kA kZ ?_;have hs:=Sn
 conv=>whnf
 repeat'((first|apply st|(apply sq;intro K U)|(apply si;intro A B Y Z)|(apply Y;clear Z B Y A)|(apply U;clear U K)|(intro nn hnn;generalize hg:A8 _ nn _=σ;refine CW hg fun hs=>?_;clear hg)|fail)<;>conv=>whnf)
 rename_i nV _ _ _;refine CZ l.length (fun k (_:Int×Int)=>[(14,eI (BL k))]) (fun _ v=>[.box nn [eI 0,eI 0],.box nV (pI v)]) (fun k u=>Bt os.length u=true∧TS w os l v=TS w os (l.drop k) u) v rfl ⟨hv,rfl⟩ hs ?_;clear hs;rintro k ⟨vk,vn⟩ σ hk ⟨hu,hn⟩ hs;rcases BS l hk with⟨s,hsl,hlt⟩|hke
 ·have hsr:=hl s (Cj hsl)
  rw[drop_cons hsl,TS]at hn;by_cases h3:vk=3
  ·obtain⟨o,ho1,ho2,ho3⟩:=IP hu h3
   have hoo:=hos.own o ho3;have hnr:=J4 hu h3;dsimp only at ho1 ho2 hnr;have c1:=Yo w hg o.1 s hoo.1 hoo.2 hsr.1 hsr.2;rw[←Vg hg hw hoo.1 hoo.2 hsr.1 hsr.2]at c1;rw[ho2,show((vk,vn).1==3)=true by simp[h3],EW]at hn;cases hh:hasB w o.1 s<;>rw[hh]at c1 hn
   ·rw[if_neg (by decide)]at hn
    conv=>whnf
    repeat'((first|apply st|(apply sq;intro K U)|(apply si;intro A B Y Z)|(apply Y;clear Z B Y A)|(apply U;clear U K)|refine⟨rfl,?_⟩|refine⟨kZ,?_⟩|refine ix ?_|refine F8 ?_|refine ld ?_|refine DJ fun σ hs=>?_|refine E7 ?_|(refine Cs (fun hc=>?_)<;>(try rw[hc])<;>clear hc)|refine c1.use ?_|(constructor<;>intro hc<;>(try rw[hc])<;>(replace hc:=bp hc)<;>(try simp(disch:=omega) only[BQ,wrap64,AL]at hc)<;>try(exfalso;omega))|clear U K)<;>conv=>whnf)
    all_goals exact AI (by rw[hn];rfl)
   ·rw[if_pos rfl]at hn
    obtain⟨i,q1,q2,q3,q4,q5,q6⟩:=M9 hos ho2 ho3 hsr hh;have c2:=R7 w o.1 hg hw hoo.1 hoo.2;have c3:=SR (CG w o.1) false s;rw[show YD (CG w o.1) s=(i:Int) by rw[YD,Vr _ 0 i q3 q4,Gb]]at c3;have q5':o.2[((i:Nat):Int).toNat]? =some (LW w os s (vk,vn)):=q5;generalize LW w os s (vk,vn)=u2 at *;generalize CG w o.1=ss at *;clear q2 q3 q4 q5
    conv=>whnf
    repeat'((first|apply st|(apply sq;intro K U)|(apply si;intro A B Y Z)|(apply Y;clear Z B Y A)|(apply U;clear U K)|apply dr|refine rk ?_ ?_|exact fun s e=>by cases e;rfl|refine⟨rfl,?_⟩|refine⟨kZ,?_⟩|refine ix ?_|refine F8 ?_|refine ld ?_|refine DJ fun σ hs=>?_|refine EA ?_|(refine Cs (fun hc=>?_)<;>(try rw[hc])<;>clear hc)|refine c1.use ?_|refine c2.use ?_|refine c3.use ?_|(constructor<;>intro hc<;>(try rw[hc])<;>(replace hc:=bp hc)<;>(try simp(disch:=omega) only[BQ,wrap64,AL]at hc)<;>try(exfalso;omega))|clear U K)<;>conv=>whnf)
    exact⟨hlt,u2,rfl,⟨q6,hn⟩,hs⟩
  ·rw[show((vk,vn).1==3)=false by simp[h3],Bool.false_and,if_neg (by decide)]at hn
   conv=>whnf
   repeat'((first|apply st|(apply sq;intro K U)|(apply si;intro A B Y Z)|(apply Y;clear Z B Y A)|(apply U;clear U K)|refine⟨rfl,?_⟩|refine⟨kZ,?_⟩|refine ix ?_|refine ld ?_|refine DJ fun σ hs=>?_|(refine Cs (fun hc=>?_)<;>(try rw[hc])<;>clear hc)|(constructor<;>intro hc<;>(try rw[hc])<;>(replace hc:=bp hc)<;>(try simp(disch:=omega) only[BQ,wrap64,AL]at hc)<;>try(exfalso;omega))|clear U K)<;>conv=>whnf)
   all_goals exact AI (by rw[hn];rfl)
 ·rw[An hke,TS]at hn
  conv=>whnf
  repeat'((first|apply st|(apply sq;intro K U)|(apply si;intro A B Y Z)|(apply Y;clear Z B Y A)|(apply U;clear U K)|refine⟨rfl,?_⟩|refine⟨kZ,?_⟩|refine ld ?_|refine DJ fun σ hs=>?_|(refine EV (fun hc=>?_)<;>(try rw[hc])<;>clear hc)|clear U K)<;>conv=>whnf)
  all_goals exact AI (by rw[hn];rfl)
end Go.Gl
namespace Go.Gl
open Go.Proofs
def dN {w:AK} (ho:ordered w.parents) {c b:Int} (h0:0≤c) (h1:c<3+w.parents.length) (hb:0≤b):L5 w.parents c b=((B0 w.parents).getD c.toNat 0).testBit b.toNat:=by
 rw[M6 ho (by omega),L5];have e0:(b.toNat==0)=(b==0):=by rw[Kk];simp only[Dn];omega
 rw[e0];by_cases h3:3≤c
 ·rw[decide_eq_true h3,EW]
  by_cases h:c=b
  ·subst h;rw[FI ho];simp
  ·rw[beq_eq_false_iff_ne.2 h,Bool.false_or]
 ·have hp:par w.parents c.toNat= []:=if_pos (by omega)
  rw[decide_eq_false h3,Bool.false_and,Bool.or_false,Eb ho,hp];have:(c.toNat==b.toNat)=(c==b):=by rw[Kk];simp only[Dn];omega
  rw[this,List.any_nil,Bool.or_false,Bool.or_comm]
def bY {w:AK} (hw:CE w) {c:Int} (h0:0≤c) (h1:c<3+w.parents.length):(List.drop (c.toNat*1) (List.drop 2 (wC w (B0 w.parents))))[0]? =some (eU ((B0 w.parents).getD c.toNat 0)):=by
 have hul:(B0 w.parents).length=3+w.parents.length:=EN _ _;rw[au,au,←U1 w (B0 w.parents) (i:=c.toNat) (by omega)];congr 1;omega
def lB {w:AK} {os:List Ob} (hos:P0 w os) {v:Int×Int} (hv:Bt os.length v=true):0≤Hu os v∧Hu os v<3+w.parents.length:=by
 rw[Hu];split
 ·omega
 split
 ·omega
 ·rename_i h1 h2
  have h3:v.1=3:=by
   simp only[Bt,if_neg h1,if_neg h2]at hv;split at hv
   ·assumption
   ·cases hv
  obtain⟨o,q1,q2,q3⟩:=IP hv h3;have:=hos.own o q3;have e:os.getD v.2.toNat (0,[])=o:=q2;rw[e];omega
def fY {n:Int} {v:Int×Int} (hv:Bt n v=true):v.1=1∨v.1=2∨v.1=3:=by
 rw[Bt]at hv;by_cases h1:v.1=1
 ·exact .inl h1
 by_cases h2:v.1=2
 ·exact .inr (.inl h2)
 by_cases h3:v.1=3
 ·exact .inr (.inr h3)
 rw[if_neg h1,if_neg h2,if_neg h3]at hv;cases hv
def mQ {op un n:Int} (h:op=3∨op=4) (hc:((un==n)==(op==4))=true):(if op=3 then decide (un<n)else un==n)=decide (un≤n):=by
 rcases h with rfl|rfl
 ·have:un≠n:=by simpa using hc
  rw[if_pos rfl,decide_eq_decide];omega
 ·have:un=n:=by simpa using hc
  subst this;simp
def mS {op un n:Int} (h:op=3∨op=4) (hc:((un==n)==(op==4))=false):(if op=3 then decide (un<n)else un==n)=false:=by
 rcases h with rfl|rfl
 ·have:un=n:=by simpa using hc
  subst this;simp
 ·have:un≠n:=by simpa using hc
  simpa using this
attribute [local irreducible] BC Ax Ai AU AO Ag AV AW AM Af AR AT A0 A9 Sat Ab A6 Ak W
set_option maxHeartbeats 1000000 in
def Z6 (w : AK) (os:List Ob) (b:Bool) (args:List (Int×Int)) (g:Bool) (hg:CE w) (hw:Km w) (hos:P0 w os) (hv: ∀v∈args,Bt os.length v=true) (f:Fact):Be w f=true→C4 f≤args.length→
    Pure Tryz.prog 117 [.rp (wC w (B0 w.parents)),.a (xF f),.l (os.map E6) b,.l (pP args) g] (.b (Bz w os args f)):=by
 induction f using Fact.ind with
 | h f ih=>
   intro hn hsp;refine Pure.fit (by kernel_rfl) fun hf=>?_
   have⟨h2,h3,h4⟩:=Jm hf.2.1;have hM:=Mx;have hwl:=hw.len;rw[SS,Rm];rcases Nr hn with h1|⟨h5,x,hk,hx⟩|⟨h6,x,y,hk,hx,hy⟩|⟨h7,x,y,hk,hx,hy⟩|⟨hop,hlf,hp,hcl,ha0⟩
   ·refine HF kZ ?_
    have hs:=Sn
    conv=>whnf
    repeat'((first|apply st|(apply sq;intro K U)|(apply si;intro A B Y Z)|(apply Y;clear Z B Y A)|(apply U;clear U K)|refine⟨rfl,?_⟩|(constructor<;>intro hc<;>(try rw[hc])<;>(replace hc:=bp hc)<;>try(exfalso;omega))|clear U K)<;>conv=>whnf)
    all_goals exact AI (by rw[if_pos h1])
   ·have c1:=ih x (by rw[hk];exact .head _) hx (Int.le_trans (DO (by rw[hk];exact .head _)) hsp)
    have e:(f.kids.map (Bz w os args)).getD 0 false=Bz w os args x:=by rw[hk];rfl
    have hk0:f.kids[0]? =some x:=by rw[hk];rfl
    rw[if_neg (by omega),if_pos h5,e];clear e hk;refine HF kZ ?_;have hs:=Sn
    conv=>whnf
    repeat'((first|apply st|(apply sq;intro K U)|(apply si;intro A B Y Z)|(apply Y;clear Z B Y A)|(apply U;clear U K)|refine⟨rfl,?_⟩|refine⟨kZ,?_⟩|refine TP ?_|refine c1.use ?_|(constructor<;>intro hc<;>(try rw[hc])<;>(replace hc:=bp hc)<;>try(exfalso;omega))|clear U K)<;>conv=>whnf)
    all_goals exact AI rfl
   ·have c1:=ih x (by rw[hk];exact .head _) hx (Int.le_trans (DO (by rw[hk];exact .head _)) hsp)
    have c2:=ih y (by rw[hk];exact .tail _ (.head _)) hy (Int.le_trans (DO (by rw[hk];exact .tail _ (.head _))) hsp);have e:(f.kids.map (Bz w os args)).getD 0 false=Bz w os args x:=by rw[hk];rfl
    have e2:(f.kids.map (Bz w os args)).getD 1 false=Bz w os args y:=by rw[hk];rfl
    have hk0:f.kids[0]? =some x:=by rw[hk];rfl
    have hk1:f.kids[1]? =some y:=by rw[hk];rfl
    rw[if_neg (by omega),if_neg (by omega),if_pos h6,e,e2];clear e e2 hk;cases hb:Bz w os args x<;>rw[hb]at c1
    all_goals
     refine HF kZ ?_;have hs:=Sn
     conv=>whnf
     repeat'((first|apply st|(apply sq;intro K U)|(apply si;intro A B Y Z)|(apply Y;clear Z B Y A)|(apply U;clear U K)|refine⟨rfl,?_⟩|refine⟨kZ,?_⟩|refine TP ?_|refine L2 ?_|refine c1.use ?_|refine c2.use ?_|(constructor<;>intro hc<;>(try rw[hc])<;>(replace hc:=bp hc)<;>try(exfalso;omega))|clear U K)<;>conv=>whnf)
     all_goals exact AI rfl
   ·have c1:=ih x (by rw[hk];exact .head _) hx (Int.le_trans (DO (by rw[hk];exact .head _)) hsp)
    have c2:=ih y (by rw[hk];exact .tail _ (.head _)) hy (Int.le_trans (DO (by rw[hk];exact .tail _ (.head _))) hsp);have e:(f.kids.map (Bz w os args)).getD 0 false=Bz w os args x:=by rw[hk];rfl
    have e2:(f.kids.map (Bz w os args)).getD 1 false=Bz w os args y:=by rw[hk];rfl
    have hk0:f.kids[0]? =some x:=by rw[hk];rfl
    have hk1:f.kids[1]? =some y:=by rw[hk];rfl
    rw[if_neg (by omega),if_neg (by omega),if_neg (by omega),if_pos h7,e,e2];clear e e2 hk;cases hb:Bz w os args x<;>rw[hb]at c1
    all_goals
     refine HF kZ ?_;have hs:=Sn
     conv=>whnf
     repeat'((first|apply st|(apply sq;intro K U)|(apply si;intro A B Y Z)|(apply Y;clear Z B Y A)|(apply U;clear U K)|refine⟨rfl,?_⟩|refine⟨kZ,?_⟩|refine TP ?_|refine L2 ?_|refine c1.use ?_|refine c2.use ?_|(constructor<;>intro hc<;>(try rw[hc])<;>(replace hc:=bp hc)<;>try(exfalso;omega))|clear U K)<;>conv=>whnf)
     all_goals exact AI rfl
   ·have hsl:=Nf hlf
    rw[if_neg (by omega),if_neg (by omega),if_neg (by omega),if_neg (by omega),YO];obtain⟨v,hva⟩: ∃v,args[f.arg.toNat]? =some v:=⟨_,Da (by omega)⟩
    have hvd:args.getD f.arg.toNat (0,0)=v:=by rw[Dc,hva];rfl
    have hvv:=hv v (Cj hva);rw[hvd];have c1:=nz w os b v f.path false hg hw hos hvv hp;have hok:=fun u=>Tx (u:=u) hos hp hvv
    clear hvd;cases hu:TS w os f.path v with
    | none=>
      rw[hu]at c1;replace c1:Pure Tryz.prog 151 [.rp (wC w (B0 w.parents)),.l (os.map E6) b,.a (pI v),.l (iL f.path) false] (.t [.a (pI (0,0)),.b false]):=c1;refine HF kZ ?_;have hs:=Sn
      conv=>whnf
      repeat'((first|apply st|(apply sq;intro K U)|(apply si;intro A B Y Z)|(apply Y;clear Z B Y A)|(apply U;clear U K)|apply dr|refine⟨rfl,?_⟩|refine⟨kZ,?_⟩|refine F8 ?_|refine DJ fun σ hs=>?_|refine E7 ?_|refine⟨_,c1,?_⟩|(constructor<;>intro hc<;>(try rw[hc])<;>(replace hc:=bp hc)<;>try(exfalso;omega))|(intro nn hnn;generalize hg:A8 _ nn _=σ;refine CW hg fun hs=>?_;clear hg)|clear U K)<;>conv=>whnf)
      all_goals exact AI rfl
    | some u=>
      rw[hu]at c1;have hu2:=hok u hu;clear hok hu;replace c1:Pure Tryz.prog 151 [.rp (wC w (B0 w.parents)),.l (os.map E6) b,.a (pI v),.l (iL f.path) false] (.t [.a (pI u),.b true]):=c1;by_cases h2:f.op=2
      ·have hcr:=lB hos hu2
       have hfc:=hcl h2;have hup:=bY hg hcr.1 hcr.2;have hbb:=dN hw.ord hcr.1 hcr.2 hfc.1;have c2:=Vh ((B0 w.parents).getD (Hu os u).toNat 0) f.cls (Kz (Gu _ _ (by have:=hg.1.1;omega)) _) hfc.1 (by omega);have hkk:=fY hu2;dsimp only;rw[if_pos h2];rw[hbb];by_cases h3:u.1=3
       ·obtain⟨o,q1,q2,q3⟩:=IP hu2 h3
        have hnr:=J4 hu2 h3
        have hce:Hu os u=o.1:=by
         rw[Hu,if_neg (by omega),if_neg (by omega)];exact congrArg Prod.fst q2
        rw[hce]at hcr hup c2 ⊢;clear hce hbb hcl hv hvv ih h4 hp hn q2;generalize B0 w.parents=us at *;obtain⟨uk,un⟩:=u;dsimp only at h3 q1 hnr;refine HF kZ ?_;have hs:=Sn
        conv=>whnf
        repeat'((first|apply st|(apply sq;intro K U)|(apply si;intro A B Y Z)|(apply Y;clear Z B Y A)|(apply U;clear U K)|apply dr|refine⟨rfl,?_⟩|refine⟨kZ,?_⟩|refine lY ?_|refine F8 ?_|refine ld ?_|refine DJ fun σ hs=>?_|refine EA ?_|refine⟨_,c1,?_⟩|(constructor<;>intro hc<;>(try rw[hc])<;>(replace hc:=bp hc)<;>(try simp(disch:=omega) only[BQ,wrap64,AL]at hc)<;>try(exfalso;omega))|(intro nn hnn;generalize hg:A8 _ nn _=σ;refine CW hg fun hs=>?_;clear hg)|fail)<;>conv=>whnf)
        rw[hup]
        conv=>whnf
        repeat'((first|apply st|(apply Y;clear Z B Y A)|(apply U;clear U K)|apply dr|refine c2.use ?_|clear U K)<;>conv=>whnf)
        all_goals exact AI rfl
       ·have hce:Hu os u=u.1:=by
         rw[Hu];split
         ·omega
         ·rw[if_pos (by omega)];omega
        rw[hce]at hcr hup c2 ⊢;clear hce hbb hcl hv hvv ih h4 hp hn;generalize B0 w.parents=us at *;obtain⟨uk,un⟩:=u;dsimp only at *;refine HF kZ ?_;have hs:=Sn
        conv=>whnf
        repeat'((first|apply st|(apply sq;intro K U)|(apply si;intro A B Y Z)|(apply Y;clear Z B Y A)|(apply U;clear U K)|apply dr|refine⟨rfl,?_⟩|refine⟨kZ,?_⟩|refine lY ?_|refine F8 ?_|refine ld ?_|refine DJ fun σ hs=>?_|refine EA ?_|refine⟨_,c1,?_⟩|(constructor<;>intro hc<;>(try rw[hc])<;>(replace hc:=bp hc)<;>(try simp(disch:=omega) only[BQ,wrap64,AL]at hc)<;>try(exfalso;omega))|(intro nn hnn;generalize hg:A8 _ nn _=σ;refine CW hg fun hs=>?_;clear hg)|fail)<;>conv=>whnf)
        rw[hup]
        conv=>whnf
        repeat'((first|apply st|(apply Y;clear Z B Y A)|(apply U;clear U K)|apply dr|refine c2.use ?_|fail)<;>conv=>whnf)
        all_goals exact AI rfl
      ·dsimp only
       rw[if_neg h2];clear hv hvv ih h4 hp hn hcl;obtain⟨uk,un⟩:=u;dsimp only at *;by_cases hk:uk=1
       ·rw [Dn.2 hk,EW]
        have h34:f.op=3∨f.op=4:=by omega
        have hT:=fun hc=>mQ (un:=un) (n:=f.n) h34 hc
        have hF:=fun hc=>mS (un:=un) (n:=f.n) h34 hc
        refine HF kZ ?_;have hs:=Sn
        conv=>whnf
        repeat'((first|apply st|(apply sq;intro K U)|(apply si;intro A B Y Z)|(apply Y;clear Z B Y A)|(apply U;clear U K)|apply dr|refine⟨rfl,?_⟩|refine⟨kZ,?_⟩|refine F8 ?_|refine ld ?_|refine DJ fun σ hs=>?_|refine EA ?_|refine⟨_,c1,?_⟩|(constructor<;>intro hc<;>(try rw[hc])<;>(replace hc:=bp hc)<;>(try simp(disch:=omega) only[BQ,wrap64,AL]at hc)<;>try(exfalso;omega))|(intro nn hnn;generalize hg:A8 _ nn _=σ;refine CW hg fun hs=>?_;clear hg)|clear U K)<;>conv=>whnf)
        all_goals
         refine AI ?_
         first
          | (rw[hT (by assumption)];rfl)
          | (rw[hF (by assumption)];rfl)
       ·rw[beq_eq_false_iff_ne.2 hk,Bool.false_and]
        refine HF kZ ?_;have hs:=Sn
        conv=>whnf
        repeat'((first|apply st|(apply sq;intro K U)|(apply si;intro A B Y Z)|(apply Y;clear Z B Y A)|(apply U;clear U K)|apply dr|refine⟨rfl,?_⟩|refine⟨kZ,?_⟩|refine F8 ?_|refine ld ?_|refine DJ fun σ hs=>?_|refine EA ?_|refine⟨_,c1,?_⟩|(constructor<;>intro hc<;>(try rw[hc])<;>(replace hc:=bp hc)<;>(try simp(disch:=omega) only[BQ,wrap64,AL]at hc)<;>try(exfalso;omega))|(intro nn hnn;generalize hg:A8 _ nn _=σ;refine CW hg fun hs=>?_;clear hg)|clear U K)<;>conv=>whnf)
        all_goals exact AI rfl
end Go.Gl
namespace Go.Gl
open Go.Proofs
attribute [local irreducible] BC Ax Ai AU AO Ag AV AW AM Af AR AT A0 A9 Sat Ab A6 Ak W
def mK (p:Prog) (L:Nat) (g:Int) (h16:p.methods.length≤16) {S:Type} {fn:Fn} {fi ca:List V} {H:S→List At} (Inv:Nat→S→Prop) {s:S} (h0:Inv 0 s)
    (hsk: ∀k s,k<p.methods.length→(BI p (k:Nat)).gen≠g→Inv k s→Inv (k+1) s)
    (hT: ∀(k:Nat) s,k<p.methods.length→(BI p (k:Nat)).gen=g→Inv k s→ ∀(rest:List At) (σ:AH),Sat σ (H s++rest)→A0 Tryz.prog (.f fn fi ca) [eI (k:Int)] σ fun r σ'=> ∃s',r= .ret (.b true)∧Inv (k+1) s'∧Sat σ' (H s'++rest)) (σ:AH) (hs:Sat σ (H s)) :
    BC Tryz.prog 75 [.f fn fi ca,.rp [FR p L],.rp [eI g]] σ fun r σ'=> ∃s',r= .ret (.t [])∧Inv p.methods.length s'∧Sat σ' (H s'):=by
 have hM:=Mx;refine nD kZ ?_
 conv=>whnf
 repeat'((first|apply st|(apply sq;intro K U)|(apply si;intro A B Y Z)|(apply Y;clear Z B Y A)|(apply U;clear U K)|fail)<;>conv=>whnf)
 refine CZ p.methods.length (fun k (_:S)=>[(12,eI (BL k))]) (fun _ s'=>H s') (fun k s'=>Inv k s') s rfl h0 hs ?_;clear hs;rintro k s' σ hk ho hs;rcases BS p.methods hk with⟨x,hx,hlt⟩|hke
 ·have hck:BL k=k:=AL (by omega)
  have hxe:BI p (k:Int)=x:=by
   have:=CQ (p:=p) (m:=k) (by simp[BE];omega);rw[Jb,hx]at this;exact(Option.some.inj this).symm
  have hsk':=hsk k s' hlt;have hT':=hT k s' hlt;rw[hxe]at hsk' hT';rw[←hck]at hT';by_cases hg:x.gen=g
  ·conv=>whnf
   repeat'((first|apply st|(apply sq;intro K U)|(apply si;intro A B Y Z)|(apply Y;clear Z B Y A)|(apply U;clear U K)|refine⟨rfl,?_⟩|refine⟨kZ,?_⟩|refine ix ?_|refine ld ?_|refine DJ fun σ hs=>?_|(refine Cs (fun hc=>?_)<;>(try rw[hc])<;>clear hc)|(constructor<;>intro hc<;>(try rw[hc])<;>(replace hc:=bp hc)<;>try(exfalso;omega))|(intro nn hnn;generalize hg:A8 _ nn _=σ;refine CW hg fun hs=>?_;clear hg)|fail)<;>conv=>whnf)
   refine(hT' hg ho [_] σ (Sat.perm hs (List.perm_append_singleton _ _).symm)).mono ?_;rintro r σ ⟨s2,rfl,hi2,hs⟩
   conv=>whnf
   repeat'((first|apply st|(apply si;intro A B Y Z)|(apply Y;clear Z B Y A)|(apply U;clear U K)|refine⟨rfl,?_⟩|refine EA ?_|fail)<;>conv=>whnf)
   exact⟨hlt,_,rfl,hi2,hs.less (List.sublist_append_left _ _)⟩
  ·conv=>whnf
   repeat'((first|apply st|(apply sq;intro K U)|(apply si;intro A B Y Z)|(apply Y;clear Z B Y A)|(apply U;clear U K)|refine⟨rfl,?_⟩|refine⟨kZ,?_⟩|refine ix ?_|refine ld ?_|refine DJ fun σ hs=>?_|(refine Cs (fun hc=>?_)<;>(try rw[hc])<;>clear hc)|(constructor<;>intro hc<;>(try rw[hc])<;>(replace hc:=bp hc)<;>try(exfalso;omega))|(intro nn hnn;generalize hg:A8 _ nn _=σ;refine CW hg fun hs=>?_;clear hg)|fail)<;>conv=>whnf)
   exact⟨hlt,_,rfl,hsk' hg ho,hs.less (Kh _ _)⟩
 ·rw[hke]at ho
  conv=>whnf
  repeat'((first|apply st|(apply sq;intro K U)|(apply si;intro A B Y Z)|(apply Y;clear Z B Y A)|(apply U;clear U K)|refine⟨rfl,?_⟩|(refine EV (fun hc=>?_)<;>(try rw[hc])<;>clear hc)|clear U K)<;>conv=>whnf)
  exact AP ⟨_,rfl,ho,hs⟩
def Rk (p:Prog) (L:Nat) (g:Int) (h16:p.methods.length≤16) {nn:Nat} {E:Env} {ok:FuncId→Array Tmp→Code→Code→Nat→Prop} {S:Type} (H:S→List At) (Inv:Nat→S→Prop) (s:S) {σ:AH} (h0:Inv 0 s) (hs:Sat σ (.obj nn (.loop .ready E ok)::H s))
    (hsk: ∀k s,k<p.methods.length→(BI p (k:Nat)).gen≠g→Inv k s→Inv (k+1) s)
    (hT: ∀(k:Nat) s,k<p.methods.length→(BI p (k:Nat)).gen=g→Inv k s→ ∀(rest:List At) (σ:AH),Sat σ (.obj nn (.loop .ready E ok)::(H s++rest))→Me Tryz.prog nn [eI (k:Int)] σ fun r σ'=> ∃s',r= .ret (.b true)∧Inv (k+1) s'∧Sat σ' (.obj nn (.loop .ready E ok)::(H s'++rest)))
    {Q:R→AH→Prop} (hq: ∀s' σ',Inv p.methods.length s'→Sat σ' (.obj nn (.loop .ready E ok)::H s')→Q (.ret (.t [])) σ') :
    BC Tryz.prog 75 [.f (.yield nn) [] [],.rp [FR p L],.rp [eI g]] σ Q:=
 BC.mono (mK p L g h16 (fn:= .yield nn) (fi:=[]) (ca:=[]) (H:=fun s=> .obj nn (.loop .ready E ok)::H s) Inv h0 hsk (fun k s hk hg hi rest σ hs=>ZO (hT k s hk hg hi rest σ hs)) σ hs) fun r σ' ⟨s',e,hi,h⟩=>e ▸ hq s' σ' hi h
def Ex (p:Prog) (g:Int) (k:Nat):List Int:=(Bk k).filter fun m=>(BI p m).gen==g
def Lm (p:Prog) (g:Int) (k:Nat):Ex p g (k+1)=if(BI p (k:Int)).gen==g then Ex p g k++[(k:Int)]else Ex p g k:=by
 rw[Ex,GO,List.filter_append];cases hp:(BI p (k:Int)).gen==g<;>simp[Ex,hp]
def Nw (p:Prog) (g:Int) (k:Nat):(Ex p g k).length≤k:=by
 have:=OJ (fun m=>(BI p m).gen==g) (Bk k)
 rwa [Fx]at this
def Uw (p:Prog) (L:Nat) (g:Int) (h16:p.methods.length≤16):Bd Tryz.prog 118 [.l [] true,.f (.func 75) [] [.rp [FR p L],.rp [eI g]]] [] fun r post=> ∃v,r= .ret v∧post= [.own v 1 (iL (Ex p g p.methods.length))]:=by
 intro σ hs;have hM:=Mx;refine Y2 kZ ?_
 conv=>whnf
 repeat'((first|apply st|(apply sq;intro K U)|(apply si;intro A B Y Z)|(apply Y;clear Z B Y A)|(apply U;clear U K)|(intro nn hnn;generalize hg:A8 _ nn _=σ;refine CW hg fun hs=>?_;clear hg)|fail)<;>conv=>whnf)
 rename_i nb _ _ _;refine Rk p L g h16 (nn:=nn) (fun s:V×List Int=>[.box nb [s.1],.own s.1 1 (iL s.2)]) (fun k s=>s.2=Ex p g k) (.l [] true,[]) rfl ((DK hs 1).perm (HZ _ _ _ _)) ?_ ?_ ?_
 ·intro k s hlt hne hi
  rw[Lm,if_neg (by simpa using hne),hi]
 ·clear hs hnn
  rintro k ⟨v,ys⟩ hlt hgk hi rest σ hs;dsimp only at hi hs;have hck:BL k=k:=AL (by omega);have hl:=Nw p g k;rw[←hi]at hl;have hll:ys.length<Ae∧(ys.length+1)*8≤140737488355328:=by omega
  refine ER (l:=[.box nb [v],.own v 1 (iL ys)]++rest) rfl hs ?_;clear hs;intro σ hs
  conv=>whnf
  repeat'((first|apply st|(apply si;intro A B Y Z)|(apply Y;clear Z B Y A)|refine ld ?_|refine El fun σ hs=>?_|refine aq fun v σ hs hsl=>?_|clear U K)<;>conv=>whnf)
  intro hn;exact⟨(v,ys++[(k:Int)]),rfl,by rw[Lm,if_pos (by simpa using hgk),hi],hs.JA hn⟩
 ·clear hs
  rintro⟨v,ys⟩ σ hi hs;dsimp only at hi hs;refine FJ hs fun σ hs=>?_
  conv=>whnf
  repeat'((first|apply st|(apply sq;intro K U)|(apply si;intro A B Y Z)|(apply Y;clear Z B Y A)|(apply U;clear U K)|refine ld ?_|fail)<;>conv=>whnf)
  rw[hi]at hs;exact Ar hs (Kh _ _) (.refl _) fun σ' hs'=>⟨_,⟨v,rfl,rfl⟩,hs'⟩
def Uj (p:Prog) (L:Nat) (g:Int) (h16:p.methods.length≤16):Bd Tryz.prog 84 [.f (.func 75) [] [.rp [FR p L],.rp [eI g]]] [] fun r post=> ∃v,r= .ret v∧post= [.own v 1 (iL (Ex p g p.methods.length))]:=by
 intro σ hs;refine eK kZ ?_
 conv=>whnf
 repeat'((first|(apply sq;intro K U)|(apply si;intro A B Y Z)|(apply Y;clear Z B Y A)|(apply U;clear U K)|fail)<;>conv=>whnf)
 refine(Uw p L g h16).use (rest:=[]) (by simpa using hs) ?_;clear hs;rintro r post σ ⟨v,rfl,rfl⟩ hs
 conv=>whnf
 repeat'((first|apply st|(apply Y;clear Z B Y A)|(apply U;clear U K)|fail)<;>conv=>whnf)
 exact Ar hs (List.sublist_append_left _ _) (.refl _) fun σ' hs'=>⟨_,⟨v,rfl,rfl⟩,hs'⟩
def WB (w:AK) (hg:CE w) (hw:Km w) (os:List Ob) (b:Bool) (args:List (Int×Int)) (g:Bool) (f:Fact) (hf:CN w f=true) (hsp:C4 f≤args.length) (hh:Iv w os args=true) :
    Pure Tryz.prog 81 [.a (A2 w),.a (xF f),.l (os.map E6) b,.l (pP args) g] (.t [.b (Bz w os args f),eI 0]):=by
 refine Pure.fit (by kernel_rfl) fun hfi=>?_
 have hM:=Mx
 have hfo: ∀b,Pure Tryz.prog 109 [.a (A2 w),.l [Fq f] b] (.t [.rp (wC w (B0 w.parents)),.b true]):=fun b=>by
  have:=MG w hg [f] b (by simp);simpa[MO,hf]using this
 rw[B5]at hfo;have c2:=PS w hg hw os b args g;rw[hh]at c2;have c3:=Wh f (V4 hf);simp only[Iv,BY,CY,EY]at hh;have hno:Be w f=true:=by simp only[CN,BY]at hf;exact hf.2.2
 have c4:=Z6 w os b args g hg hw (VU hh.1) hh.2.2.2 f hno hsp;refine eL kZ ?_;have hs:=Sn
 conv=>whnf
 repeat'((first|apply st|(apply sq;intro K U)|(apply si;intro A B Y Z)|(apply Y;clear Z B Y A)|(apply U;clear U K)|refine⟨rfl,?_⟩|refine⟨kZ,?_⟩|refine Ku ?_|refine Pure.use (hfo _) ?_|refine c2.use ?_|refine c3.use ?_|refine c4.use ?_|(constructor<;>intro hc<;>(try rw[hc])<;>(replace hc:=bp hc)<;>(try simp(disch:=omega) only[BQ,wrap64,AL]at hc))|clear U K)<;>conv=>whnf)
 all_goals first
  | exact AI rfl
  | (exfalso;simp at hc;omega)
def ak (w:AK) (hg:CE w) (hw:Km w) (os:List Ob) (b:Bool) (args:List (Int×Int)) (g:Bool) (f:Fact) (hf:CN w f=true) (hh:Iv w os args=false) :
    Pure Tryz.prog 81 [.a (A2 w),.a (xF f),.l (os.map E6) b,.l (pP args) g] (.t [.b false,eI 2]):=by
 refine Pure.fit (by kernel_rfl) fun hfi=>?_
 have hM:=Mx
 have hfo: ∀b,Pure Tryz.prog 109 [.a (A2 w),.l [Fq f] b] (.t [.rp (wC w (B0 w.parents)),.b true]):=fun b=>by
  have:=MG w hg [f] b (by simp);simpa[MO,hf]using this
 rw[B5]at hfo;have c2:=PS w hg hw os b args g;rw[hh]at c2;refine eL kZ ?_;have hs:=Sn
 conv=>whnf
 repeat'((first|apply st|(apply sq;intro K U)|(apply si;intro A B Y Z)|(apply Y;clear Z B Y A)|(apply U;clear U K)|refine⟨kZ,?_⟩|refine WU ?_|refine Ku ?_|refine Pure.use (hfo _) ?_|refine c2.use ?_|clear U K)<;>conv=>whnf)
 all_goals exact AI rfl
abbrev U2:Fact:=Fact.mk 1 0 [] 0 0 []
def Nb (w:AK):CN w U2=true:=by
 rw[CN,G5,Fe,CP];rfl
def R2 {w:V} {o a:V}:Dd emp emp [w,.a [eI 1,eI 0,.l [] true,eI 0,eI 0,.l [] true],o,a] [w,.a (xF U2),o,a]:=
 .cons (.refl _) (.cons (.a (.cons (.refl _) (.cons (.refl _) (.cons Cg (.cons (.refl _) (.cons (.refl _) (.cons Cg .nil))))))) (.cons (.refl _) (.cons (.refl _) .nil)))
def V2 (os:List Ob) (f:Bool) (gen:Int) (args:List (Int×Int)) (g:Bool):Pure Tryz.prog 56 [.pn,.l (os.map E6) f,eI gen,.l (pP args) g] (.b false):=by
 have c1:=Tq gen;refine Ow kZ ?_;have hs:=Sn
 conv=>whnf
 repeat'((first|apply st|(apply sq;intro K U)|(apply si;intro A B Y Z)|(apply Y;clear Z B Y A)|(apply U;clear U K)|refine WU ?_|refine c1.use ?_|clear U K)<;>conv=>whnf)
 all_goals exact AI rfl
set_option maxHeartbeats 1000000 in
def call56 (p:Prog) (L:Nat) (os:List Ob) (f:Bool) (gen:Int) (args:List (Int×Int)) (g:Bool) (h:(BM p).isSome=true):Pure Tryz.prog 56 [FR p L,.l (os.map E6) f,eI gen,.l (pP args) g] (.b (CF p os gen args)):=by
 refine Pure.fit (by kernel_rfl) fun hf=>?_
 have hM:=Mx;have hok:=look_ok h;have hgw:=Mk h;have c1:=YQ p L gen;cases h2:I9 p gen<;>rw[h2]at c1
 ·refine Ow kZ ?_
  have hs:=Sn
  conv=>whnf
  repeat'((first|apply st|(apply sq;intro K U)|(apply si;intro A B Y Z)|(apply Y;clear Z B Y A)|(apply U;clear U K)|refine WU ?_|refine c1.use ?_|clear U K)<;>conv=>whnf)
  all_goals exact AI (by simp[CF,h2])
 have hgr:=h2;simp only[I9,BY,CY]at hgr;obtain⟨x,hx⟩: ∃x,p.Cl[gen.toNat]? =some x:=⟨_,Da (by omega)⟩
 have hxd:p.Cl.getD gen.toNat 0=x:=by rw[Dc,hx];rfl
 have hx3:1≤x∧x≤3:=by
  have hh:=(EO h).1;simp only[Cn,BY,CY,EY]at hh;exact hh.2.2.2.2.2 x (Cj hx)
 by_cases he:(args.length:Int)=x
 ·have e:CF p os gen args=(FC (AQ p) os&&args.all (Bt os.length)):=by simp only[CF,h,h2,hxd,decide_eq_true he,EW]
  rw[e];have c2:=aE os f args g (by omega);by_cases hv: ∀v∈args,Bt os.length v=true
  ·rw [List.filter_eq_self.2 hv]at c2
   have hva:args.all (Bt os.length)=true:=EY.2 hv;rw[hva,Bool.and_true]
   have hha:Iv (AQ p) os args=FC (AQ p) os:=by
    rw[Iv,hva,decide_eq_true (show 1≤args.length by omega),decide_eq_true (show args.length≤3 by omega)];simp
   cases ho:FC (AQ p) os<;>rw[ho]at hha
   ·have c3:=(ak (AQ p) hgw hok.lO os f args g U2 (Nb _) hha).arg R2
    clear hva e hv;refine Ow kZ ?_;have hs:=Sn
    conv=>whnf
    repeat'((first|apply st|(apply sq;intro K U)|(apply si;intro A B Y Z)|(apply Y;clear Z B Y A)|(apply U;clear U K)|apply dr|refine⟨rfl,?_⟩|refine⟨kZ,?_⟩|refine F8 ?_|refine Ku ?_|refine c1.use ?_|refine c2.use ?_|refine c3.use ?_|(constructor<;>intro hc<;>(try rw[hc])<;>(replace hc:=bp hc)<;>(try simp(disch:=omega) only[BQ,wrap64,AL]at hc)<;>try(exfalso;omega))|clear U K)<;>conv=>whnf)
    all_goals first
     | exact AI rfl
     | (exfalso;simp[he]at hc;done)
   ·have c3:=(WB (AQ p) hgw hok.lO os f args g U2 (Nb _) (by
     rw[Ds]
     exact Int.natCast_nonneg _) hha).arg R2
    clear hva e hv;refine Ow kZ ?_;have hs:=Sn
    conv=>whnf
    repeat'((first|apply st|(apply sq;intro K U)|(apply si;intro A B Y Z)|(apply Y;clear Z B Y A)|(apply U;clear U K)|apply dr|refine⟨rfl,?_⟩|refine⟨kZ,?_⟩|refine F8 ?_|refine Ku ?_|refine c1.use ?_|refine c2.use ?_|refine c3.use ?_|(constructor<;>intro hc<;>(try rw[hc])<;>(replace hc:=bp hc)<;>(try simp(disch:=omega) only[BQ,wrap64,AL]at hc)<;>try(exfalso;omega))|clear U K)<;>conv=>whnf)
    all_goals first
     | exact AI rfl
     | (exfalso;simp[he]at hc;done)
  ·have hlt:(args.filter (Bt os.length)).length≠args.length:=fun e=>hv (List.length_filter_eq_length_iff.1 e)
   have hva:args.all (Bt os.length)=false:=by
    rw[←Bool.not_eq_true,EY];exact hv
   rw[hva,Bool.and_false];generalize args.filter (Bt os.length)=ys at *;clear hva e hv;refine Ow kZ ?_;have hs:=Sn
   conv=>whnf
   repeat'((first|apply st|(apply sq;intro K U)|(apply si;intro A B Y Z)|(apply Y;clear Z B Y A)|(apply U;clear U K)|refine⟨rfl,?_⟩|refine F8 ?_|refine Ku ?_|refine c1.use ?_|refine c2.use ?_|(constructor<;>intro hc<;>(try rw[hc])<;>(replace hc:=bp hc)<;>(try simp(disch:=omega) only[BQ,wrap64,AL]at hc)<;>try(exfalso;omega))|clear U K)<;>conv=>whnf)
   all_goals first
    | exact AI rfl
    | (exfalso;simp[he]at hc;done)
    | (exfalso;simp at hc;omega)
 ·have e:CF p os gen args=false:=by simp only[CF,hxd,decide_eq_false he,Bool.false_and,Bool.and_false]
  rw[e];refine Ow kZ ?_;have hs:=Sn
  conv=>whnf
  repeat'((first|apply st|(apply sq;intro K U)|(apply si;intro A B Y Z)|(apply Y;clear Z B Y A)|(apply U;clear U K)|refine⟨rfl,?_⟩|refine F8 ?_|refine Ku ?_|refine c1.use ?_|(constructor<;>intro hc<;>(try rw[hc])<;>(replace hc:=bp hc)<;>(try simp(disch:=omega) only[BQ,wrap64,AL]at hc))|clear U K)<;>conv=>whnf)
  all_goals first
   | exact AI rfl
   | (exfalso;simp[he]at hc;done)
def Xe (p:Prog) (L:Nat) (os:List Ob) (f:Bool) (gen:Int) (args:List (Int×Int)) (g:Bool) (ha:Ask p os gen args) (hh:Iv (AQ p) os args=true) (m:Int) (hm:BE p m=true) (hg:(BI p m).gen=gen) :
    Pure Tryz.prog 85 [eI m,.rp [FR p L],.rp [.l (os.map E6) f],.rp [.l (pP args) g]] (.b (Bz (AQ p) os args (BI p m).fact)):=by
 refine Pure.fit (by kernel_rfl) fun hf=>?_
 have hM:=Mx;have hok:=look_ok ha.look;have hxm:=CQ hm;obtain⟨-,hfo,hno,hsp⟩:=QV ha.look (Cj hxm);rw[hg,←ha.len]at hsp;have c1:=WB (AQ p) (Mk ha.look) hok.lO os f args g (BI p m).fact hfo hsp hh;simp only[BE,BY,CY]at hm;clear hg hfo hno hsp;generalize BI p m=x at *;cases hb:Bz (AQ p) os args x.fact<;>rw[hb]at c1
 all_goals
  refine m6 kZ ?_;have hs:=Sn
  conv=>whnf
  repeat'((first|apply st|(apply sq;intro K U)|(apply si;intro A B Y Z)|(apply Y;clear Z B Y A)|(apply U;clear U K)|apply dr|refine⟨rfl,?_⟩|refine⟨kZ,?_⟩|refine F8 ?_|refine c1.use ?_|fail)<;>conv=>whnf)
  all_goals exact AI rfl
def cg {p:Prog} {os:List Ob} {gen:Int} {args:List (Int×Int)} (h:CF p os gen args=true):Iv (AQ p) os args=true:=by
 have ha:=Ty h;simp only[CF,BY]at h;have hg:=ha.mV;simp only[I9,BY,CY]at hg;obtain⟨x,hx⟩: ∃x,p.Cl[gen.toNat]? =some x:=⟨_,Da (by omega)⟩
 have hxd:p.Cl.getD gen.toNat 0=x:=by rw[Dc,hx];rfl
 have hx3:1≤x∧x≤3:=by
  have hh:=(EO ha.look).1;simp only[Cn,BY,CY,EY]at hh;exact hh.2.2.2.2.2 x (Cj hx)
 have hl:=ha.len;rw[hxd]at hl;rw[Iv,h.2.1,decide_eq_true (show 1≤args.length by omega),decide_eq_true (show args.length≤3 by omega),h.2.2.2.2];rfl
def W6 (p:Prog) (os:List Ob) (gen:Int) (args:List (Int×Int)):(Ex p gen p.methods.length).filter (fun m=>Bz (AQ p) os args (BI p m).fact)=OW p os gen args:=by
 rw[Ex,OW,OV,List.filter_filter];congr 1;funext m;rw[Bool.and_comm]
def Nv {p:Prog} {g m:Int} (h:m∈Ex p g p.methods.length):BE p m=true∧(BI p m).gen=g:=by
 have:=Kl.1 h;have h1:=E2.1 this.1;exact⟨by simp only[BE,BY,CY];exact h1,by simpa using this.2⟩
def Pn (p:Prog) (L:Nat) (os:List Ob) (f:Bool) (gen:Int) (args:List (Int×Int)) (g:Bool) (h:CF p os gen args=true):Pure Tryz.prog 58 [FR p L,.l (os.map E6) f,eI gen,.l (pP args) g] (.l (iL (OW p os gen args)) true):=by
 have ha:=Ty h;have hok:=look_ok ha.look;have hml:=Nw p gen p.methods.length;have h16:=hok.many;have c1:=SZ 85 [] [.rp [FR p L],.rp [.l (os.map E6) f],.rp [.l (pP args) g]] (fun m=>Bz (AQ p) os args (BI p m).fact) (Ex p gen p.methods.length) (fun m hm=>Xe p L os f gen args g ha (cg h) m (Nv hm).1 (Nv hm).2) false (by omega);rw[W6]at c1;refine Pure.of ?_;refine nP kZ ?_;have hs:=Sn
 conv=>whnf
 repeat'((first|apply st|(apply sq;intro K U)|(apply si;intro A B Y Z)|(apply Y;clear Z B Y A)|(apply U;clear U K)|refine Pure.use (WI _ _ _) ?_|fail)<;>conv=>whnf)
 refine(Uj p L gen h16).use (rest:=[]) (by simpa using hs) ?_;clear hs;rintro r post σ ⟨v,rfl,rfl⟩ hs
 conv=>whnf
 obtain⟨σ2,h1,h2,h3⟩:=H2 hs 0 rfl;refine BC.Oq (c1.use ?_) h1 (.cons h2 (.cons (.refl _) .nil));clear hs h1 h2;have hs:=h3
 conv=>whnf
 repeat'((first|apply st|(apply Y;clear Z B Y A)|(apply U;clear U K)|fail)<;>conv=>whnf)
 exact AP (by rfl)
def Xw (p:Prog) (os:List Ob) (f:Bool) (gen:Int) (args:List (Int×Int)) (g:Bool):Pure Tryz.prog 28 [.a (BU p),.l (os.map E6) f,eI gen,.l (pP args) g] (.t [.l (iL (Eh p os gen args).1) true,eI (Eh p os gen args).2]):=by
 refine Pure.of ?_;have hr:=Gw p;rw[Eh];refine nc kZ ?_;have hs:=Sn
 conv=>whnf
 repeat'((first|apply st|(apply sq;intro K U)|(apply si;intro A B Y Z)|(apply Y;clear Z B Y A)|(apply U;clear U K)|refine⟨kZ,?_⟩|fail)<;>conv=>whnf)
 refine hr.use (rest:=[]) (by simpa using hs) ?_;clear hs;cases h:(BM p).isSome
 ·have c1:=V2 os f gen args g
  rintro r post σ ⟨rfl,rfl⟩ hs
  conv=>whnf
  repeat'((first|apply st|(apply sq;intro K U)|(apply si;intro A B Y Z)|(apply Y;clear Z B Y A)|(apply U;clear U K)|refine E7 ?_|refine c1.use ?_|clear U K)<;>conv=>whnf)
  exact AP (by simp[CF,h])
 ·rintro r post σ ⟨L,rfl,rfl⟩ hs
  have c1:=call56 p L os f gen args g h;cases hb:CF p os gen args<;>rw[hb]at c1
  ·conv=>whnf
   repeat'((first|apply st|(apply sq;intro K U)|(apply si;intro A B Y Z)|(apply Y;clear Z B Y A)|(apply U;clear U K)|refine E7 ?_|refine c1.use ?_|clear U K)<;>conv=>whnf)
   exact AP (by rw[hb];rfl)
  ·have c2:=Pn p L os f gen args g hb
   conv=>whnf
   repeat'((first|apply st|(apply sq;intro K U)|(apply si;intro A B Y Z)|(apply Y;clear Z B Y A)|(apply U;clear U K)|refine EA ?_|refine c1.use ?_|refine c2.use ?_|fail)<;>conv=>whnf)
   exact AP (by rw[hb];rfl)
end Go.Gl
namespace Go.Gl
open Go.Proofs
def Xp {p:Prog} {os:List Ob} {gen:Int} {args:List (Int×Int)} (h16:p.methods.length≤16):U6 p (OW p os gen args):=by
 have hm: ∀x∈OW p os gen args,BE p x=true∧(BI p x).gen=gen:=fun x hx=>by
  have:=Kl.1 hx;have h1:=E2.1 this.1;have h2:=this.2;simp only[BY,Dn]at h2;exact⟨by simp only[BE,BY,CY];exact h1,h2.1⟩
 refine⟨fun x hx=>(hm x hx).1,fun x hx y hy=>(hm x hx).2.trans (hm y hy).2.symm,?_,Nat.le_trans (Sf p os gen args _) h16⟩;refine List.Nodup.sublist (List.filter_sublist ..) ?_;exact(I0 _).imp fun h e=>by omega
def mE (x:Pl×Bool):Pl×Int:=if x.2 then(x.1,0)else(lX,5)
def Mp (p:Prog) (os:List Ob) (gen:Int) (args:List (Int×Int)):Pl×Int:=if CF p os gen args then mE (Mf (Ap p) p (OW p os gen args))else(lX,2)
abbrev tn (x:Pl×Int) (g:Bool):V:= .t [.a (rY x.1 g (x.2 != 0)),eI x.2]
attribute [local irreducible] BC Ax Ai AU AO Ag AV AW AM Af AR AT A0 A9 Sat Ab A6 Ak W
def ZP (p:Prog) (os:List Ob) (f:Bool) (gen:Int) (args:List (Int×Int)) (g:Bool):Pure Tryz.prog 20 [.a (BU p),.l (os.map E6) f,eI gen,.l (pP args) g] (tn (Mp p os gen args) true):=by
 refine Pure.of ?_;have hr:=Gw p;generalize hX:Mp p os gen args=X;rw[Mp]at hX;refine nh kZ ?_;have hs:=Sn
 conv=>whnf
 repeat'((first|apply st|(apply sq;intro K U)|(apply si;intro A B Y Z)|(apply Y;clear Z B Y A)|(apply U;clear U K)|refine⟨kZ,?_⟩|(intro nn hnn;generalize hg:A8 _ nn _=σ;refine CW hg fun hs=>?_;clear hg)|fail)<;>conv=>whnf)
 refine hr.use (rest:=_) hs ?_;clear hs;cases h:(BM p).isSome
 ·have c1:=V2 os f gen args g
  have hb:CF p os gen args=false:=by simp only[CF,h,Bool.false_and]
  rw[hb,if_neg (by decide)]at hX;subst hX;rintro r post σ ⟨rfl,rfl⟩ hs
  conv=>whnf
  repeat'((first|apply st|(apply sq;intro K U)|(apply si;intro A B Y Z)|(apply Y;clear Z B Y A)|(apply U;clear U K)|refine⟨kZ,?_⟩|refine ld ?_|refine DJ fun σ hs=>?_|refine E7 ?_|refine c1.use ?_|clear U K)<;>conv=>whnf)
  exact AP (by rfl)
 ·rintro r post σ ⟨L,rfl,rfl⟩ hs
  have c1:=call56 p L os f gen args g h;cases hb:CF p os gen args<;>rw[hb]at c1 hX
  ·rw[if_neg (by decide)]at hX
   subst hX
   conv=>whnf
   repeat'((first|apply st|(apply sq;intro K U)|(apply si;intro A B Y Z)|(apply Y;clear Z B Y A)|(apply U;clear U K)|refine⟨kZ,?_⟩|refine ld ?_|refine DJ fun σ hs=>?_|refine E7 ?_|refine c1.use ?_|clear U K)<;>conv=>whnf)
   exact AP (by rfl)
  ·have c2:=Pn p L os f gen args g hb
   have c3:=fu p L (OW p os gen args) true h (Xp (look_ok h).many) [];rw[if_pos rfl]at hX;generalize Mf (Ap p) p (OW p os gen args)=x at *;obtain⟨x,b⟩:=x;cases b
   all_goals
    subst hX
    conv=>whnf
    repeat'((first|apply st|(apply sq;intro K U)|(apply si;intro A B Y Z)|(apply Y;clear Z B Y A)|(apply U;clear U K)|refine EA ?_|refine c1.use ?_|refine c2.use ?_|fail)<;>conv=>whnf)
    refine c3.use (rest:=_) hs ?_;clear hs;rintro r post σ ⟨rfl,M,rfl⟩ hs
    conv=>whnf
    repeat'((first|apply st|(apply sq;intro K U)|(apply si;intro A B Y Z)|(apply Y;clear Z B Y A)|(apply U;clear U K)|refine⟨kZ,?_⟩|refine ld ?_|refine DJ fun σ hs=>?_|refine E7 ?_|refine EA ?_|(intro nn hnn;generalize hg:A8 _ nn _=σ;refine CW hg fun hs=>?_;clear hg)|clear U K)<;>conv=>whnf)
    exact AP (by rfl)
def Yd (x:Pl) (g h g' h':Bool):Pure Tryz.prog 22 [.a (rY x g h),.a (rY x g' h')] (.b true):=by
 obtain⟨a,t,b,c,u,d⟩:=x
 have c1: ∀(xs:List Int) (f g:Bool),Pure Tryz.prog 30 [.l (iL xs) f,.l (iL xs) g] (.b true):=fun xs f g=>by
  have:=Ng xs xs f g
  rwa [beq_self_eq_true]at this
 cases t
 all_goals
  cases u
  all_goals
   refine ng kZ ?_;have hs:=Sn
   conv=>whnf
   repeat'((first|apply st|(apply sq;intro K U)|(apply si;intro A B Y Z)|(apply Y;clear Z B Y A)|(apply U;clear U K)|refine E7 ?_|refine Pure.use (c1 _ _ _) ?_|fail)<;>conv=>whnf)
   all_goals exact AI rfl
end Go.Gl
namespace Go.Gl
open Go.Proofs
attribute [local irreducible] BC Ax Ai AU AO Ag AV AW AM Af AR AT A0 A9 Sat Ab A6 Ak W
def Qp (p:Prog) (os:List Ob) (f:Bool) (gen:Int) (args:List (Int×Int)) (g:Bool) (q3:Pure Tryz.prog 14 [] (.b true)):Pure Tryz.prog 8 [.a (BU p),.l (os.map E6) f,eI gen,.l (pP args) g] (.b true):=by
 have q1:=Xw p os f gen args g;have q2:=Xm p os f gen args g;have q6:=fun a b=>Ng (Eh p os gen args).1 (Eh p os gen args).1 a b
 rw[beq_self_eq_true]at q6;generalize Eh p os gen args=x at *;obtain⟨xs,e⟩:=x;dsimp only at *;refine sO kZ ?_;have hs:=Sn
 conv=>whnf
 repeat'((first|apply st|(apply sq;intro K U)|(apply si;intro A B Y Z)|(apply Y;clear Z B Y A)|(apply U;clear U K)|refine⟨rfl,?_⟩|refine⟨kZ,?_⟩|refine q1.use ?_|refine q2.use ?_|refine q3.use ?_|refine Pure.use (q6 _ _) ?_|(constructor<;>intro hc<;>(try rw[hc])<;>(replace hc:=bp hc)<;>(try simp(disch:=omega) only[BQ,wrap64,AL]at hc)<;>try(exfalso;omega))|fail)<;>conv=>whnf)
 all_goals first
  | exact AI rfl
  | (exfalso;simp at hc;done)
end Go.Gl
namespace Go.Gl
open Go.Proofs
def lS (c:Int):Fact:=Fact.mk 2 0 [] c 0 []
def OL:Prog:=⟨[⟨[],[],[]⟩,⟨[3],[],[]⟩,⟨[3],[],[]⟩,⟨[4,5],[],[]⟩],0,[1],
 [⟨1,0,lS 3,0⟩,⟨1,0,lS 4,1⟩,⟨1,0,lS 5,2⟩,⟨2,0,Fact.mk 1 0 [] 0 0 [],3⟩,⟨2,0,lS 4,4⟩,⟨3,0,lS 3,5⟩,⟨3,0,lS 4,6⟩],
 [⟨2,0,[]⟩,⟨2,0,[]⟩,⟨2,0,[]⟩,⟨2,0,[]⟩,⟨2,0,[]⟩,⟨2,0,[]⟩,⟨2,0,[]⟩,⟨2,0,[]⟩],7⟩
def gz:HG OL 1 0=(true,0):=by kernel_rfl
def gy:HG OL 1 2=(false,0):=by kernel_rfl
def hQ:HG OL 0 3=(false,7):=by kernel_rfl
end Go.Gl
namespace Go.Gl
open Go.Proofs
attribute [local irreducible] BC Ax Ai AU AO Ag AV AW AM Af AR AT A0 A9 Sat Ab A6 Ak W
def sJ (c:Int):Pure Tryz.prog 74 [eI c] (.a [eI 2,eI 0,.l [] true,eI c,eI 0,.l [] true]):=by
 refine nE kZ ?_;have hs:=Sn
 conv=>whnf
 repeat'((first|apply st|(apply sq;intro K U)|(apply si;intro A B Y Z)|(apply Y;clear Z B Y A)|(apply U;clear U K)|refine⟨kZ,?_⟩|refine ld ?_|refine DJ fun σ hs=>?_|(intro nn hnn;generalize hg:A8 _ nn _=σ;refine CW hg fun hs=>?_;clear hg)|fail)<;>conv=>whnf)
 all_goals exact AI rfl
def rZ (k:Nat):Int:=if k<3 then 1 else if k<5 then 2 else 3
def tr (k:Nat):Int:=if k=3 then 1 else 2
def ts (k:Nat):Int:=if k=0 then 3 else if k=1 then 4 else if k=2 then 5 else if k=3 then 0 else if k=4 then 4 else if k=5 then 3 else 4
def mR (b:Bool) (k:Nat):List V:=[eI (rZ k),eI 0,eI (tr k),eI 0,.l [] b,eI (ts k),eI 0,.l [] b,eI (BL k)]
def fR (k:Nat):List V:=[eI (tr k),eI 0,.l [] true,eI (ts k),eI 0,.l [] true]
def nR (b:Bool) (_:Nat):List V:=[eI 2,eI 0,.l [] b]
def cn:Er (mR true) 9:=fun x=>⟨rfl,fun v hv=>by
 simp only[mR,Fh,List.not_mem_nil,or_false]at hv
 rcases hv with rfl|rfl|rfl|rfl|rfl|rfl|rfl|rfl|rfl<;>rfl⟩
def Vk:Er (nR true) 3:=fun x=>⟨rfl,fun v hv=>by
 simp only[nR,Fh,List.not_mem_nil,or_false]at hv
 rcases hv with rfl|rfl|rfl<;>rfl⟩
abbrev bQ:V:= .l [[.l [] true,.l [] true,.l [] true],[.l [[eI 3]] true,.l [] true,.l [] true],[.l [[eI 3]] true,.l [] true,.l [] true],[.l [[eI 4],[eI 5]] true,.l [] true,.l [] true]] true
def aF {σ:AH}:Gd σ emp bQ (.l (OL.AN.map OU) false):=
 .l (fun h=>by cases h) (.cons (.cons Cg (.cons Cg (.cons Cg .nil))) (.cons (.cons Ml (.cons Cg (.cons Cg .nil))) (.cons (.cons Ml (.cons Cg (.cons Cg .nil))) (.cons (.cons Ml (.cons Cg (.cons Cg .nil))) .nil))))
def gW {σ:AH} (k:Nat):Dd σ emp (mR true k) (mR false k):= .cons (.refl _) (.cons (.refl _) (.cons (.refl _) (.cons (.refl _) (.cons Cg (.cons (.refl _) (.cons (.refl _) (.cons Cg (.cons (.refl _) .nil))))))))
def gT {σ:AH} (k:Nat):Dd σ emp (nR true k) (nR false k):= .cons (.refl _) (.cons (.refl _) (.cons Cg .nil))
set_option maxHeartbeats 4000000 in
def sM:Pure Tryz.prog 48 [] (.a (BU OL)):=by
 refine Pure.of ?_;have hM:=Mx;refine nX kZ ?_;have hs:=Sn
 conv=>whnf
 repeat'((first|apply st|(apply sq;intro K U)|(apply si;intro A B Y Z)|(apply Y;clear Z B Y A)|(apply U;clear U K)|refine DJ fun σ hs=>?_|refine Pure.use (sJ _) ?_|(intro nn hnn;generalize hg:A8 _ nn _=σ;refine CW hg fun hs=>?_;clear hg)|fail)<;>conv=>whnf)
 rename_i n0 _ _ _ _ _;refine CZ (List.range 7).length (fun k (_:V×V)=>[(2,.l ((List.range 7).map fun k=>[eI (rZ k)]) true),(3,.l ((List.range 7).map fR) true),(4,eI (BL k))]) (fun k x=>[.box nn [bQ,eI 0,.l [[eI 1]] true,x.1,x.2,eI 0],.box n0 [.l [] true,eI 0,.l [] true,.l [] true,.l [] true,eI 0],.own x.1 9 ((List.range k).map (mR true)),.own x.2 3 ((List.range k).map (nR true))]) (fun _ _=>True) (.l [] true,.l [] true) rfl trivial (Gg (Gg hs 9) 3) ?_;clear hs;rintro k ⟨v,u⟩ σ hk - hs;dsimp only at hs;have hr7:(List.range 7).length=7:=List.length_range;have hlr:(List.range k).length=k:=List.length_range;rcases BS (List.range 7) hk with⟨y,hy,hlt⟩|hke
 ·obtain rfl:k=y:=by
   have h:=(Hr.1 hy).2;rw[List.getElem_range]at h;exact h
  have hck:BL k=k:=AL (by omega);have e1:(List.range (k+1)).map (mR true)=(List.range k++[k]).map (mR true):=by rw[List.range_succ]
  have e2:(List.range (k+1)).map (nR true)=(List.range k++[k]).map (nR true):=by rw[List.range_succ]
  have hll:(List.range k).length<Ae∧((List.range k).length+1)*104≤140737488355328:=by omega
  have hl2:(List.range k).length<Ae∧((List.range k).length+1)*40≤140737488355328:=by omega
  generalize List.range k=ks at *
  conv=>whnf
  repeat'((first|apply st|(apply sq;intro K U)|(apply si;intro A B Y Z)|(apply Y;clear Z B Y A)|(apply U;clear U K)|apply dr|refine⟨rfl,?_⟩|refine⟨kZ,?_⟩|refine ix ?_|refine ld ?_|refine El fun σ hs=>?_|(refine Cs (fun hc=>?_)<;>(try rw[hc])<;>clear hc)|refine aq (enc:=mR true) (x:=k) (fun v σ hs hsl=>?_) (hg:=cn)|refine aq (enc:=nR true) (x:=k) (fun v σ hs hsl=>?_) (hg:=Vk)|clear U K)<;>conv=>whnf)
  rename_i v9 _ _ _ _ _ _ _;exact⟨hlt,(v9,v),rfl,trivial,by rw[e1,e2];exact hs⟩
 ·have hl2:(List.range k).length<Ae∧((List.range k).length+1)*40≤140737488355328:=by omega
  conv=>whnf
  repeat'((first|apply st|(apply sq;intro K U)|(apply si;intro A B Y Z)|(apply Y;clear Z B Y A)|(apply U;clear U K)|refine⟨rfl,?_⟩|refine⟨kZ,?_⟩|refine ld ?_|refine El fun σ hs=>?_|(refine EV (fun hc=>?_)<;>(try rw[hc])<;>clear hc)|refine aq (enc:=nR true) (x:=k) (fun v σ hs hsl=>?_) (hg:=Vk)|clear U K)<;>conv=>whnf)
  obtain rfl:k=7:=by omega
  have o1:=Ge hs 2 rfl;have o2:=Ge hs 3 rfl;refine IA hs 1 rfl rfl rfl (by simp[bQ,o1,o2]) (by decide) fun σ hs=>?_
  clear o1 o2
  conv=>whnf
  repeat'((first|apply st|(apply Y;clear Z B Y A)|(apply U;clear U K)|refine⟨kZ,?_⟩|refine ld ?_|fail)<;>conv=>whnf)
  have hfr:Gd σ emp (V.a [bQ,eI 0,.l [[eI 1]] true,_,v,eI (((List.range 7).map fun k=>[eI (rZ k)]).length:Nat)]) (V.a [.l (OL.AN.map OU) false,eI 0,.l [[eI 1]] false,.l ((List.range 7).map (mR false)) false,.l ((List.range 7++[7]).map (nR false)) false,eI (((List.range 7).map fun k=>[eI (rZ k)]).length:Nat)]):= .a (.cons aF (.cons (.refl _) (.cons Ml (.cons (Own.lr (hs.get (i:=2) rfl) (NL gW _)) (.cons (Own.lr (hs.get (i:=3) rfl) (NL gT _)) (.cons (.refl _) .nil))))));refine GM (σ2:=emp) (fun n o ho=>by cases ho) hfr ?_;show R.ret _=R.ret _
  kernel_rfl
def SC {n:Nat} {f:Nat→Nat→Bool} {i:Nat} (h: ∀j,f i j=false):Jf n f i= []:=by
 rw[Jf,List.filter_eq_nil_iff.2 fun j _=>by rw[h j];decide];rfl
set_option maxHeartbeats 4000000 in
def cB (p : Prog) (gen kind:Int):Pure Tryz.prog 15 [.a (BU p),eI gen,eI kind] (.t [.l (pP (GK p gen kind).1) true,eI (GK p gen kind).2]):=by
 refine Pure.of ?_;have hM:=Mx;have hr:=Gw p;refine nk kZ ?_;have hs:=Sn
 conv=>whnf
 repeat'((first|apply st|(apply sq;intro K U)|(apply si;intro A B Y Z)|(apply Y;clear Z B Y A)|(apply U;clear U K)|refine⟨kZ,?_⟩|fail)<;>conv=>whnf)
 refine hr.use (rest:=[]) (by simpa using hs) ?_;clear hs;cases h:(BM p).isSome
 ·have hg:=Tq gen
  rintro r post σ ⟨rfl,rfl⟩ hs
  conv=>whnf
  repeat'((first|apply st|(apply sq;intro K U)|(apply si;intro A B Y Z)|(apply Y;clear Z B Y A)|(apply U;clear U K)|refine ld ?_|refine El fun σ hs=>?_|refine WU ?_|refine hg.use ?_|(intro nn hnn;generalize hg:A8 _ nn _=σ;refine CW hg fun hs=>?_;clear hg)|clear U K)<;>conv=>whnf)
  exact AP (by simp[GK,h])
 ·rintro r post σ ⟨L,rfl,rfl⟩ hs
  have hg:=YQ p L gen;have hok:=look_ok h;have h16:=hok.many;have hgw:=Mk h;have hfm:=Jz h;cases h2:I9 p gen
  ·rw[h2]at hg
   conv=>whnf
   repeat'((first|apply st|(apply sq;intro K U)|(apply si;intro A B Y Z)|(apply Y;clear Z B Y A)|(apply U;clear U K)|refine ld ?_|refine El fun σ hs=>?_|refine WU ?_|refine hg.use ?_|(intro nn hnn;generalize hg:A8 _ nn _=σ;refine CW hg fun hs=>?_;clear hg)|clear U K)<;>conv=>whnf)
   exact AP (by simp[GK,h,h2])
  rw[h2]at hg;by_cases h3:Rl kind=true
  ·have hk :=h3
   simp only[Rl,BY,CY]at hk
   conv=>whnf
   repeat'((first|apply st|(apply sq;intro K U)|(apply si;intro A B Y Z)|(apply Y;clear Z B Y A)|(apply U;clear U K)|refine⟨rfl,?_⟩|refine ld ?_|refine El fun σ hs=>?_|refine Ku ?_|refine hg.use ?_|refine Pure.use (WI _ _ _) ?_|(constructor<;>intro hc<;>(try rw[hc])<;>(replace hc:=bp hc)<;>try(exfalso;omega))|(intro nn hnn;generalize hg:A8 _ nn _=σ;refine CW hg fun hs=>?_;clear hg)|clear U K)<;>conv=>whnf)
   ·rename_i nr _ _ _ _ _ _ nO _ _ _
    refine Rk p L gen h16 (nn:=nn) (fun s:List (Int×Int)×List (Int×Int)×V=>[.box nO [s.2.2],.own s.2.2 2 (pP s.2.1),.box nr [FR p L],.map L (Eu p s.1)]) (fun k s=>s.2.1=(List.range k).flatMap (Jf p.methods.length (Hm p gen kind))) ([],[],.l [] true) rfl ((DK hs 2).perm (HZ _ _ _ _)) ?_ ?_ ?_
    ·intro k s hlt hne hi
     rw[G7,←hi,SC (fun j=>by simp[Hm,hne]),Hs]
    ·clear hs hnn
     intro k s hlt hgk hi rest σ hs;have hck:BL k=k:=AL (by omega);have hmk:BE p (k:Int)=true:=by simp[BE];omega
     rw[←hck];refine ER (l:=[.box nO [s.2.2],.own s.2.2 2 (pP s.2.1),.box nr [FR p L],.map L (Eu p s.1)]++rest) rfl hs ?_;clear hs;intro σ hs
     conv=>whnf
     repeat'((first|apply st|(apply sq;intro K U)|(apply si;intro A B Y Z)|(apply Y;clear Z B Y A)|(apply U;clear U K)|refine ld ?_|refine El fun σ hs=>?_|refine Pure.use (WI _ _ _) ?_|(intro nn hnn;generalize hg:A8 _ nn _=σ;refine CW hg fun hs=>?_;clear hg)|clear U K)<;>conv=>whnf)
     rename_i nm _ _ _ _ _;clear hnn;refine Rk p L gen h16 (nn:=nn) (fun s':List (Int×Int)×List (Int×Int)×V=> .box nm [eI (BL k)]::([.box nO [s'.2.2],.own s'.2.2 2 (pP s'.2.1),.box nr [FR p L],.map L (Eu p s'.1)]++rest)) (fun j s'=>s'.2.1=(List.range k).flatMap (Jf p.methods.length (Hm p gen kind))++Ko (Hm p gen kind) k j) s (by simp[Ko,hi]) hs ?_ ?_ ?_
     ·intro j s' hjlt hne hi'
      have:Hm p gen kind k j=false:=by
       rw[←Bool.not_eq_true,Zi];exact fun e=>hne e.2.1.1
      rw[Ia,this,hi'];simp
     ·clear hs hi
      intro j s' hjlt hgj hi' rest2 σ hs;have hcj:BL j=j:=AL (by omega);have hmj:BE p (j:Int)=true:=by simp[BE];omega
      obtain⟨x,hx⟩: ∃x,p.methods[k]? =some x:=⟨_,Da hlt⟩
      have hxe:BI p (k:Int)=x:=by
       have:=CQ hmk;rw[Jb,hx]at this;exact(Option.some.inj this).symm
      have c4:Pure Tryz.prog 44 [FR p L,eI (BL k),eI (BL j)] (.b (Cw p k j)):=by rw[hck,hcj];exact MR p L k j hmk hmj
      have c5:Bd Tryz.prog 45 [FR p L,eI (BL k),eI (BL j)] [.map L (Eu p s'.1)] fun r post=>r= .ret (.b (Ap p k j))∧post= [.map L (Eu p (Md p s'.1 k j))]:=by rw[hck,hcj];exact NV p L k j hok hgw hfm hmk hmj s'.1
      have hoe:Hm p gen kind k j=(x.kind==kind&&(Cw p k j&&Ap p k j)):=by rw[Hm,hxe,←hxe,hgk,hxe];simp
      have hrs:=Ia (Hm p gen kind) k j;have hfl:=MP p.methods.length (Hm p gen kind) k;have hrl:=QR (Hm p gen kind) k j;have hkk:k*p.methods.length≤16*16:=Nat.mul_le_mul (by omega) h16;have hll:s'.2.1.length<Ae∧(s'.2.1.length+1)*16≤140737488355328:=by rw[hi',RA];omega
      have hno:Hm p gen kind k j=false→s'.2.1=(List.range k).flatMap (Jf p.methods.length (Hm p gen kind))++Ko (Hm p gen kind) k (j+1):=fun e=>by rw[hrs,e,hi'];simp
      rw[←hcj];refine ER (l:= .box nm [eI (BL k)]::([.box nO [s'.2.2],.own s'.2.2 2 (pP s'.2.1),.box nr [FR p L],.map L (Eu p s'.1)]++rest)++rest2) rfl hs ?_;clear hs;intro σ hs;by_cases hkd:x.kind=kind
      ·cases hal:Cw p k j<;>rw[hal]at c4
       ·conv=>whnf
        repeat'((first|apply st|(apply sq;intro K U)|(apply si;intro A B Y Z)|(apply Y;clear Z B Y A)|(apply U;clear U K)|apply dr|refine⟨rfl,?_⟩|refine ix ?_|refine ld ?_|refine EA ?_|refine c4.use ?_|(constructor<;>intro hc<;>(try rw[hc])<;>(replace hc:=bp hc)<;>try(exfalso;omega))|fail)<;>conv=>whnf)
        intro hn;exact⟨s',rfl,hno (by rw[hoe,hal];simp),hs.JA hn⟩
       ·cases hah:Ap p k j<;>rw[hah]at c5
        all_goals
         conv=>whnf
         repeat'((first|apply st|(apply sq;intro K U)|(apply si;intro A B Y Z)|(apply Y;clear Z B Y A)|apply dr|refine⟨rfl,?_⟩|refine ix ?_|refine ld ?_|refine E7 ?_|refine c4.use ?_|(constructor<;>intro hc<;>(try rw[hc])<;>(replace hc:=bp hc)<;>try(exfalso;omega))|fail)<;>conv=>whnf)
         refine c5.use (rest:=_) (hs.front (j:=4) rfl) ?_;clear hs;rintro r post σ ⟨rfl,rfl⟩ hs
         conv=>whnf
         repeat'((first|apply st|(apply si;intro A B Y Z)|(apply Y;clear Z B Y A)|(apply U;clear U K)|apply dr|refine ld ?_|refine El fun σ hs=>?_|refine E7 ?_|refine EA ?_|refine aq (enc:=pI) (x:=((_:Int),(_:Int))) (fun v σ hs hsl=>?_) (hg:=Mz)|fail)<;>conv=>whnf)
        ·intro hn
         exact⟨(Md p s'.1 k j,s'.2.1,s'.2.2),rfl,hno (by rw[hoe,hah];simp),(Sat.back (l:=(.box nm [eI (BL k)]::([.box nO [s'.2.2],.own s'.2.2 2 (pP s'.2.1),.box nr [FR p L],.map L (Eu p (Md p s'.1 k j))]++rest))++rest2) (j:=4) hs rfl).JA hn⟩
        ·intro hn
         refine⟨(Md p s'.1 k j,s'.2.1++[((k:Int),(j:Int))],v),rfl,?_,Sat.JA ?_ hn⟩
         ·rw[hrs,show Hm p gen kind k j=true by rw[hoe,hah,hal];simp[hkd],hi',if_pos rfl,TW]
         ·rw[show((k:Int),(j:Int))=(BL k,BL j) by rw[hck,hcj]]
          exact Sat.back (l:=(.box nm [eI (BL k)]::([.box nO [v],.own v 2 (pP (s'.2.1++[(BL k,BL j)])),.box nr [FR p L],.map L (Eu p (Md p s'.1 k j))]++rest))++rest2) (j:=4) hs rfl
      ·conv=>whnf
       repeat'((first|apply st|(apply sq;intro K U)|(apply si;intro A B Y Z)|(apply Y;clear Z B Y A)|(apply U;clear U K)|apply dr|refine⟨rfl,?_⟩|refine ix ?_|refine ld ?_|(constructor<;>intro hc<;>(try rw[hc])<;>(replace hc:=bp hc)<;>try(exfalso;omega))|fail)<;>conv=>whnf)
       intro hn;exact⟨s',rfl,hno (by rw[hoe];simp[hkd]),hs.JA hn⟩
     ·clear hs hi
      intro s' σ hi' hs;refine FJ hs fun σ hs=>?_
      conv=>whnf
      intro hn;exact⟨s',rfl,by rw[G7];exact hi',(hs.less (Kh _ _)).JA hn⟩
    ·clear hs hnn
     intro s σ hi hs;refine FJ hs fun σ hs=>?_
     conv=>whnf
     repeat'((first|(apply sq;intro K U)|(apply si;intro A B Y Z)|(apply U;clear U K)|refine ld ?_|fail)<;>conv=>whnf)
     refine(Y4 s.2.1 s.2.2 (by have:=MP p.methods.length (Hm p gen kind) p.methods.length;have:p.methods.length*p.methods.length≤16*16:=Nat.mul_le_mul h16 h16;rw[hi];omega)).use (rest:=_) (hs.front (j:=1) rfl) ?_;clear hs;rintro r post σ ⟨rfl,rfl⟩ hs
     conv=>whnf
     repeat'((first|apply st|(apply Y;clear Z B Y A)|(apply U;clear U K)|fail)<;>conv=>whnf)
     exact AP (by simp[GK,h,h2,h3,P9,hi])
   ·exfalso
    simp at hc;omega
  ·have hk:kind<1∨4<kind:=by simp only[Rl,BY,CY]at h3;omega
   have h3':Rl kind=false:=by simpa using h3
   rcases hk with hk|hk
   ·conv=>whnf
    repeat'((first|apply st|(apply sq;intro K U)|(apply si;intro A B Y Z)|(apply Y;clear Z B Y A)|(apply U;clear U K)|refine⟨rfl,?_⟩|refine ld ?_|refine El fun σ hs=>?_|refine Ku ?_|refine hg.use ?_|refine Pure.use (WI _ _ _) ?_|(constructor<;>intro hc<;>(try rw[hc])<;>(replace hc:=bp hc)<;>try(exfalso;omega))|(intro nn hnn;generalize hg:A8 _ nn _=σ;refine CW hg fun hs=>?_;clear hg)|clear U K)<;>conv=>whnf)
    ·exfalso
     have q:(bif !true then true else decide (kind<1))=false:=by assumption
     simp at q;omega
    ·exact AP (by simp[GK,h,h2,h3'])
   ·conv=>whnf
    repeat'((first|apply st|(apply sq;intro K U)|(apply si;intro A B Y Z)|(apply Y;clear Z B Y A)|(apply U;clear U K)|refine⟨rfl,?_⟩|refine ld ?_|refine El fun σ hs=>?_|refine Ku ?_|refine hg.use ?_|(constructor<;>intro hc<;>(try rw[hc])<;>(replace hc:=bp hc)<;>try(exfalso;omega))|(intro nn hnn;generalize hg:A8 _ nn _=σ;refine CW hg fun hs=>?_;clear hg)|clear U K)<;>conv=>whnf)
    all_goals exact AP (by simp[GK,h,h2,h3'])
set_option maxHeartbeats 4000000 in
def bZ (p : Prog) (gen:Int):Pure Tryz.prog 17 [.a (BU p),eI gen] (.t [.l (pP (Ky p gen).1) true,eI (Ky p gen).2]):=by
 refine Pure.of ?_;have hM:=Mx;have hr:=Gw p;refine nj kZ ?_;have hs:=Sn
 conv=>whnf
 repeat'((first|apply st|(apply sq;intro K U)|(apply si;intro A B Y Z)|(apply Y;clear Z B Y A)|(apply U;clear U K)|refine⟨kZ,?_⟩|fail)<;>conv=>whnf)
 refine hr.use (rest:=[]) (by simpa using hs) ?_;clear hs;cases h:(BM p).isSome
 ·have hg:=Tq gen
  rintro r post σ ⟨rfl,rfl⟩ hs
  conv=>whnf
  repeat'((first|apply st|(apply sq;intro K U)|(apply si;intro A B Y Z)|(apply Y;clear Z B Y A)|(apply U;clear U K)|refine ld ?_|refine El fun σ hs=>?_|refine E7 ?_|refine hg.use ?_|(intro nn hnn;generalize hg:A8 _ nn _=σ;refine CW hg fun hs=>?_;clear hg)|clear U K)<;>conv=>whnf)
  exact AP (by simp[Ky,h])
 ·rintro r post σ ⟨L,rfl,rfl⟩ hs
  have hg:=YQ p L gen;have hok:=look_ok h;have h16:=hok.many;have hgw:=Mk h;have hfm:=Jz h;cases h2:I9 p gen
  ·rw[h2]at hg
   conv=>whnf
   repeat'((first|apply st|(apply sq;intro K U)|(apply si;intro A B Y Z)|(apply Y;clear Z B Y A)|(apply U;clear U K)|refine ld ?_|refine El fun σ hs=>?_|refine E7 ?_|refine hg.use ?_|(intro nn hnn;generalize hg:A8 _ nn _=σ;refine CW hg fun hs=>?_;clear hg)|clear U K)<;>conv=>whnf)
   exact AP (by simp[Ky,h,h2])
  rw[h2]at hg
  conv=>whnf
  repeat'((first|apply st|(apply sq;intro K U)|(apply si;intro A B Y Z)|(apply Y;clear Z B Y A)|(apply U;clear U K)|refine ld ?_|refine El fun σ hs=>?_|refine EA ?_|refine hg.use ?_|refine Pure.use (WI _ _ _) ?_|(intro nn hnn;generalize hg:A8 _ nn _=σ;refine CW hg fun hs=>?_;clear hg)|fail)<;>conv=>whnf)
  rename_i nr _ _ _ _ _ nO _ _ _;refine Rk p L gen h16 (nn:=nn) (fun s:List (Int×Int)×List (Int×Int)×V=>[.box nO [s.2.2],.own s.2.2 2 (pP s.2.1),.box nr [FR p L],.map L (Eu p s.1)]) (fun k s=>s.2.1=(List.range k).flatMap (Jf p.methods.length (Q4 p gen))) ([],[],.l [] true) rfl ((DK hs 2).perm (HZ _ _ _ _)) ?_ ?_ ?_
  ·intro k s hlt hne hi
   rw[G7,←hi,SC (fun j=>by simp[Q4,hne]),Hs]
  ·clear hs hnn
   intro k s hlt hgk hi rest σ hs;have hck:BL k=k:=AL (by omega);have hmk:BE p (k:Int)=true:=by simp[BE];omega
   rw[←hck];refine ER (l:=[.box nO [s.2.2],.own s.2.2 2 (pP s.2.1),.box nr [FR p L],.map L (Eu p s.1)]++rest) rfl hs ?_;clear hs;intro σ hs
   conv=>whnf
   repeat'((first|apply st|(apply sq;intro K U)|(apply si;intro A B Y Z)|(apply Y;clear Z B Y A)|(apply U;clear U K)|refine ld ?_|refine El fun σ hs=>?_|refine Pure.use (WI _ _ _) ?_|(intro nn hnn;generalize hg:A8 _ nn _=σ;refine CW hg fun hs=>?_;clear hg)|clear U K)<;>conv=>whnf)
   rename_i nm _ _ _ _ _;clear hnn;refine Rk p L gen h16 (nn:=nn) (fun s':List (Int×Int)×List (Int×Int)×V=> .box nm [eI (BL k)]::([.box nO [s'.2.2],.own s'.2.2 2 (pP s'.2.1),.box nr [FR p L],.map L (Eu p s'.1)]++rest)) (fun j s'=>s'.2.1=(List.range k).flatMap (Jf p.methods.length (Q4 p gen))++Ko (Q4 p gen) k j) s (by simp[Ko,hi]) hs ?_ ?_ ?_
   ·intro j s' hjlt hne hi'
    have:Q4 p gen k j=false:=by
     rw[←Bool.not_eq_true];exact fun e=>hne (ba e).1.2
    rw[Ia,this,hi'];simp
   ·clear hs hi
    intro j s' hjlt hgj hi' rest2 σ hs;have hcj:BL j=j:=AL (by omega);have hmj:BE p (j:Int)=true:=by simp[BE];omega
    have c4:Pure Tryz.prog 44 [FR p L,eI (BL k),eI (BL j)] (.b (Cw p k j)):=by rw[hck,hcj];exact MR p L k j hmk hmj
    have c5:Bd Tryz.prog 54 [FR p L,eI (BL k),eI (BL j)] [.map L (Eu p s'.1)] fun r post=>r= .ret (.b (ES p k j))∧post= [.map L (Eu p (Kv s'.1 (k,j)))]:=by rw[hck,hcj];exact HT p L k j hok hgw hfm hmk hmj s'.1
    have c6:Bd Tryz.prog 54 [FR p L,eI (BL j),eI (BL k)] [.map L (Eu p (Kv s'.1 (k,j)))] fun r post=>r= .ret (.b (ES p j k))∧post= [.map L (Eu p (Kv (Kv s'.1 (k,j)) (j,k)))]:=by rw[hck,hcj];exact HT p L j k hok hgw hfm hmj hmk _
    generalize Kv (Kv s'.1 (k,j)) (j,k)=M2 at *;generalize Kv s'.1 (k,j)=M1 at *;have hoe:Q4 p gen k j=(decide (k<j)&&(Cw p k j&&(ES p k j&&ES p j k))):=by rw[Q4,hgk];simp
    have hrs:=Ia (Q4 p gen) k j;have hfl:=MP p.methods.length (Q4 p gen) k;have hrl:=QR (Q4 p gen) k j;have hkk:k*p.methods.length≤16*16:=Nat.mul_le_mul (by omega) h16;have hll:s'.2.1.length<Ae∧(s'.2.1.length+1)*16≤140737488355328:=by rw[hi',RA];omega
    have hno:Q4 p gen k j=false→s'.2.1=(List.range k).flatMap (Jf p.methods.length (Q4 p gen))++Ko (Q4 p gen) k (j+1):=fun e=>by rw[hrs,e,hi'];simp
    rw[←hcj];refine ER (l:= .box nm [eI (BL k)]::([.box nO [s'.2.2],.own s'.2.2 2 (pP s'.2.1),.box nr [FR p L],.map L (Eu p s'.1)]++rest)++rest2) rfl hs ?_;clear hs;intro σ hs;by_cases hkj:k<j
    ·cases hal:Cw p k j<;>rw[hal]at c4
     ·conv=>whnf
      repeat'((first|apply st|(apply sq;intro K U)|(apply si;intro A B Y Z)|(apply Y;clear Z B Y A)|(apply U;clear U K)|refine⟨rfl,?_⟩|refine ld ?_|refine EA ?_|refine c4.use ?_|(constructor<;>intro hc<;>(try rw[hc])<;>(replace hc:=bp hc)<;>(try simp(disch:=omega) only[BQ,wrap64,AL]at hc)<;>try(exfalso;omega))|fail)<;>conv=>whnf)
      intro hn;exact⟨s',rfl,hno (by rw[hoe,hal];simp),hs.JA hn⟩
     ·cases hi1:ES p k j<;>rw[hi1]at c5
      all_goals
       conv=>whnf
       repeat'((first|apply st|(apply sq;intro K U)|(apply si;intro A B Y Z)|(apply Y;clear Z B Y A)|refine⟨rfl,?_⟩|refine ld ?_|refine E7 ?_|refine c4.use ?_|(constructor<;>intro hc<;>(try rw[hc])<;>(replace hc:=bp hc)<;>(try simp(disch:=omega) only[BQ,wrap64,AL]at hc)<;>try(exfalso;omega))|fail)<;>conv=>whnf)
       refine c5.use (rest:=_) (hs.front (j:=4) rfl) ?_;clear hs;rintro r post σ ⟨rfl,rfl⟩ hs
       conv=>whnf
       repeat'((first|apply st|(apply Y;clear Z B Y A)|(apply U;clear U K)|refine ld ?_|refine E7 ?_|refine EA ?_|fail)<;>conv=>whnf)
      ·intro hn
       exact⟨(M1,s'.2.1,s'.2.2),rfl,hno (by rw[hoe,hi1];simp),(Sat.back (l:=(.box nm [eI (BL k)]::([.box nO [s'.2.2],.own s'.2.2 2 (pP s'.2.1),.box nr [FR p L],.map L (Eu p M1)]++rest))++rest2) (j:=4) hs rfl).JA hn⟩
      cases hi2:ES p j k<;>rw[hi2]at c6
      all_goals
       refine c6.use (rest:=_) hs ?_;clear hs;rintro r post σ ⟨rfl,rfl⟩ hs
       conv=>whnf
       repeat'((first|apply st|(apply si;intro A B Y Z)|(apply Y;clear Z B Y A)|(apply U;clear U K)|refine ld ?_|refine El fun σ hs=>?_|refine E7 ?_|refine EA ?_|refine aq (enc:=pI) (x:=((_:Int),(_:Int))) (fun v σ hs hsl=>?_) (hg:=Mz)|fail)<;>conv=>whnf)
      ·intro hn
       exact⟨(M2,s'.2.1,s'.2.2),rfl,hno (by rw[hoe,hi2];simp),(Sat.back (l:=(.box nm [eI (BL k)]::([.box nO [s'.2.2],.own s'.2.2 2 (pP s'.2.1),.box nr [FR p L],.map L (Eu p M2)]++rest))++rest2) (j:=4) hs rfl).JA hn⟩
      ·intro hn
       refine⟨(M2,s'.2.1++[((k:Int),(j:Int))],v),rfl,?_,Sat.JA ?_ hn⟩
       ·rw[hrs,show Q4 p gen k j=true by rw[hoe,hi1,hi2,hal];simp[hkj],hi',if_pos rfl,TW]
       ·rw[show((k:Int),(j:Int))=(BL k,BL j) by rw[hck,hcj]]
        exact Sat.back (l:=(.box nm [eI (BL k)]::([.box nO [v],.own v 2 (pP (s'.2.1++[(BL k,BL j)])),.box nr [FR p L],.map L (Eu p M2)]++rest))++rest2) (j:=4) hs rfl
    ·conv=>whnf
     repeat'((first|apply st|(apply sq;intro K U)|(apply si;intro A B Y Z)|(apply Y;clear Z B Y A)|(apply U;clear U K)|refine⟨rfl,?_⟩|refine ld ?_|(constructor<;>intro hc<;>(try rw[hc])<;>(replace hc:=bp hc)<;>(try simp(disch:=omega) only[BQ,wrap64,AL]at hc)<;>try(exfalso;omega))|fail)<;>conv=>whnf)
     intro hn;exact⟨s',rfl,hno (by rw[hoe,decide_eq_false hkj];rfl),hs.JA hn⟩
   ·clear hs hi
    intro s' σ hi' hs;refine FJ hs fun σ hs=>?_
    conv=>whnf
    intro hn;exact⟨s',rfl,by rw[G7];exact hi',(hs.less (Kh _ _)).JA hn⟩
  ·clear hs hnn
   intro s σ hi hs;refine FJ hs fun σ hs=>?_
   conv=>whnf
   repeat'((first|(apply sq;intro K U)|(apply si;intro A B Y Z)|(apply U;clear U K)|refine ld ?_|fail)<;>conv=>whnf)
   refine(Y4 s.2.1 s.2.2 (by have:=MP p.methods.length (Q4 p gen) p.methods.length;have:p.methods.length*p.methods.length≤16*16:=Nat.mul_le_mul h16 h16;rw[hi];omega)).use (rest:=_) (hs.front (j:=1) rfl) ?_;clear hs;rintro r post σ ⟨rfl,rfl⟩ hs
   conv=>whnf
   repeat'((first|apply st|(apply Y;clear Z B Y A)|(apply U;clear U K)|fail)<;>conv=>whnf)
   exact AP (by simp[Ky,h,h2,P9,hi])
end Go.Gl
namespace Go.Gl
open Go.Proofs
abbrev tq:Pl:=⟨[],false,[4,3],[1,0],false,[5,6]⟩
abbrev tp:Pl:=⟨[],false,[4,3],[],true,[5,6]⟩
def mh:Mp OL [(4,[])] 0 [(3,0)]=(tq,0):=by kernel_rfl
def mg:Mp OL [(6,[])] 0 [(3,0)]=(tp,0):=by kernel_rfl
def mj:Mp OL [] 0 [(1,0)]=(lX,5):=by kernel_rfl
def mf:HM OL [0,1,2]=(([],true),0):=by kernel_rfl
def me:GK OL 0 1=([(1,0),(2,0)],0):=by kernel_rfl
def mc:Ky OL 0=([],0):=by kernel_rfl
def lu (c:Int) (b b2:Bool):Pure Tryz.prog 20 [.a (BU OL),.l [[eI c,.l [] true]] b,eI 0,.l [[eI 3,eI 0]] b2] (tn (Mp OL [(c,[])] 0 [(3,0)]) true):=
 (ZP OL [(c,[])] false 0 [(3,0)] b2).arg (.cons (.refl _) (.cons (.l (fun h=>by cases h) (.cons (.cons (.refl _) (.cons Cg .nil)) .nil)) (.cons (.refl _) (.cons (.refl _) .nil))))
attribute [local irreducible] BC Ax Ai AU AO Ag AV AW AM Af AR AT A0 A9 Sat Ab A6 Ak W
set_option maxHeartbeats 4000000 in
def cS:Pure Tryz.prog 14 [] (.b true):=by
 have a1:=Qn OL 1 0;have a2:=Qn OL 1 2;have a3:=Qn OL 0 3;rw[gz]at a1;rw[gy]at a2;rw[hQ]at a3;have k4:=fun b c=>lu 4 b c
 have k6:=fun b c=>lu 6 b c
 have k0:=fun b c=>ZP OL [] b 0 [(1,0)] c
 rw[mh]at k4;rw[mg]at k6;rw[mj]at k0;have ch:=fun b=>dL OL [0,1,2] b (by decide)
 rw[mf]at ch;have or:=cB OL 0 1;rw[me]at or;have tw:=bZ OL 0;rw[mc]at tw;have sp: ∀b c,Pure Tryz.prog 19 [.l (pP [(1,0),(2,0)]) b,.l (pP [(1,0),(2,0)]) c] (.b true):=fun b c=>Sr [(1,0),(2,0)] [(1,0),(2,0)] b c (by decide) (by decide)
 refine np kZ ?_;have hs:=Sn
 conv=>whnf
 repeat'((first|apply st|(apply sq;intro K U)|(apply si;intro A B Y Z)|(apply Y;clear Z B Y A)|(apply U;clear U K)|refine⟨rfl,?_⟩|refine⟨kZ,?_⟩|refine ld ?_|refine DJ fun σ hs=>?_|refine EA ?_|refine Ku ?_|refine sM.use ?_|refine a1.use ?_|refine a2.use ?_|refine a3.use ?_|refine Pure.use (k4 _ _) ?_|refine Pure.use (k6 _ _) ?_|refine Pure.use (k0 _ _) ?_|refine Pure.use (ch _) ?_|refine or.use ?_|refine tw.use ?_|refine Pure.use (sp _ _) ?_|refine Pure.use (Yd tq _ _ _ _) ?_|refine Pure.use (Yd tp _ _ _ _) ?_|(constructor<;>intro hc<;>(try rw[hc])<;>(replace hc:=bp hc)<;>(try simp(disch:=omega) only[BQ,wrap64,AL]at hc)<;>try(exfalso;omega))|(intro nn hnn;generalize hg:A8 _ nn _=σ;refine CW hg fun hs=>?_;clear hg)|clear U K)<;>conv=>whnf)
 all_goals first
  | exact AI rfl
  | (exfalso;simp at hc;done)
  | (exfalso;clear hc;rename_i hc;simp at hc;done)
end Go.Gl
