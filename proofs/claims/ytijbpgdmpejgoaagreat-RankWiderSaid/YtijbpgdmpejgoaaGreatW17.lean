import Derived.Test.YtijbpgdmpejgoaaGreatW12
import Derived.Test.YtijbpgdmpejgoaaGreatW13
import Derived.Test.YtijbpgdmpejgoaaGreatW14
import Derived.Test.YtijbpgdmpejgoaaGreatW15
import Derived.Test.YtijbpgdmpejgoaaGreatW16
set_option linter.all false
set_option linter.defProp false
noncomputable section
namespace Go.Gl
open Go.Proofs
attribute [local irreducible] BD Aw Ai AU AO Ah AV AW AN Ag AS AT Ay A9 Sat Ab A4 Aj W
def NN (g:FuncId) (fi ca:List V) (q:Ob→Bool):Prop:= ∀v,Pure Tryz.prog g (fi++[.a (FY v)]++ca) (.b (q v))
def NN.use {g:FuncId} {fi ca:List V} {q:Ob→Bool} (h:NN g fi ca q) {v:Ob} {σ:AH} {k kp:V→AH→Prop} (hk:k (.b (q v)) σ):Ay Tryz.prog (.f (.func g) fi ca) [.a (FY v)] σ (qk k kp):=Bk ((h v).use hk)
def VQ {g:FuncId} {fi ca:List V} {q:Ob→Bool} (hpf:NN g fi ca q) (v:Ob):Pure Tryz.prog 238 [.a (FY v),.rp [.f (.func g) fi ca]] (.b (!q v)):=by
 refine kJ kZ ?_;have hs:=Sn
 conv=>whnf
 repeat'((first|apply st|(apply sq;intro K U)|(apply si;intro A B Y Z)|(apply Y;clear Z B Y A)|(apply U;clear U K)|refine⟨kZ,?_⟩|refine NN.use hpf ?_|fail)<;>conv=>whnf)
 all_goals exact AI rfl
def bT {g:FuncId} {fi ca:List V} {q:Ob→Bool} (hpf:NN g fi ca q) (l:List Ob) (b:Bool):Pure Tryz.prog 267 [.l (l.map FY) b,.f (.func 238) [] [.rp [.f (.func g) fi ca]]] (eI (M5 q l 0)):=by
 refine Pure.fit (by kernel_rfl) fun hf=>?_
 have hl:l.length≤Ac:=by
  have:=hf.1;simp only[D7,BR]at this;exact this.1
 have hM:=Mx;refine j4 kZ ?_;have hs:=Sn
 conv=>whnf
 repeat'((first|apply st|(apply sq;intro K U)|(apply si;intro A B Y Z)|(apply Y;clear Z B Y A)|(apply U;clear U K)|fail)<;>conv=>whnf)
 refine CZ l.length (fun k (_:Unit)=>[(8,eI (BH k))]) (fun _ _=>[]) (fun k _=>M5 q l 0=M5 q (l.drop k) k) () rfl rfl hs ?_;clear hs;rintro k - σ hk hn hs;have hck:BH k=k:=AM (by omega);rcases BM l hk with⟨x,hx,hlt⟩|hke
 ·have c1:=VQ hpf x
  rw[drop_cons hx,M5]at hn;cases hv:q x<;>rw[hv]at c1 hn
  ·conv=>whnf
   repeat'((first|apply st|(apply sq;intro K U)|(apply si;intro A B Y Z)|(apply Y;clear Z B Y A)|(apply U;clear U K)|refine⟨rfl,?_⟩|refine⟨kZ,?_⟩|refine ix ?_|refine FI ?_|(refine Cv (fun hc=>?_)<;>(try rw[hc])<;>clear hc)|refine Bk (c1.use ?_)|clear U K)<;>conv=>whnf)
   exact AI (by rw[hn,if_neg (by decide),hck])
  ·conv=>whnf
   repeat'((first|apply st|(apply sq;intro K U)|(apply si;intro A B Y Z)|(apply Y;clear Z B Y A)|(apply U;clear U K)|refine⟨rfl,?_⟩|refine⟨kZ,?_⟩|refine ix ?_|refine EM ?_|(refine Cv (fun hc=>?_)<;>(try rw[hc])<;>clear hc)|refine Bk (c1.use ?_)|clear U K)<;>conv=>whnf)
   exact⟨hlt,(),rfl,by rw[hn,if_pos rfl],hs⟩
 ·conv=>whnf
  repeat'((first|apply st|(apply sq;intro K U)|(apply si;intro A B Y Z)|(apply Y;clear Z B Y A)|(apply U;clear U K)|refine⟨rfl,?_⟩|(refine EI (fun hc=>?_)<;>(try rw[hc])<;>clear hc)|clear U K)<;>conv=>whnf)
  exact AI (by rw[hn,Ap hke];rfl)
def To {g:FuncId} {fi ca:List V} {q:Ob→Bool} (hpf:NN g fi ca q) (l:List Ob) (b:Bool):Pure Tryz.prog 237 [.l (l.map FY) b,.f (.func 238) [] [.rp [.f (.func g) fi ca]]] (.b (!l.all q)):=by
 have c1:=bT hpf l b;refine kK kZ ?_;have hs:=Sn
 conv=>whnf
 repeat'((first|apply st|(apply sq;intro K U)|(apply si;intro A B Y Z)|(apply Y;clear Z B Y A)|(apply U;clear U K)|refine⟨rfl,?_⟩|refine c1.use ?_|fail)<;>conv=>whnf)
 all_goals exact AI (by rw[←Nz q l 0])
def mq {g:FuncId} {fi ca:List V} {q:Ob→Bool} (hpf:NN g fi ca q) (l:List Ob) (b:Bool):Pure Tryz.prog 186 [.l (l.map FY) b,.f (.func g) fi ca] (.b (l.all q)):=by
 have c1:=To hpf l b;refine lF kZ ?_;have hs:=Sn
 conv=>whnf
 repeat'((first|apply st|(apply sq;intro K U)|(apply si;intro A B Y Z)|(apply Y;clear Z B Y A)|(apply U;clear U K)|refine c1.use ?_|fail)<;>conv=>whnf)
 all_goals exact AI (by rw[Bool.not_not])
def VS (os:List Ob) (f:Bool) (v:Int×Int):Pure Tryz.prog 189 [.a (pI v),.rp [.l (os.map FY) f]] (.b (Bt os.length v)):=by
 have e3:((os.map FY).length:Int)=os.length:=by simp
 have c1:Pure Tryz.prog 149 [.a (pI v),eI ((os.map FY).length:Int)] (.b (Bt os.length v)):=by rw[e3];exact SW v os.length
 refine lD kZ ?_;have hs:=Sn
 conv=>whnf
 repeat'((first|apply st|(apply sq;intro K U)|(apply si;intro A B Y Z)|(apply Y;clear Z B Y A)|(apply U;clear U K)|refine⟨kZ,?_⟩|refine c1.use ?_|fail)<;>conv=>whnf)
 all_goals exact AI rfl
set_option maxHeartbeats 1000000 in
def VT (w:AK) (hw:CH w) (hw2:Jy w) (os:List Ob) (f:Bool) (o:Ob):Pure Tryz.prog 187 [.a (FY o),.rp [.rp (wC w (B2 w.parents))],.rp [.l (os.map FY) f]] (.b (J4 w os.length o)):=by
 refine Pure.fit (by kernel_rfl) fun hf=>?_
 have hM:=Mx;have c1:Pure Tryz.prog 178 [.rp (wC w (B2 w.parents)),eI o.1] (.b (O2 w o.1)):=de w (B2 w.parents) o.1 hw2.len;have c3:=Z9 (g:=189) (fi:=[]) (ca:=[.rp [.l (os.map FY) f]]) (VS os f) o.2 false;cases ho:O2 w o.1<;>rw[ho]at c1
 ·refine UU kZ ?_
  have hs:=Sn
  conv=>whnf
  repeat'((first|apply st|(apply sq;intro K U)|(apply si;intro A B Y Z)|(apply Y;clear Z B Y A)|(apply U;clear U K)|apply dr|refine rk ?_ ?_|exact fun s e=>by cases e;rfl|refine c1.use ?_|fail)<;>conv=>whnf)
  all_goals exact AI (by rw[J4,ho];rfl)
 ·have hor:=ho
  simp only[O2,BV,CL]at hor;have c2:=Sh w o.1 hw hw2 hor.1 hor.2;have hob:J4 w os.length o=(o.2.length==(CN w o.1).length&&o.2.all (Bt os.length)):=by rw[J4,ho,Ev]
  rw[hob];clear hob;generalize CN w o.1=ss at *;by_cases he:o.2.length=ss.length
  ·rw[Du.2 he,Ev]
   refine UU kZ ?_;have hs:=Sn
   conv=>whnf
   repeat'((first|apply st|(apply sq;intro K U)|(apply si;intro A B Y Z)|(apply Y;clear Z B Y A)|(apply U;clear U K)|apply dr|refine rk ?_ ?_|exact fun s e=>by cases e;rfl|refine⟨rfl,?_⟩|refine c1.use ?_|refine c2.use ?_|refine c3.use ?_|(constructor<;>intro hc<;>(try rw[hc])<;>(replace hc:=bp hc)<;>(try simp(disch:=omega) only[BR,wrap64,AM]at hc)<;>try(exfalso;omega))|fail)<;>conv=>whnf)
   all_goals first
    | exact AI rfl
    | (exfalso;simp[he]at hc;done)
    | (exfalso;simp at hc;omega)
  ·rw[beq_eq_false_iff_ne.2 he,Bool.false_and]
   refine UU kZ ?_;have hs:=Sn
   conv=>whnf
   repeat'((first|apply st|(apply sq;intro K U)|(apply si;intro A B Y Z)|(apply Y;clear Z B Y A)|(apply U;clear U K)|apply dr|refine rk ?_ ?_|exact fun s e=>by cases e;rfl|refine⟨rfl,?_⟩|refine c1.use ?_|refine c2.use ?_|(constructor<;>intro hc<;>(try rw[hc])<;>(replace hc:=bp hc)<;>(try simp(disch:=omega) only[BR,wrap64,AM]at hc)<;>try(exfalso;omega))|fail)<;>conv=>whnf)
   all_goals first
    | exact AI rfl
    | (exfalso;simp at hc;omega)
def XP (w:AK) (hw:CH w) (hw2:Jy w) (os:List Ob) (f:Bool):Pure Tryz.prog 146 [.rp (wC w (B2 w.parents)),.l (os.map FY) f] (.b (EY w os)):=by
 refine Pure.fit (by kernel_rfl) fun hf=>?_
 have hM:=Mx;have c1:=mq (g:=187) (fi:=[]) (ca:=[.rp [.rp (wC w (B2 w.parents))],.rp [.l (os.map FY) f]]) (VT w hw hw2 os f) os f;by_cases h40:os.length≤40
 ·have e0:EY w os=os.all (J4 w os.length):=by rw[EY,decide_eq_true h40,Ev]
  rw[e0];refine Zx kZ ?_;have hs:=Sn
  conv=>whnf
  repeat'((first|apply st|(apply sq;intro K U)|(apply si;intro A B Y Z)|(apply Y;clear Z B Y A)|(apply U;clear U K)|refine⟨rfl,?_⟩|refine c1.use ?_|(constructor<;>intro hc<;>(try rw[hc])<;>(replace hc:=bp hc)<;>(try simp(disch:=omega) only[BR,wrap64,AM]at hc)<;>try(exfalso;omega))|fail)<;>conv=>whnf)
  all_goals exact AI rfl
 ·refine Zx kZ ?_
  have hs:=Sn
  conv=>whnf
  repeat'((first|apply st|(apply sq;intro K U)|(apply si;intro A B Y Z)|(apply Y;clear Z B Y A)|(apply U;clear U K)|refine⟨rfl,?_⟩|(constructor<;>intro hc<;>(try rw[hc])<;>(replace hc:=bp hc)<;>(try simp(disch:=omega) only[BR,wrap64,AM]at hc)<;>try(exfalso;omega))|fail)<;>conv=>whnf)
  all_goals exact AI (by rw[EY,decide_eq_false h40];rfl)
def JF (w:AK) (os:List Ob) (args:List (Int×Int)):Bool:=EY w os&&(decide (1≤args.length)&&(decide (args.length≤3)&&args.all (Bt os.length)))
def Px (w:AK) (hw:CH w) (hw2:Jy w) (os:List Ob) (f:Bool) (args:List (Int×Int)) (g:Bool):Pure Tryz.prog 115 [.rp (wC w (B2 w.parents)),.l (os.map FY) f,.l (pP args) g] (.b (JF w os args)):=by
 refine Pure.fit (by kernel_rfl) fun hf=>?_
 have hM:=Mx;have c1:=XP w hw hw2 os f;have c2:=Z9 (g:=148) (fi:=[]) (ca:=[.rp [.l (os.map FY) f]]) (VU os f) args g;rw[JF];cases ho:EY w os<;>rw[ho]at c1
 ·refine Qn kZ ?_
  have hs:=Sn
  conv=>whnf
  repeat'((first|apply st|(apply sq;intro K U)|(apply si;intro A B Y Z)|(apply Y;clear Z B Y A)|(apply U;clear U K)|refine c1.use ?_|fail)<;>conv=>whnf)
  all_goals exact AI rfl
 ·by_cases h1:1≤args.length
  ·by_cases h3:args.length≤3
   ·rw[decide_eq_true h1,decide_eq_true h3,Ev,Ev,Ev]
    refine Qn kZ ?_;have hs:=Sn
    conv=>whnf
    repeat'((first|apply st|(apply sq;intro K U)|(apply si;intro A B Y Z)|(apply Y;clear Z B Y A)|(apply U;clear U K)|refine⟨rfl,?_⟩|refine c1.use ?_|refine c2.use ?_|(constructor<;>intro hc<;>(try rw[hc])<;>(replace hc:=bp hc)<;>(try simp(disch:=omega) only[BR,wrap64,AM]at hc)<;>try(exfalso;omega))|fail)<;>conv=>whnf)
    all_goals exact AI rfl
   ·rw[decide_eq_true h1,decide_eq_false h3,Ev,Bool.false_and,Bool.and_false]
    refine Qn kZ ?_;have hs:=Sn
    conv=>whnf
    repeat'((first|apply st|(apply sq;intro K U)|(apply si;intro A B Y Z)|(apply Y;clear Z B Y A)|(apply U;clear U K)|refine⟨rfl,?_⟩|refine c1.use ?_|(constructor<;>intro hc<;>(try rw[hc])<;>(replace hc:=bp hc)<;>(try simp(disch:=omega) only[BR,wrap64,AM]at hc)<;>try(exfalso;omega))|fail)<;>conv=>whnf)
    all_goals exact AI rfl
  ·rw[decide_eq_false h1,Bool.false_and,Bool.and_false]
   refine Qn kZ ?_;have hs:=Sn
   conv=>whnf
   repeat'((first|apply st|(apply sq;intro K U)|(apply si;intro A B Y Z)|(apply Y;clear Z B Y A)|(apply U;clear U K)|refine⟨rfl,?_⟩|refine c1.use ?_|(constructor<;>intro hc<;>(try rw[hc])<;>(replace hc:=bp hc)<;>(try simp(disch:=omega) only[BR,wrap64,AM]at hc)<;>try(exfalso;omega))|fail)<;>conv=>whnf)
   all_goals exact AI rfl
def Wk {x:Int}: ∀(xs:List Int) (k i:Nat),xs[i]? =some x→(∀j y,j<i→xs[j]? =some y→y≠x)→(Bh (fun y (_:Unit)=>(x==y,())) xs k ()).1=((k+i:Nat):Int)
 | [],_,_,h,_=>by simp at h
 | y::r,k,0,h,_=>by
   obtain rfl:y=x:=by simpa using h
   simp[Bh]
 | y::r,k,i+1,h,hn=>by
   have hy:=hn 0 y (Nat.succ_pos i) rfl;rw[Bh,if_neg (by simpa using fun e:x=y=>hy e.symm)];rw[Wk r (k+1) i (by simpa using h) fun j z hj hz=>hn (j+1) z (by omega) (by simpa using hz)];omega
set_option maxHeartbeats 1000000 in
def pw (w:AK) (os:List Ob) (f:Bool) (v:Int×Int) (l:List Int) (g:Bool) (hg:CH w) (hw:Jy w) (hos:QW w os) (hv:Bt os.length v=true) (hl: ∀s∈l,0≤s∧s<(w.owner.length:Int)) :
    Pure Tryz.prog 151 [.rp (wC w (B2 w.parents)),.l (os.map FY) f,.a (pI v),.l (iL l) g] (vP (T2 w os l v)):=by
 refine Pure.fit (by kernel_rfl) fun hf=>?_
 have hll:=L4 hf.2.2.2.1;have hM:=Mx;have ho4:=hos.len;have hol:=hw.gr;refine lu kZ ?_;have hs:=Sn
 conv=>whnf
 repeat'((first|apply st|(apply sq;intro K U)|(apply si;intro A B Y Z)|(apply Y;clear Z B Y A)|(apply U;clear U K)|(intro nn hnn;generalize hg:A7 _ nn _=σ;refine CY hg fun hs=>?_;clear hg)|fail)<;>conv=>whnf)
 rename_i nV _ _ _;refine CZ l.length (fun k (_:Int×Int)=>[(14,eI (BH k))]) (fun _ v=>[.box nn [eI 0,eI 0],.box nV (pI v)]) (fun k u=>Bt os.length u=true∧T2 w os l v=T2 w os (l.drop k) u) v rfl ⟨hv,rfl⟩ hs ?_;clear hs;rintro k ⟨vk,vn⟩ σ hk ⟨hu,hn⟩ hs;rcases BM l hk with⟨s,hsl,hlt⟩|hke
 ·have hsr:=hl s (Cg hsl)
  rw[drop_cons hsl,T2]at hn;by_cases h3:vk=3
  ·obtain⟨o,ho1,ho2,ho3⟩:=KK hu h3
   have hoo:=hos.own o ho3;have hnr:=NZ hu h3;dsimp only at ho1 ho2 hnr;have c1:=Zk w hg o.1 s hoo.1 hoo.2 hsr.1 hsr.2;rw[←WZ hg hw hoo.1 hoo.2 hsr.1 hsr.2]at c1;rw[ho2,show((vk,vn).1==3)=true by simp[h3],Ev]at hn;cases hh:hasB w o.1 s<;>rw[hh]at c1 hn
   ·rw[if_neg (by decide)]at hn
    conv=>whnf
    repeat'((first|apply st|(apply sq;intro K U)|(apply si;intro A B Y Z)|(apply Y;clear Z B Y A)|(apply U;clear U K)|refine⟨rfl,?_⟩|refine⟨kZ,?_⟩|refine ix ?_|refine ID ?_|refine ld ?_|refine DT fun σ hs=>?_|refine FI ?_|(refine Cv (fun hc=>?_)<;>(try rw[hc])<;>clear hc)|refine c1.use ?_|(constructor<;>intro hc<;>(try rw[hc])<;>(replace hc:=bp hc)<;>(try simp(disch:=omega) only[BR,wrap64,AM]at hc)<;>try(exfalso;omega))|clear U K)<;>conv=>whnf)
    all_goals exact AI (by rw[hn];rfl)
   ·rw[if_pos rfl]at hn
    obtain⟨i,q1,q2,q3,q4,q5,q6⟩:=Nd hos ho2 ho3 hsr hh;have c2:=Sh w o.1 hg hw hoo.1 hoo.2;have c3:=S4 (CN w o.1) false s;rw[show Y2 (CN w o.1) s=(i:Int) by rw[Y2,Wk _ 0 i q3 q4,Gf]]at c3;have q5':o.2[((i:Nat):Int).toNat]? =some (IL w os s (vk,vn)):=q5;generalize IL w os s (vk,vn)=u2 at *;generalize CN w o.1=ss at *;clear q2 q3 q4 q5
    conv=>whnf
    repeat'((first|apply st|(apply sq;intro K U)|(apply si;intro A B Y Z)|(apply Y;clear Z B Y A)|(apply U;clear U K)|apply dr|refine rk ?_ ?_|exact fun s e=>by cases e;rfl|refine⟨rfl,?_⟩|refine⟨kZ,?_⟩|refine ix ?_|refine ID ?_|refine ld ?_|refine DT fun σ hs=>?_|refine EM ?_|(refine Cv (fun hc=>?_)<;>(try rw[hc])<;>clear hc)|refine c1.use ?_|refine c2.use ?_|refine c3.use ?_|(constructor<;>intro hc<;>(try rw[hc])<;>(replace hc:=bp hc)<;>(try simp(disch:=omega) only[BR,wrap64,AM]at hc)<;>try(exfalso;omega))|clear U K)<;>conv=>whnf)
    exact⟨hlt,u2,rfl,⟨q6,hn⟩,hs⟩
  ·rw[show((vk,vn).1==3)=false by simp[h3],Bool.false_and,if_neg (by decide)]at hn
   conv=>whnf
   repeat'((first|apply st|(apply sq;intro K U)|(apply si;intro A B Y Z)|(apply Y;clear Z B Y A)|(apply U;clear U K)|refine⟨rfl,?_⟩|refine⟨kZ,?_⟩|refine ix ?_|refine ld ?_|refine DT fun σ hs=>?_|(refine Cv (fun hc=>?_)<;>(try rw[hc])<;>clear hc)|(constructor<;>intro hc<;>(try rw[hc])<;>(replace hc:=bp hc)<;>(try simp(disch:=omega) only[BR,wrap64,AM]at hc)<;>try(exfalso;omega))|clear U K)<;>conv=>whnf)
   all_goals exact AI (by rw[hn];rfl)
 ·rw[Ap hke,T2]at hn
  conv=>whnf
  repeat'((first|apply st|(apply sq;intro K U)|(apply si;intro A B Y Z)|(apply Y;clear Z B Y A)|(apply U;clear U K)|refine⟨rfl,?_⟩|refine⟨kZ,?_⟩|refine ld ?_|refine DT fun σ hs=>?_|(refine EI (fun hc=>?_)<;>(try rw[hc])<;>clear hc)|clear U K)<;>conv=>whnf)
  all_goals exact AI (by rw[hn];rfl)
end Go.Gl
namespace Go.Gl
open Go.Proofs
def fG {w:AK} (ho:ordered w.parents) {c b:Int} (h0:0≤c) (h1:c<3+w.parents.length) (hb:0≤b):I9 w.parents c b=((B2 w.parents).getD c.toNat 0).testBit b.toNat:=by
 rw[Na ho (by omega),I9];have e0:(b.toNat==0)=(b==0):=by rw[K5];simp only[Du];omega
 rw[e0];by_cases h3:3≤c
 ·rw[decide_eq_true h3,Ev]
  by_cases h:c=b
  ·subst h;rw[FQ ho];simp
  ·rw[beq_eq_false_iff_ne.2 h,Bool.false_or]
 ·have hp:par w.parents c.toNat= []:=if_pos (by omega)
  rw[decide_eq_false h3,Bool.false_and,Bool.or_false,D3 ho,hp];have:(c.toNat==b.toNat)=(c==b):=by rw[K5];simp only[Du];omega
  rw[this,List.any_nil,Bool.or_false,Bool.or_comm]
def dG {w:AK} (hw:CH w) {c:Int} (h0:0≤c) (h1:c<3+w.parents.length):(List.drop (c.toNat*1) (List.drop 2 (wC w (B2 w.parents))))[0]? =some (eU ((B2 w.parents).getD c.toNat 0)):=by
 have hul:(B2 w.parents).length=3+w.parents.length:=Eb _ _;rw[cQ,cQ,←Vf w (B2 w.parents) (i:=c.toNat) (by omega)];congr 1;omega
def Z0 {w:AK} {os:List Ob} (hos:QW w os) {v:Int×Int} (hv:Bt os.length v=true):0≤Qd os v∧Qd os v<3+w.parents.length:=by
 rw[Qd];split
 ·omega
 split
 ·omega
 ·rename_i h1 h2
  have h3:v.1=3:=by
   simp only[Bt,if_neg h1,if_neg h2]at hv;split at hv
   ·assumption
   ·cases hv
  obtain⟨o,q1,q2,q3⟩:=KK hv h3;have:=hos.own o q3;have e:os.getD v.2.toNat (0,[])=o:=q2;rw[e];omega
def iH {n:Int} {v:Int×Int} (hv:Bt n v=true):v.1=1∨v.1=2∨v.1=3:=by
 rw[Bt]at hv;by_cases h1:v.1=1
 ·exact .inl h1
 by_cases h2:v.1=2
 ·exact .inr (.inl h2)
 by_cases h3:v.1=3
 ·exact .inr (.inr h3)
 rw[if_neg h1,if_neg h2,if_neg h3]at hv;cases hv
def oD {op un n:Int} (h:op=3∨op=4) (hc:((un==n)==(op==4))=true):(if op=3 then decide (un<n)else un==n)=decide (un≤n):=by
 rcases h with rfl|rfl
 ·have:un≠n:=by simpa using hc
  rw[if_pos rfl,decide_eq_decide];omega
 ·have:un=n:=by simpa using hc
  subst this;simp
def oH {op un n:Int} (h:op=3∨op=4) (hc:((un==n)==(op==4))=false):(if op=3 then decide (un<n)else un==n)=false:=by
 rcases h with rfl|rfl
 ·have:un=n:=by simpa using hc
  subst this;simp
 ·have:un≠n:=by simpa using hc
  simpa using this
attribute [local irreducible] BD Aw Ai AU AO Ah AV AW AN Ag AS AT Ay A9 Sat Ab A4 Aj W
set_option maxHeartbeats 1000000 in
def bV (w : AK) (os:List Ob) (b:Bool) (args:List (Int×Int)) (g:Bool) (hg:CH w) (hw:Jy w) (hos:QW w os) (hv: ∀v∈args,Bt os.length v=true) (f:Fact):BW w f=true→Cx f≤args.length→
    Pure Tryz.prog 117 [.rp (wC w (B2 w.parents)),.a (xF f),.l (os.map FY) b,.l (pP args) g] (.b (DM w os args f)):=by
 induction f using Fact.ind with
 | h f ih=>
   intro hn hsp;refine Pure.fit (by kernel_rfl) fun hf=>?_
   have⟨h2,h3,h4⟩:=KB hf.2.1;have hM:=Mx;have hwl:=hw.len;rw[No,G2];rcases Hg hn with h1|⟨h5,x,hk,hx⟩|⟨h6,x,y,hk,hx,hy⟩|⟨h7,x,y,hk,hx,hy⟩|⟨hop,hlf,hp,hcl,ha0⟩
   ·refine HT kZ ?_
    have hs:=Sn
    conv=>whnf
    repeat'((first|apply st|(apply sq;intro K U)|(apply si;intro A B Y Z)|(apply Y;clear Z B Y A)|(apply U;clear U K)|refine⟨rfl,?_⟩|(constructor<;>intro hc<;>(try rw[hc])<;>(replace hc:=bp hc)<;>try(exfalso;omega))|clear U K)<;>conv=>whnf)
    all_goals exact AI (by rw[if_pos h1])
   ·have c1:=ih x (by rw[hk];exact .head _) hx (Int.le_trans (Fu (by rw[hk];exact .head _)) hsp)
    have e:(f.kids.map (DM w os args)).getD 0 false=DM w os args x:=by rw[hk];rfl
    have hk0:f.kids[0]? =some x:=by rw[hk];rfl
    rw[if_neg (by omega),if_pos h5,e];clear e hk;refine HT kZ ?_;have hs:=Sn
    conv=>whnf
    repeat'((first|apply st|(apply sq;intro K U)|(apply si;intro A B Y Z)|(apply Y;clear Z B Y A)|(apply U;clear U K)|refine⟨rfl,?_⟩|refine⟨kZ,?_⟩|refine Ve ?_|refine c1.use ?_|(constructor<;>intro hc<;>(try rw[hc])<;>(replace hc:=bp hc)<;>try(exfalso;omega))|clear U K)<;>conv=>whnf)
    all_goals exact AI rfl
   ·have c1:=ih x (by rw[hk];exact .head _) hx (Int.le_trans (Fu (by rw[hk];exact .head _)) hsp)
    have c2:=ih y (by rw[hk];exact .tail _ (.head _)) hy (Int.le_trans (Fu (by rw[hk];exact .tail _ (.head _))) hsp);have e:(f.kids.map (DM w os args)).getD 0 false=DM w os args x:=by rw[hk];rfl
    have e2:(f.kids.map (DM w os args)).getD 1 false=DM w os args y:=by rw[hk];rfl
    have hk0:f.kids[0]? =some x:=by rw[hk];rfl
    have hk1:f.kids[1]? =some y:=by rw[hk];rfl
    rw[if_neg (by omega),if_neg (by omega),if_pos h6,e,e2];clear e e2 hk;cases hb:DM w os args x<;>rw[hb]at c1
    all_goals
     refine HT kZ ?_;have hs:=Sn
     conv=>whnf
     repeat'((first|apply st|(apply sq;intro K U)|(apply si;intro A B Y Z)|(apply Y;clear Z B Y A)|(apply U;clear U K)|refine⟨rfl,?_⟩|refine⟨kZ,?_⟩|refine Ve ?_|refine O3 ?_|refine c1.use ?_|refine c2.use ?_|(constructor<;>intro hc<;>(try rw[hc])<;>(replace hc:=bp hc)<;>try(exfalso;omega))|clear U K)<;>conv=>whnf)
     all_goals exact AI rfl
   ·have c1:=ih x (by rw[hk];exact .head _) hx (Int.le_trans (Fu (by rw[hk];exact .head _)) hsp)
    have c2:=ih y (by rw[hk];exact .tail _ (.head _)) hy (Int.le_trans (Fu (by rw[hk];exact .tail _ (.head _))) hsp);have e:(f.kids.map (DM w os args)).getD 0 false=DM w os args x:=by rw[hk];rfl
    have e2:(f.kids.map (DM w os args)).getD 1 false=DM w os args y:=by rw[hk];rfl
    have hk0:f.kids[0]? =some x:=by rw[hk];rfl
    have hk1:f.kids[1]? =some y:=by rw[hk];rfl
    rw[if_neg (by omega),if_neg (by omega),if_neg (by omega),if_pos h7,e,e2];clear e e2 hk;cases hb:DM w os args x<;>rw[hb]at c1
    all_goals
     refine HT kZ ?_;have hs:=Sn
     conv=>whnf
     repeat'((first|apply st|(apply sq;intro K U)|(apply si;intro A B Y Z)|(apply Y;clear Z B Y A)|(apply U;clear U K)|refine⟨rfl,?_⟩|refine⟨kZ,?_⟩|refine Ve ?_|refine O3 ?_|refine c1.use ?_|refine c2.use ?_|(constructor<;>intro hc<;>(try rw[hc])<;>(replace hc:=bp hc)<;>try(exfalso;omega))|clear U K)<;>conv=>whnf)
     all_goals exact AI rfl
   ·have hsl:=OD hlf
    rw[if_neg (by omega),if_neg (by omega),if_neg (by omega),if_neg (by omega),SL];obtain⟨v,hva⟩: ∃v,args[f.arg.toNat]? =some v:=⟨_,DZ (by omega)⟩
    have hvd:args.getD f.arg.toNat (0,0)=v:=by rw[DS,hva];rfl
    have hvv:=hv v (Cg hva);rw[hvd];have c1:=pw w os b v f.path false hg hw hos hvv hp;have hok:=fun u=>UZ (u:=u) hos hp hvv
    clear hvd;cases hu:T2 w os f.path v with
    | none=>
      rw[hu]at c1;replace c1:Pure Tryz.prog 151 [.rp (wC w (B2 w.parents)),.l (os.map FY) b,.a (pI v),.l (iL f.path) false] (.t [.a (pI (0,0)),.b false]):=c1;refine HT kZ ?_;have hs:=Sn
      conv=>whnf
      repeat'((first|apply st|(apply sq;intro K U)|(apply si;intro A B Y Z)|(apply Y;clear Z B Y A)|(apply U;clear U K)|apply dr|refine⟨rfl,?_⟩|refine⟨kZ,?_⟩|refine ID ?_|refine DT fun σ hs=>?_|refine FI ?_|refine⟨_,c1,?_⟩|(constructor<;>intro hc<;>(try rw[hc])<;>(replace hc:=bp hc)<;>try(exfalso;omega))|(intro nn hnn;generalize hg:A7 _ nn _=σ;refine CY hg fun hs=>?_;clear hg)|clear U K)<;>conv=>whnf)
      all_goals exact AI rfl
    | some u=>
      rw[hu]at c1;have hu2:=hok u hu;clear hok hu;replace c1:Pure Tryz.prog 151 [.rp (wC w (B2 w.parents)),.l (os.map FY) b,.a (pI v),.l (iL f.path) false] (.t [.a (pI u),.b true]):=c1;by_cases h2:f.op=2
      ·have hcr:=Z0 hos hu2
       have hfc:=hcl h2;have hup:=dG hg hcr.1 hcr.2;have hbb:=fG hw.ord hcr.1 hcr.2 hfc.1;have c2:=Wa ((B2 w.parents).getD (Qd os u).toNat 0) f.cls (LK (G5 _ _ (by have:=hg.1.1;omega)) _) hfc.1 (by omega);have hkk:=iH hu2;dsimp only;rw[if_pos h2];rw[hbb];by_cases h3:u.1=3
       ·obtain⟨o,q1,q2,q3⟩:=KK hu2 h3
        have hnr:=NZ hu2 h3
        have hce:Qd os u=o.1:=by
         rw[Qd,if_neg (by omega),if_neg (by omega)];exact congrArg Prod.fst q2
        rw[hce]at hcr hup c2 ⊢;clear hce hbb hcl hv hvv ih h4 hp hn q2;generalize B2 w.parents=us at *;obtain⟨uk,un⟩:=u;dsimp only at h3 q1 hnr;refine HT kZ ?_;have hs:=Sn
        conv=>whnf
        repeat'((first|apply st|(apply sq;intro K U)|(apply si;intro A B Y Z)|(apply Y;clear Z B Y A)|(apply U;clear U K)|apply dr|refine⟨rfl,?_⟩|refine⟨kZ,?_⟩|refine nE ?_|refine ID ?_|refine ld ?_|refine DT fun σ hs=>?_|refine EM ?_|refine⟨_,c1,?_⟩|(constructor<;>intro hc<;>(try rw[hc])<;>(replace hc:=bp hc)<;>(try simp(disch:=omega) only[BR,wrap64,AM]at hc)<;>try(exfalso;omega))|(intro nn hnn;generalize hg:A7 _ nn _=σ;refine CY hg fun hs=>?_;clear hg)|fail)<;>conv=>whnf)
        rw[hup]
        conv=>whnf
        repeat'((first|apply st|(apply Y;clear Z B Y A)|(apply U;clear U K)|apply dr|refine c2.use ?_|clear U K)<;>conv=>whnf)
        all_goals exact AI rfl
       ·have hce:Qd os u=u.1:=by
         rw[Qd];split
         ·omega
         ·rw[if_pos (by omega)];omega
        rw[hce]at hcr hup c2 ⊢;clear hce hbb hcl hv hvv ih h4 hp hn;generalize B2 w.parents=us at *;obtain⟨uk,un⟩:=u;dsimp only at *;refine HT kZ ?_;have hs:=Sn
        conv=>whnf
        repeat'((first|apply st|(apply sq;intro K U)|(apply si;intro A B Y Z)|(apply Y;clear Z B Y A)|(apply U;clear U K)|apply dr|refine⟨rfl,?_⟩|refine⟨kZ,?_⟩|refine nE ?_|refine ID ?_|refine ld ?_|refine DT fun σ hs=>?_|refine EM ?_|refine⟨_,c1,?_⟩|(constructor<;>intro hc<;>(try rw[hc])<;>(replace hc:=bp hc)<;>(try simp(disch:=omega) only[BR,wrap64,AM]at hc)<;>try(exfalso;omega))|(intro nn hnn;generalize hg:A7 _ nn _=σ;refine CY hg fun hs=>?_;clear hg)|fail)<;>conv=>whnf)
        rw[hup]
        conv=>whnf
        repeat'((first|apply st|(apply Y;clear Z B Y A)|(apply U;clear U K)|apply dr|refine c2.use ?_|fail)<;>conv=>whnf)
        all_goals exact AI rfl
      ·dsimp only
       rw[if_neg h2];clear hv hvv ih h4 hp hn hcl;obtain⟨uk,un⟩:=u;dsimp only at *;by_cases hk:uk=1
       ·rw [Du.2 hk,Ev]
        have h34:f.op=3∨f.op=4:=by omega
        have hT:=fun hc=>oD (un:=un) (n:=f.n) h34 hc
        have hF:=fun hc=>oH (un:=un) (n:=f.n) h34 hc
        refine HT kZ ?_;have hs:=Sn
        conv=>whnf
        repeat'((first|apply st|(apply sq;intro K U)|(apply si;intro A B Y Z)|(apply Y;clear Z B Y A)|(apply U;clear U K)|apply dr|refine⟨rfl,?_⟩|refine⟨kZ,?_⟩|refine ID ?_|refine ld ?_|refine DT fun σ hs=>?_|refine EM ?_|refine⟨_,c1,?_⟩|(constructor<;>intro hc<;>(try rw[hc])<;>(replace hc:=bp hc)<;>(try simp(disch:=omega) only[BR,wrap64,AM]at hc)<;>try(exfalso;omega))|(intro nn hnn;generalize hg:A7 _ nn _=σ;refine CY hg fun hs=>?_;clear hg)|clear U K)<;>conv=>whnf)
        all_goals
         refine AI ?_
         first
          | (rw[hT (by assumption)];rfl)
          | (rw[hF (by assumption)];rfl)
       ·rw[beq_eq_false_iff_ne.2 hk,Bool.false_and]
        refine HT kZ ?_;have hs:=Sn
        conv=>whnf
        repeat'((first|apply st|(apply sq;intro K U)|(apply si;intro A B Y Z)|(apply Y;clear Z B Y A)|(apply U;clear U K)|apply dr|refine⟨rfl,?_⟩|refine⟨kZ,?_⟩|refine ID ?_|refine ld ?_|refine DT fun σ hs=>?_|refine EM ?_|refine⟨_,c1,?_⟩|(constructor<;>intro hc<;>(try rw[hc])<;>(replace hc:=bp hc)<;>(try simp(disch:=omega) only[BR,wrap64,AM]at hc)<;>try(exfalso;omega))|(intro nn hnn;generalize hg:A7 _ nn _=σ;refine CY hg fun hs=>?_;clear hg)|clear U K)<;>conv=>whnf)
        all_goals exact AI rfl
end Go.Gl
namespace Go.Gl
open Go.Proofs
attribute [local irreducible] BD Aw Ai AU AO Ah AV AW AN Ag AS AT Ay A9 Sat Ab A4 Aj W
def nv (p:Prog) (L:Nat) (g:Int) (h16:p.methods.length≤16) {S:Type} {fn:Fn} {fi ca:List V} {H:S→List At} (Inv:Nat→S→Prop) {s:S} (h0:Inv 0 s)
    (hsk: ∀k s,k<p.methods.length→(BL p (k:Nat)).gen≠g→Inv k s→Inv (k+1) s)
    (hT: ∀(k:Nat) s,k<p.methods.length→(BL p (k:Nat)).gen=g→Inv k s→ ∀(rest:List At) (σ:AH),Sat σ (H s++rest)→Ay Tryz.prog (.f fn fi ca) [eI (k:Int)] σ fun r σ'=> ∃s',r= .ret (.b true)∧Inv (k+1) s'∧Sat σ' (H s'++rest)) (σ:AH) (hs:Sat σ (H s)) :
    BD Tryz.prog 75 [.f fn fi ca,.rp [Ff p L],.rp [eI g]] σ fun r σ'=> ∃s',r= .ret (.t [])∧Inv p.methods.length s'∧Sat σ' (H s'):=by
 have hM:=Mx;refine pC kZ ?_
 conv=>whnf
 repeat'((first|apply st|(apply sq;intro K U)|(apply si;intro A B Y Z)|(apply Y;clear Z B Y A)|(apply U;clear U K)|fail)<;>conv=>whnf)
 refine CZ p.methods.length (fun k (_:S)=>[(12,eI (BH k))]) (fun _ s'=>H s') (fun k s'=>Inv k s') s rfl h0 hs ?_;clear hs;rintro k s' σ hk ho hs;rcases BM p.methods hk with⟨x,hx,hlt⟩|hke
 ·have hck:BH k=k:=AM (by omega)
  have hxe:BL p (k:Int)=x:=by
   have:=B7 (p:=p) (m:=k) (by simp[A5];omega);rw[Jz,hx]at this;exact(Option.some.inj this).symm
  have hsk':=hsk k s' hlt;have hT':=hT k s' hlt;rw[hxe]at hsk' hT';rw[←hck]at hT';by_cases hg:x.gen=g
  ·conv=>whnf
   repeat'((first|apply st|(apply sq;intro K U)|(apply si;intro A B Y Z)|(apply Y;clear Z B Y A)|(apply U;clear U K)|refine⟨rfl,?_⟩|refine⟨kZ,?_⟩|refine ix ?_|refine ld ?_|refine DT fun σ hs=>?_|(refine Cv (fun hc=>?_)<;>(try rw[hc])<;>clear hc)|(constructor<;>intro hc<;>(try rw[hc])<;>(replace hc:=bp hc)<;>try(exfalso;omega))|(intro nn hnn;generalize hg:A7 _ nn _=σ;refine CY hg fun hs=>?_;clear hg)|fail)<;>conv=>whnf)
   refine(hT' hg ho [_] σ (Sat.perm hs (List.perm_append_singleton _ _).symm)).mono ?_;rintro r σ ⟨s2,rfl,hi2,hs⟩
   conv=>whnf
   repeat'((first|apply st|(apply si;intro A B Y Z)|(apply Y;clear Z B Y A)|(apply U;clear U K)|refine⟨rfl,?_⟩|refine EM ?_|fail)<;>conv=>whnf)
   exact⟨hlt,_,rfl,hi2,hs.less (List.sublist_append_left _ _)⟩
  ·conv=>whnf
   repeat'((first|apply st|(apply sq;intro K U)|(apply si;intro A B Y Z)|(apply Y;clear Z B Y A)|(apply U;clear U K)|refine⟨rfl,?_⟩|refine⟨kZ,?_⟩|refine ix ?_|refine ld ?_|refine DT fun σ hs=>?_|(refine Cv (fun hc=>?_)<;>(try rw[hc])<;>clear hc)|(constructor<;>intro hc<;>(try rw[hc])<;>(replace hc:=bp hc)<;>try(exfalso;omega))|(intro nn hnn;generalize hg:A7 _ nn _=σ;refine CY hg fun hs=>?_;clear hg)|fail)<;>conv=>whnf)
   exact⟨hlt,_,rfl,hsk' hg ho,hs.less (JR _ _)⟩
 ·rw[hke]at ho
  conv=>whnf
  repeat'((first|apply st|(apply sq;intro K U)|(apply si;intro A B Y Z)|(apply Y;clear Z B Y A)|(apply U;clear U K)|refine⟨rfl,?_⟩|(refine EI (fun hc=>?_)<;>(try rw[hc])<;>clear hc)|clear U K)<;>conv=>whnf)
  exact AQ ⟨_,rfl,ho,hs⟩
def SJ (p:Prog) (L:Nat) (g:Int) (h16:p.methods.length≤16) {nn:Nat} {E:Env} {ok:FuncId→Array Tmp→Code→Code→Nat→Prop} {S:Type} (H:S→List At) (Inv:Nat→S→Prop) (s:S) {σ:AH} (h0:Inv 0 s) (hs:Sat σ (.obj nn (.loop .ready E ok)::H s))
    (hsk: ∀k s,k<p.methods.length→(BL p (k:Nat)).gen≠g→Inv k s→Inv (k+1) s)
    (hT: ∀(k:Nat) s,k<p.methods.length→(BL p (k:Nat)).gen=g→Inv k s→ ∀(rest:List At) (σ:AH),Sat σ (.obj nn (.loop .ready E ok)::(H s++rest))→M9 Tryz.prog nn [eI (k:Int)] σ fun r σ'=> ∃s',r= .ret (.b true)∧Inv (k+1) s'∧Sat σ' (.obj nn (.loop .ready E ok)::(H s'++rest)))
    {Q:R→AH→Prop} (hq: ∀s' σ',Inv p.methods.length s'→Sat σ' (.obj nn (.loop .ready E ok)::H s')→Q (.ret (.t [])) σ') :
    BD Tryz.prog 75 [.f (.yield nn) [] [],.rp [Ff p L],.rp [eI g]] σ Q:=
 BD.mono (nv p L g h16 (fn:= .yield nn) (fi:=[]) (ca:=[]) (H:=fun s=> .obj nn (.loop .ready E ok)::H s) Inv h0 hsk (fun k s hk hg hi rest σ hs=>aO (hT k s hk hg hi rest σ hs)) σ hs) fun r σ' ⟨s',e,hi,h⟩=>e ▸ hq s' σ' hi h
def E7 (p:Prog) (g:Int) (k:Nat):List Int:=(Bj k).filter fun m=>(BL p m).gen==g
def MG (p:Prog) (g:Int) (k:Nat):E7 p g (k+1)=if(BL p (k:Int)).gen==g then E7 p g k++[(k:Int)]else E7 p g k:=by
 rw[E7,Gd,List.filter_append];cases hp:(BL p (k:Int)).gen==g<;>simp[E7,hp]
def OR (p:Prog) (g:Int) (k:Nat):(E7 p g k).length≤k:=by
 have:=Oy (fun m=>(BL p m).gen==g) (Bj k)
 rwa [He]at this
def Vb (p:Prog) (L:Nat) (g:Int) (h16:p.methods.length≤16):Bc Tryz.prog 118 [.l [] true,.f (.func 75) [] [.rp [Ff p L],.rp [eI g]]] [] fun r post=> ∃v,r= .ret v∧post= [.own v 1 (iL (E7 p g p.methods.length))]:=by
 intro σ hs;have hM:=Mx;refine Zy kZ ?_
 conv=>whnf
 repeat'((first|apply st|(apply sq;intro K U)|(apply si;intro A B Y Z)|(apply Y;clear Z B Y A)|(apply U;clear U K)|(intro nn hnn;generalize hg:A7 _ nn _=σ;refine CY hg fun hs=>?_;clear hg)|fail)<;>conv=>whnf)
 rename_i nb _ _ _;refine SJ p L g h16 (nn:=nn) (fun s:V×List Int=>[.box nb [s.1],.own s.1 1 (iL s.2)]) (fun k s=>s.2=E7 p g k) (.l [] true,[]) rfl ((DN hs 1).perm (Hs _ _ _ _)) ?_ ?_ ?_
 ·intro k s hlt hne hi
  rw[MG,if_neg (by simpa using hne),hi]
 ·clear hs hnn
  rintro k ⟨v,ys⟩ hlt hgk hi rest σ hs;dsimp only at hi hs;have hck:BH k=k:=AM (by omega);have hl:=OR p g k;rw[←hi]at hl;have hll:ys.length<Ac∧(ys.length+1)*8≤140737488355328:=by omega
  refine Ec (l:=[.box nb [v],.own v 1 (iL ys)]++rest) rfl hs ?_;clear hs;intro σ hs
  conv=>whnf
  repeat'((first|apply st|(apply si;intro A B Y Z)|(apply Y;clear Z B Y A)|refine ld ?_|refine EV fun σ hs=>?_|refine aq fun v σ hs hsl=>?_|clear U K)<;>conv=>whnf)
  intro hn;exact⟨(v,ys++[(k:Int)]),rfl,by rw[MG,if_pos (by simpa using hgk),hi],hs.JW hn⟩
 ·clear hs
  rintro⟨v,ys⟩ σ hi hs;dsimp only at hi hs;refine FR hs fun σ hs=>?_
  conv=>whnf
  repeat'((first|apply st|(apply sq;intro K U)|(apply si;intro A B Y Z)|(apply Y;clear Z B Y A)|(apply U;clear U K)|refine ld ?_|fail)<;>conv=>whnf)
  rw[hi]at hs;exact Aq hs (JR _ _) (.refl _) fun σ' hs'=>⟨_,⟨v,rfl,rfl⟩,hs'⟩
def VP (p:Prog) (L:Nat) (g:Int) (h16:p.methods.length≤16):Bc Tryz.prog 84 [.f (.func 75) [] [.rp [Ff p L],.rp [eI g]]] [] fun r post=> ∃v,r= .ret v∧post= [.own v 1 (iL (E7 p g p.methods.length))]:=by
 intro σ hs;refine gF kZ ?_
 conv=>whnf
 repeat'((first|(apply sq;intro K U)|(apply si;intro A B Y Z)|(apply Y;clear Z B Y A)|(apply U;clear U K)|fail)<;>conv=>whnf)
 refine(Vb p L g h16).use (rest:=[]) (by simpa using hs) ?_;clear hs;rintro r post σ ⟨v,rfl,rfl⟩ hs
 conv=>whnf
 repeat'((first|apply st|(apply Y;clear Z B Y A)|(apply U;clear U K)|fail)<;>conv=>whnf)
 exact Aq hs (List.sublist_append_left _ _) (.refl _) fun σ' hs'=>⟨_,⟨v,rfl,rfl⟩,hs'⟩
def W8 (w:AK) (hg:CH w) (hw:Jy w) (os:List Ob) (b:Bool) (args:List (Int×Int)) (g:Bool) (f:Fact) (hf:CW w f=true) (hsp:Cx f≤args.length) (hh:JF w os args=true) :
    Pure Tryz.prog 81 [.a (BE w),.a (xF f),.l (os.map FY) b,.l (pP args) g] (.t [.b (DM w os args f),eI 0]):=by
 refine Pure.fit (by kernel_rfl) fun hfi=>?_
 have hM:=Mx
 have hfo: ∀b,Pure Tryz.prog 109 [.a (BE w),.l [F4 f] b] (.t [.rp (wC w (B2 w.parents)),.b true]):=fun b=>by
  have:=Mh w hg [f] b (by simp);simpa[Mp,hf]using this
 rw[B0]at hfo;have c2:=Px w hg hw os b args g;rw[hh]at c2;have c3:=XW f (Wy hf);simp only[JF,BV,CL,EL]at hh;have hno:BW w f=true:=by simp only[CW,BV]at hf;exact hf.2.2
 have c4:=bV w os b args g hg hw (WA hh.1) hh.2.2.2 f hno hsp;refine gG kZ ?_;have hs:=Sn
 conv=>whnf
 repeat'((first|apply st|(apply sq;intro K U)|(apply si;intro A B Y Z)|(apply Y;clear Z B Y A)|(apply U;clear U K)|refine⟨rfl,?_⟩|refine⟨kZ,?_⟩|refine JU ?_|refine Pure.use (hfo _) ?_|refine c2.use ?_|refine c3.use ?_|refine c4.use ?_|(constructor<;>intro hc<;>(try rw[hc])<;>(replace hc:=bp hc)<;>(try simp(disch:=omega) only[BR,wrap64,AM]at hc))|clear U K)<;>conv=>whnf)
 all_goals first
  | exact AI rfl
  | (exfalso;simp at hc;omega)
def cO (w:AK) (hg:CH w) (hw:Jy w) (os:List Ob) (b:Bool) (args:List (Int×Int)) (g:Bool) (f:Fact) (hf:CW w f=true) (hh:JF w os args=false) :
    Pure Tryz.prog 81 [.a (BE w),.a (xF f),.l (os.map FY) b,.l (pP args) g] (.t [.b false,eI 2]):=by
 refine Pure.fit (by kernel_rfl) fun hfi=>?_
 have hM:=Mx
 have hfo: ∀b,Pure Tryz.prog 109 [.a (BE w),.l [F4 f] b] (.t [.rp (wC w (B2 w.parents)),.b true]):=fun b=>by
  have:=Mh w hg [f] b (by simp);simpa[Mp,hf]using this
 rw[B0]at hfo;have c2:=Px w hg hw os b args g;rw[hh]at c2;refine gG kZ ?_;have hs:=Sn
 conv=>whnf
 repeat'((first|apply st|(apply sq;intro K U)|(apply si;intro A B Y Z)|(apply Y;clear Z B Y A)|(apply U;clear U K)|refine⟨kZ,?_⟩|refine UC ?_|refine JU ?_|refine Pure.use (hfo _) ?_|refine c2.use ?_|clear U K)<;>conv=>whnf)
 all_goals exact AI rfl
abbrev Vg:Fact:=Fact.mk 1 0 [] 0 0 []
def OA (w:AK):CW w Vg=true:=by
 rw[CW,HH,Fw,CK];rfl
def Sc {w:V} {o a:V}:C4 emp emp [w,.a [eI 1,eI 0,.l [] true,eI 0,eI 0,.l [] true],o,a] [w,.a (xF Vg),o,a]:=
 .cons (.refl _) (.cons (.a (.cons (.refl _) (.cons (.refl _) (.cons Cc (.cons (.refl _) (.cons (.refl _) (.cons Cc .nil))))))) (.cons (.refl _) (.cons (.refl _) .nil)))
def fF (os:List Ob) (f:Bool) (gen:Int) (args:List (Int×Int)) (g:Bool):Pure Tryz.prog 56 [.pn,.l (os.map FY) f,eI gen,.l (pP args) g] (.b false):=by
 have c1:=UR gen;refine PN kZ ?_;have hs:=Sn
 conv=>whnf
 repeat'((first|apply st|(apply sq;intro K U)|(apply si;intro A B Y Z)|(apply Y;clear Z B Y A)|(apply U;clear U K)|refine UC ?_|refine c1.use ?_|clear U K)<;>conv=>whnf)
 all_goals exact AI rfl
set_option maxHeartbeats 1000000 in
def call56 (p:Prog) (L:Nat) (os:List Ob) (f:Bool) (gen:Int) (args:List (Int×Int)) (g:Bool) (h:(BA p).isSome=true):Pure Tryz.prog 56 [Ff p L,.l (os.map FY) f,eI gen,.l (pP args) g] (.b (B3 p os gen args)):=by
 refine Pure.fit (by kernel_rfl) fun hf=>?_
 have hM:=Mx;have hok:=look_ok h;have hgw:=NG h;have c1:=ZI p L gen;cases h2:I8 p gen<;>rw[h2]at c1
 ·refine PN kZ ?_
  have hs:=Sn
  conv=>whnf
  repeat'((first|apply st|(apply sq;intro K U)|(apply si;intro A B Y Z)|(apply Y;clear Z B Y A)|(apply U;clear U K)|refine UC ?_|refine c1.use ?_|clear U K)<;>conv=>whnf)
  all_goals exact AI (by simp[B3,h2])
 have hgr:=h2;simp only[I8,BV,CL]at hgr;obtain⟨x,hx⟩: ∃x,p.CM[gen.toNat]? =some x:=⟨_,DZ (by omega)⟩
 have hxd:p.CM.getD gen.toNat 0=x:=by rw[DS,hx];rfl
 have hx3:1≤x∧x≤3:=by
  have hh:=(DA h).1;simp only[Cf,BV,CL,EL]at hh;exact hh.2.2.2.2.2 x (Cg hx)
 by_cases he:(args.length:Int)=x
 ·have e:B3 p os gen args=(EY (AR p) os&&args.all (Bt os.length)):=by simp only[B3,h,h2,hxd,decide_eq_true he,Ev]
  rw[e];have c2:=bg os f args g (by omega);by_cases hv: ∀v∈args,Bt os.length v=true
  ·rw [List.filter_eq_self.2 hv]at c2
   have hva:args.all (Bt os.length)=true:=EL.2 hv;rw[hva,Bool.and_true]
   have hha:JF (AR p) os args=EY (AR p) os:=by
    rw[JF,hva,decide_eq_true (show 1≤args.length by omega),decide_eq_true (show args.length≤3 by omega)];simp
   cases ho:EY (AR p) os<;>rw[ho]at hha
   ·have c3:=(cO (AR p) hgw hok.Yq os f args g Vg (OA _) hha).arg Sc
    clear hva e hv;refine PN kZ ?_;have hs:=Sn
    conv=>whnf
    repeat'((first|apply st|(apply sq;intro K U)|(apply si;intro A B Y Z)|(apply Y;clear Z B Y A)|(apply U;clear U K)|apply dr|refine⟨rfl,?_⟩|refine⟨kZ,?_⟩|refine ID ?_|refine JU ?_|refine c1.use ?_|refine c2.use ?_|refine c3.use ?_|(constructor<;>intro hc<;>(try rw[hc])<;>(replace hc:=bp hc)<;>(try simp(disch:=omega) only[BR,wrap64,AM]at hc)<;>try(exfalso;omega))|clear U K)<;>conv=>whnf)
    all_goals first
     | exact AI rfl
     | (exfalso;simp[he]at hc;done)
   ·have c3:=(W8 (AR p) hgw hok.Yq os f args g Vg (OA _) (by
     rw[Dz]
     exact Int.natCast_nonneg _) hha).arg Sc
    clear hva e hv;refine PN kZ ?_;have hs:=Sn
    conv=>whnf
    repeat'((first|apply st|(apply sq;intro K U)|(apply si;intro A B Y Z)|(apply Y;clear Z B Y A)|(apply U;clear U K)|apply dr|refine⟨rfl,?_⟩|refine⟨kZ,?_⟩|refine ID ?_|refine JU ?_|refine c1.use ?_|refine c2.use ?_|refine c3.use ?_|(constructor<;>intro hc<;>(try rw[hc])<;>(replace hc:=bp hc)<;>(try simp(disch:=omega) only[BR,wrap64,AM]at hc)<;>try(exfalso;omega))|clear U K)<;>conv=>whnf)
    all_goals first
     | exact AI rfl
     | (exfalso;simp[he]at hc;done)
  ·have hlt:(args.filter (Bt os.length)).length≠args.length:=fun e=>hv (List.length_filter_eq_length_iff.1 e)
   have hva:args.all (Bt os.length)=false:=by
    rw[←Bool.not_eq_true,EL];exact hv
   rw[hva,Bool.and_false];generalize args.filter (Bt os.length)=ys at *;clear hva e hv;refine PN kZ ?_;have hs:=Sn
   conv=>whnf
   repeat'((first|apply st|(apply sq;intro K U)|(apply si;intro A B Y Z)|(apply Y;clear Z B Y A)|(apply U;clear U K)|refine⟨rfl,?_⟩|refine ID ?_|refine JU ?_|refine c1.use ?_|refine c2.use ?_|(constructor<;>intro hc<;>(try rw[hc])<;>(replace hc:=bp hc)<;>(try simp(disch:=omega) only[BR,wrap64,AM]at hc)<;>try(exfalso;omega))|clear U K)<;>conv=>whnf)
   all_goals first
    | exact AI rfl
    | (exfalso;simp[he]at hc;done)
    | (exfalso;simp at hc;omega)
 ·have e:B3 p os gen args=false:=by simp only[B3,hxd,decide_eq_false he,Bool.false_and,Bool.and_false]
  rw[e];refine PN kZ ?_;have hs:=Sn
  conv=>whnf
  repeat'((first|apply st|(apply sq;intro K U)|(apply si;intro A B Y Z)|(apply Y;clear Z B Y A)|(apply U;clear U K)|refine⟨rfl,?_⟩|refine ID ?_|refine JU ?_|refine c1.use ?_|(constructor<;>intro hc<;>(try rw[hc])<;>(replace hc:=bp hc)<;>(try simp(disch:=omega) only[BR,wrap64,AM]at hc))|clear U K)<;>conv=>whnf)
  all_goals first
   | exact AI rfl
   | (exfalso;simp[he]at hc;done)
def YW (p:Prog) (L:Nat) (os:List Ob) (f:Bool) (gen:Int) (args:List (Int×Int)) (g:Bool) (ha:Ask p os gen args) (hh:JF (AR p) os args=true) (m:Int) (hm:A5 p m=true) (hg:(BL p m).gen=gen) :
    Pure Tryz.prog 85 [eI m,.rp [Ff p L],.rp [.l (os.map FY) f],.rp [.l (pP args) g]] (.b (DM (AR p) os args (BL p m).fact)):=by
 refine Pure.fit (by kernel_rfl) fun hf=>?_
 have hM:=Mx;have hok:=look_ok ha.look;have hxm:=B7 hm;obtain⟨-,hfo,hno,hsp⟩:=Q5 ha.look (Cg hxm);rw[hg,←ha.len]at hsp;have c1:=W8 (AR p) (NG ha.look) hok.Yq os f args g (BL p m).fact hfo hsp hh;simp only[A5,BV,CL]at hm;clear hg hfo hno hsp;generalize BL p m=x at *;cases hb:DM (AR p) os args x.fact<;>rw[hb]at c1
 all_goals
  refine o5 kZ ?_;have hs:=Sn
  conv=>whnf
  repeat'((first|apply st|(apply sq;intro K U)|(apply si;intro A B Y Z)|(apply Y;clear Z B Y A)|(apply U;clear U K)|apply dr|refine⟨rfl,?_⟩|refine⟨kZ,?_⟩|refine ID ?_|refine c1.use ?_|fail)<;>conv=>whnf)
  all_goals exact AI rfl
def eO {p:Prog} {os:List Ob} {gen:Int} {args:List (Int×Int)} (h:B3 p os gen args=true):JF (AR p) os args=true:=by
 have ha:=NW h;simp only[B3,BV]at h;have hg:=ha.ZH;simp only[I8,BV,CL]at hg;obtain⟨x,hx⟩: ∃x,p.CM[gen.toNat]? =some x:=⟨_,DZ (by omega)⟩
 have hxd:p.CM.getD gen.toNat 0=x:=by rw[DS,hx];rfl
 have hx3:1≤x∧x≤3:=by
  have hh:=(DA ha.look).1;simp only[Cf,BV,CL,EL]at hh;exact hh.2.2.2.2.2 x (Cg hx)
 have hl:=ha.len;rw[hxd]at hl;rw[JF,h.2.1,decide_eq_true (show 1≤args.length by omega),decide_eq_true (show args.length≤3 by omega),h.2.2.2.2];rfl
def Xt (p:Prog) (os:List Ob) (gen:Int) (args:List (Int×Int)):(E7 p gen p.methods.length).filter (fun m=>DM (AR p) os args (BL p m).fact)=JV p os gen args:=by
 rw[E7,JV,c9,List.filter_filter];congr 1;funext m;rw[Bool.and_comm]
def OQ {p:Prog} {g m:Int} (h:m∈E7 p g p.methods.length):A5 p m=true∧(BL p m).gen=g:=by
 have:=K9.1 h;have h1:=Dq.1 this.1;exact⟨by simp only[A5,BV,CL];exact h1,by simpa using this.2⟩
def Ye (p:Prog) (L:Nat) (os:List Ob) (f:Bool) (gen:Int) (args:List (Int×Int)) (g:Bool) (h:B3 p os gen args=true):Pure Tryz.prog 58 [Ff p L,.l (os.map FY) f,eI gen,.l (pP args) g] (.l (iL (JV p os gen args)) true):=by
 have ha:=NW h;have hok:=look_ok ha.look;have hml:=OR p gen p.methods.length;have h16:=hok.many;have c1:=TA 85 [] [.rp [Ff p L],.rp [.l (os.map FY) f],.rp [.l (pP args) g]] (fun m=>DM (AR p) os args (BL p m).fact) (E7 p gen p.methods.length) (fun m hm=>YW p L os f gen args g ha (eO h) m (OQ hm).1 (OQ hm).2) false (by omega);rw[Xt]at c1;refine Pure.of ?_;refine pN kZ ?_;have hs:=Sn
 conv=>whnf
 repeat'((first|apply st|(apply sq;intro K U)|(apply si;intro A B Y Z)|(apply Y;clear Z B Y A)|(apply U;clear U K)|refine Pure.use (XD _ _ _) ?_|fail)<;>conv=>whnf)
 refine(VP p L gen h16).use (rest:=[]) (by simpa using hs) ?_;clear hs;rintro r post σ ⟨v,rfl,rfl⟩ hs
 conv=>whnf
 obtain⟨σ2,h1,h2,h3⟩:=Ht hs 0 rfl;refine BD.PK (c1.use ?_) h1 (.cons h2 (.cons (.refl _) .nil));clear hs h1 h2;have hs:=h3
 conv=>whnf
 repeat'((first|apply st|(apply Y;clear Z B Y A)|(apply U;clear U K)|fail)<;>conv=>whnf)
 exact AQ (by rfl)
end Go.Gl
namespace Go.Gl
open Go.Proofs
def QF {p:Prog} {os:List Ob} {gen:Int} {args:List (Int×Int)} (h16:p.methods.length≤16):SK p (JV p os gen args):=by
 have hm: ∀x∈JV p os gen args,A5 p x=true∧(BL p x).gen=gen:=fun x hx=>by
  have:=K9.1 hx;have h1:=Dq.1 this.1;have h2:=this.2;simp only[BV,Du]at h2;exact⟨by simp only[A5,BV,CL];exact h1,h2.1⟩
 refine⟨fun x hx=>(hm x hx).1,fun x hx y hy=>(hm x hx).2.trans (hm y hy).2.symm,?_,Nat.le_trans (cH p os gen args _) h16⟩;refine List.Nodup.sublist (List.filter_sublist ..) ?_;exact(JK _).imp fun h e=>by omega
def nk (x:Pl×Bool):Pl×Int:=if x.2 then(x.1,0)else(gZ,5)
def Hy (p:Prog) (os:List Ob) (gen:Int) (args:List (Int×Int)):Pl×Int:=if B3 p os gen args then nk (GN (Al p) p (JV p os gen args))else(gZ,2)
abbrev tN (x:Pl×Int) (g:Bool):V:= .t [.a (fV x.1 g (x.2 != 0)),eI x.2]
attribute [local irreducible] BD Aw Ai AU AO Ah AV AW AN Ag AS AT Ay A9 Sat Ab A4 Aj W
def Qs (p:Prog) (os:List Ob) (f:Bool) (gen:Int) (args:List (Int×Int)) (g:Bool):Pure Tryz.prog 20 [.a (BN p),.l (os.map FY) f,eI gen,.l (pP args) g] (tN (Hy p os gen args) true):=by
 refine Pure.of ?_;have hr:=IZ p;generalize hX:Hy p os gen args=X;rw[Hy]at hX;refine pc kZ ?_;have hs:=Sn
 conv=>whnf
 repeat'((first|apply st|(apply sq;intro K U)|(apply si;intro A B Y Z)|(apply Y;clear Z B Y A)|(apply U;clear U K)|refine⟨kZ,?_⟩|(intro nn hnn;generalize hg:A7 _ nn _=σ;refine CY hg fun hs=>?_;clear hg)|fail)<;>conv=>whnf)
 refine hr.use (rest:=_) hs ?_;clear hs;cases h:(BA p).isSome
 ·have c1:=fF os f gen args g
  have hb:B3 p os gen args=false:=by simp only[B3,h,Bool.false_and]
  rw[hb,if_neg (by decide)]at hX;subst hX;rintro r post σ ⟨rfl,rfl⟩ hs
  conv=>whnf
  repeat'((first|apply st|(apply sq;intro K U)|(apply si;intro A B Y Z)|(apply Y;clear Z B Y A)|(apply U;clear U K)|refine⟨kZ,?_⟩|refine ld ?_|refine DT fun σ hs=>?_|refine FI ?_|refine c1.use ?_|clear U K)<;>conv=>whnf)
  exact AQ (by rfl)
 ·rintro r post σ ⟨L,rfl,rfl⟩ hs
  have c1:=call56 p L os f gen args g h;cases hb:B3 p os gen args<;>rw[hb]at c1 hX
  ·rw[if_neg (by decide)]at hX
   subst hX
   conv=>whnf
   repeat'((first|apply st|(apply sq;intro K U)|(apply si;intro A B Y Z)|(apply Y;clear Z B Y A)|(apply U;clear U K)|refine⟨kZ,?_⟩|refine ld ?_|refine DT fun σ hs=>?_|refine FI ?_|refine c1.use ?_|clear U K)<;>conv=>whnf)
   exact AQ (by rfl)
  ·have c2:=Ye p L os f gen args g hb
   have c3:=iW p L (JV p os gen args) true h (QF (look_ok h).many) [];rw[if_pos rfl]at hX;generalize GN (Al p) p (JV p os gen args)=x at *;obtain⟨x,b⟩:=x;cases b
   all_goals
    subst hX
    conv=>whnf
    repeat'((first|apply st|(apply sq;intro K U)|(apply si;intro A B Y Z)|(apply Y;clear Z B Y A)|(apply U;clear U K)|refine EM ?_|refine c1.use ?_|refine c2.use ?_|fail)<;>conv=>whnf)
    refine c3.use (rest:=_) hs ?_;clear hs;rintro r post σ ⟨rfl,M,rfl⟩ hs
    conv=>whnf
    repeat'((first|apply st|(apply sq;intro K U)|(apply si;intro A B Y Z)|(apply Y;clear Z B Y A)|(apply U;clear U K)|refine⟨kZ,?_⟩|refine ld ?_|refine DT fun σ hs=>?_|refine FI ?_|refine EM ?_|(intro nn hnn;generalize hg:A7 _ nn _=σ;refine CY hg fun hs=>?_;clear hg)|clear U K)<;>conv=>whnf)
    exact AQ (by rfl)
def Qh (x:Pl) (g h g' h':Bool):Pure Tryz.prog 22 [.a (fV x g h),.a (fV x g' h')] (.b true):=by
 obtain⟨a,t,b,c,u,d⟩:=x
 have c1: ∀(xs:List Int) (f g:Bool),Pure Tryz.prog 30 [.l (iL xs) f,.l (iL xs) g] (.b true):=fun xs f g=>by
  have:=Uj xs xs f g
  rwa [beq_self_eq_true]at this
 cases t
 all_goals
  cases u
  all_goals
   refine pb kZ ?_;have hs:=Sn
   conv=>whnf
   repeat'((first|apply st|(apply sq;intro K U)|(apply si;intro A B Y Z)|(apply Y;clear Z B Y A)|(apply U;clear U K)|refine FI ?_|refine Pure.use (c1 _ _ _) ?_|fail)<;>conv=>whnf)
   all_goals exact AI rfl
end Go.Gl
namespace Go.Gl
open Go.Proofs
structure Ox (w w':AK) (ps:List Int):Prop where
 par:w'.parents=w.parents++[ps]
 own:w'.owner=w.owner++[3+(w.parents.length:Int)]
variable {w w':AK} {ps:List Int}
def Ox.pl (h:Ox w w' ps):w'.parents.length=w.parents.length+1:=by rw[h.par];simp
def Ox.ol (h:Ox w w' ps):w'.owner.length=w.owner.length+1:=by rw[h.own];simp
def Ox.UK (h:Ox w w' ps) {c:Nat} (hc:c<3+w.parents.length):Gl.par w'.parents c=Gl.par w.parents c:=by
 unfold Gl.par;split
 ·rfl
 ·rw[h.par,DS,DS,cd (by omega)]
def iZ {c:Nat} (hc:3+w.parents.length≤c):Gl.par w.parents c= []:=by
 unfold Gl.par;split
 ·rfl
 ·rw[DS,List.getElem?_eq_none (by omega)];rfl
def Ox.ZW (h:Ox w w' ps) {s:Int} (h0:0≤s) (h1:s<w.owner.length):CA w' s=CA w s:=by
 unfold CA;rw[h.own,DS,DS,cd (by omega)]
def WK (h:Ox w w' ps): ∀(l:List Int) (t:J2) (f:Fact),(∀s∈l,0≤s∧s<(w.owner.length:Int))→MT w' t l f=MT w t l f
 | [],t,f,_=>by cases t<;>rfl
 | s::r,t,f,hl=>by
   have hs:=hl s (.head _);cases t with
   | int n=>rfl
   | QS=>rfl
   | obj AF kid=>simp only[MT];rw[h.ZW hs.1 hs.2,WK h r (kid s) f fun x hx=>hl x (.tail _ hx)]
def Vp {w:AK} {M:Int→J2} {f:Fact} {l:List Bool} (h:f.op=5):Tz w M f l= !l.getD 0 false:=by rw[Tz,if_neg (by omega),if_pos h]
def Vo {w:AK} {M:Int→J2} {f:Fact} {l:List Bool} (h:f.op=6):Tz w M f l=(l.getD 0 false&&l.getD 1 false):=by rw[Tz,if_neg (by omega),if_neg (by omega),if_pos h]
def Vn {w:AK} {M:Int→J2} {f:Fact} {l:List Bool} (h:f.op=7):Tz w M f l=(l.getD 0 false||l.getD 1 false):=by rw[Tz,if_neg (by omega),if_neg (by omega),if_neg (by omega),if_pos h]
def Vm {w:AK} {M:Int→J2} {f:Fact} {l:List Bool} (h:f.op=2∨f.op=3∨f.op=4):Tz w M f l=MT w (M f.arg) f.path f:=by rw[Tz,if_neg (by omega),if_neg (by omega),if_neg (by omega),if_neg (by omega)]
def Mq (h:Ox w w' ps) (M:Int→J2) (f:Fact):BW w f=true→Rr w' M f=Rr w M f:=by
 induction f using Fact.ind with
 | h f ih=>
   intro hn;rw[Jb,Jb w];rcases Hg hn with h1|⟨h5,x,hk,hx⟩|⟨h6,x,y,hk,hx,hy⟩|⟨h7,x,y,hk,hx,hy⟩|⟨hop,hlf,hp,hcl,ha0⟩
   ·simp only[Tz,if_pos h1]
   ·rw[Vp h5,Vp h5,hk];simp only[EA,List.map_nil];rw[ih x (by rw[hk];exact .head _) hx]
   ·rw[Vo h6,Vo h6,hk];simp only[EA,List.map_nil];rw[ih x (by rw[hk];exact .head _) hx,ih y (by rw[hk];exact .tail _ (.head _)) hy]
   ·rw[Vn h7,Vn h7,hk];simp only[EA,List.map_nil];rw[ih x (by rw[hk];exact .head _) hx,ih y (by rw[hk];exact .tail _ (.head _)) hy]
   ·rw[Vm hop,Vm hop]
    exact WK h _ _ _ hp
def R7 (n:Nat):J2→J2
 | .int m=> .int m
 | .QS=> .QS
 | .obj AF kid=> .obj (fun c=>AF c&&decide (c<n)) fun s=>R7 n (kid s)
def bM {n:Nat} (t:J2) {f:Fact} (hc:f.op=2→f.cls<n):GP (R7 n t) f=GP t f:=by
 cases t with
 | int m=>rfl
 | QS=>rfl
 | obj AF kid=>
   simp only[R7,GP];by_cases h2:f.op=2
   ·by_cases h3:3≤f.cls
    ·rw[decide_eq_true (show f.cls.toNat<n by have:=hc h2;omega),Bool.and_true]
    ·rw[decide_eq_false h3];simp
   ·rw[beq_eq_false_iff_ne.2 h2];simp
def WL (hw:Jy w) {f:Fact} (hc:f.op=2→f.cls<(3+w.parents.length:Nat)): ∀(l:List Int) (t:J2),(∀s∈l,0≤s∧s<(w.owner.length:Int))→MT w (R7 (3+w.parents.length) t) l f=MT w t l f
 | [],t,_=>by
   have:=bM t hc;cases t<;>exact this
 | s ::r,t,hl=>by
   have hs:=hl s (.head _);cases t with
   | int n=>rfl
   | QS=>rfl
   | obj AF kid=>
     have ho:=NQ hw hs;simp only[R7,MT];rw[WL hw hc r (kid s) fun x hx=>hl x (.tail _ hx),decide_eq_true (show(CA w s).toNat<3+w.parents.length by omega),Bool.and_true]
def Wn (hw:Jy w) (M:Int→J2) (f:Fact):BW w f=true→Rr w (fun a=>R7 (3+w.parents.length) (M a)) f=Rr w M f:=by
 induction f using Fact.ind with
 | h f ih=>
   intro hn;rw[Jb,Jb w M];rcases Hg hn with h1|⟨h5,x,hk,hx⟩|⟨h6,x,y,hk,hx,hy⟩|⟨h7,x,y,hk,hx,hy⟩|⟨hop,hlf,hp,hcl,ha0⟩
   ·simp only[Tz,if_pos h1]
   ·rw[Vp h5,Vp h5,hk];simp only[EA,List.map_nil];rw[ih x (by rw[hk];exact .head _) hx]
   ·rw[Vo h6,Vo h6,hk];simp only[EA,List.map_nil];rw[ih x (by rw[hk];exact .head _) hx,ih y (by rw[hk];exact .tail _ (.head _)) hy]
   ·rw[Vn h7,Vn h7,hk];simp only[EA,List.map_nil];rw[ih x (by rw[hk];exact .head _) hx,ih y (by rw[hk];exact .tail _ (.head _)) hy]
   ·rw[Vm hop,Vm hop]
    exact WL hw (fun h2=>by have:=hcl h2;omega) _ _ hp
def ZX (h:Ox w w' ps): ∀t:J2,H8 w' t→H8 w t
 | .int n,hq=>hq
 | .QS,_=>trivial
 | .obj AF kid,hq=>by
   refine⟨fun c h3 hc q hq2=>?_,fun s=>ZX h (kid s) (hq.2 s)⟩;rcases Nat.lt_or_ge c (3+w.parents.length)with hl|hl
   ·exact hq.1 c h3 hc q (by rw[h.UK hl];exact hq2)
   ·rw[iZ hl]at hq2
    cases hq2
def ZY (h:Ox w w' ps) (hw:Jy w): ∀t:J2,H8 w t→H8 w' (R7 (3+w.parents.length) t)
 | .int n,hq=>hq
 | .QS,_=>trivial
 | .obj AF kid,hq=>by
   refine⟨fun c h3 hc q hq2=>?_,fun s=>ZY h hw (kid s) (hq.2 s)⟩;simp only[BV,CL]at hc ⊢;rw[h.UK hc.2]at hq2;have:=hw.ord c q hq2;exact⟨hq.1 c h3 hc.1 q hq2,by omega⟩
def eK (h:Ox w w' ps) (hw:Jy w) (hw':Jy w') {a b:Fact} (ha:BW w a=true) (hb:BW w b=true) (ha':BW w' a=true) (hb':BW w' b=true):O4 w' a b=O4 w a b:=by
 rw[K5,Ia hw ha hb,Ia hw' ha' hb'];constructor
 ·intro hi M hM he
  have:=hi (fun x=>R7 (3+w.parents.length) (M x)) (fun x=>ZY h hw _ (hM x));rw[Mq h _ a ha,Wn hw M a ha,Mq h _ b hb,Wn hw M b hb]at this;exact this he
 ·intro hi M hM he
  rw[Mq h M a ha]at he;rw[Mq h M b hb];exact hi M (fun x=>ZX h _ (hM x)) he
variable {w w':AK} {ps:List Int}
def cI {l:List Int} {f g:Int→Bool} (h: ∀x∈l,f x=g x):l.any f=l.any g:=by
 induction l with
 | nil=>rfl
 | cons x r ih=>rw[QO,QO,h x (.head _),ih fun y hy=>h y (.tail _ hy)]
def dH (h:Ox w w' ps) (ho:ordered w.parents) (ho':ordered w'.parents) (b:Nat): ∀c:Nat,c<3+w.parents.length→IC w'.parents c b=IC w.parents c b:=by
 intro c
 induction c using Nat.strongRecOn with
 | _ c ih=>
   intro hc;rw[D3 ho',D3 ho,h.UK hc];congr 1;refine cI fun q hq=>?_
   have:=ho c q hq;exact ih q.toNat (by omega) (by omega)
def RL (h:Ox w w' ps) (ho:ordered w.parents) (ho':ordered w'.parents) {a:Int} (ha:0≤a) (ha1:a<3+w.parents.length) (b:Int):I9 w'.parents a b=I9 w.parents a b:=by
 unfold I9;rw[dH h ho ho' b.toNat a.toNat (by omega)]
def WY (h:Ox w w' ps) (ho:ordered w.parents) (ho':ordered w'.parents) {c s:Int} (hc:0≤c) (hc1:c<3+w.parents.length) (h0:0≤s) (h1:s<w.owner.length):hasB w' c s=hasB w c s:=by
 unfold hasB;rw[h.ZW h0 h1,RL h ho ho' hc hc1]
def eM (h:Ox w w' ps) (ho:ordered w.parents) (ho':ordered w'.parents) {c:Int} (hc:0≤c) (hc1:c<3+w.parents.length):hasB w' c (w.owner.length:Int)=false:=by
 have e:CA w' (w.owner.length:Int)=3+(w.parents.length:Int):=by
  unfold CA;rw[h.own,DS,Jz,List.getElem?_append_right (IE _)];simp
 unfold hasB;rw[e,RL h ho ho' hc hc1];unfold I9;rw[beq_eq_false_iff_ne.2 (show c≠3+(w.parents.length:Int) by omega),beq_eq_false_iff_ne.2 (show(3+(w.parents.length:Int))≠0 by omega),Bool.false_or,Bool.false_or];cases hu:IC w.parents c.toNat (3+(w.parents.length:Int)).toNat
 ·simp
 ·have:=UH ho _ _ hu
  omega
def MK {l:List Int} {f g:Int→Bool} (h: ∀x∈l,f x=g x):l.filter f=l.filter g:=by
 induction l with
 | nil=>rfl
 | cons x r ih=>rw[List.filter_cons,List.filter_cons,h x (.head _),ih fun y hy=>h y (.tail _ hy)]
def PX (h:Ox w w' ps) (ho:ordered w.parents) (ho':ordered w'.parents) {c:Int} (hc:0≤c) (hc1:c<3+w.parents.length):CN w' c=CN w c:=by
 unfold CN;rw[h.ol,Gd,List.filter_append,List.filter_cons,eM h ho ho' hc hc1,if_neg (by decide),List.filter_nil,H3];refine MK fun s hs=>?_
 have:=Dq.1 hs;exact WY h ho ho' hc hc1 this.1 this.2
def a7 (h:Ox w w' ps) (ho:ordered w.parents) (ho':ordered w'.parents) {os:List Ob} (hos:EY w os=true):EY w' os=true:=by
 simp only[EY,BV,CL,EL,J4,O2,Du]at hos ⊢;refine⟨hos.1,fun o hm=>?_⟩;have:=hos.2 o hm;have hl:=h.pl;rw[PX h ho ho' (by omega) this.1.2];exact⟨⟨this.1.1,by omega⟩,this.2⟩
def Z5 (h:Ox w w' ps) (ho:ordered w.parents) (ho':ordered w'.parents) {os:List Ob} (hos:QW w os): ∀(l:List Int) (v:Int×Int),(∀s∈l,0≤s∧s<(w.owner.length:Int))→Bt os.length v=true→T2 w' os l v=T2 w os l v
 | [],_,_,_=>rfl
 | s ::r,v,hl,hv=>by
   have hs:=hl s (.head _);rw[T2,T2];by_cases h3:v.1=3
   ·obtain⟨o,q1,q2,q3⟩:=KK hv h3
    have hoo:=hos.own o q3;rw[q2,WY h ho ho' (by omega) hoo.2 hs.1 hs.2];have hst:IL w' os s v=IL w os s v:=by rw[IL,IL,q2,PX h ho ho' (by omega) hoo.2]
    cases hh:hasB w o.1 s
    ·rw[Bool.and_false];rfl
    ·obtain⟨i,_,_,_,_,_,hv2⟩:=Nd hos q2 q3 hs hh
     rw[hst,Z5 h ho ho' hos r _ (fun x hx=>hl x (.tail _ hx)) hv2]
   ·rw[show(v.1==3)=false by simpa using h3,Bool.false_and,Bool.false_and];rfl
def WX {w:AK} {os:List Ob} {args:List (Int×Int)} {f:Fact} {l:List Bool} (h:f.op=5):G2 w os args f l= !l.getD 0 false:=by rw[G2,if_neg (by omega),if_pos h]
def WW {w:AK} {os:List Ob} {args:List (Int×Int)} {f:Fact} {l:List Bool} (h:f.op=6):G2 w os args f l=(l.getD 0 false&&l.getD 1 false):=by rw[G2,if_neg (by omega),if_neg (by omega),if_pos h]
def WV {w:AK} {os:List Ob} {args:List (Int×Int)} {f:Fact} {l:List Bool} (h:f.op=7):G2 w os args f l=(l.getD 0 false||l.getD 1 false):=by rw[G2,if_neg (by omega),if_neg (by omega),if_neg (by omega),if_pos h]
def WU {w:AK} {os:List Ob} {args:List (Int×Int)} {f:Fact} {l:List Bool} (h:f.op=2∨f.op=3∨f.op=4):G2 w os args f l=SL w os args f:=by rw[G2,if_neg (by omega),if_neg (by omega),if_neg (by omega),if_neg (by omega)]
def bW (h:Ox w w' ps) (ho:ordered w.parents) (ho':ordered w'.parents) {os:List Ob} (hos:QW w os) {args:List (Int×Int)} (hv: ∀v∈args,Bt os.length v=true) (f:Fact):BW w f=true→Cx f≤args.length→DM w' os args f=DM w os args f:=by
 induction f using Fact.ind with
 | h f ih=>
   intro hn hsp;rw[No,No w];have hk1: ∀x∈f.kids,Cx x≤args.length:=fun x hx=>Int.le_trans (Fu hx) hsp
   rcases Hg hn with h1|⟨h5,x,hk,hx⟩|⟨h6,x,y,hk,hx,hy⟩|⟨h7,x,y,hk,hx,hy⟩|⟨hop,hlf,hp,hcl,ha0⟩
   ·simp only[G2,if_pos h1]
   ·have e1:=ih x (by rw[hk];exact .head _) hx (hk1 x (by rw[hk];exact .head _))
    rw[WX h5,WX h5,hk];simp only[EA,List.map_nil,e1]
   ·have e1:=ih x (by rw[hk];exact .head _) hx (hk1 x (by rw[hk];exact .head _))
    have e2:=ih y (by rw[hk];exact .tail _ (.head _)) hy (hk1 y (by rw[hk];exact .tail _ (.head _)));rw[WW h6,WW h6,hk];simp only[EA,List.map_nil,e1,e2]
   ·have e1:=ih x (by rw[hk];exact .head _) hx (hk1 x (by rw[hk];exact .head _))
    have e2:=ih y (by rw[hk];exact .tail _ (.head _)) hy (hk1 y (by rw[hk];exact .tail _ (.head _)));rw[WV h7,WV h7,hk];simp only[EA,List.map_nil,e1,e2]
   ·rw[WU hop,WU hop]
    have hsl:=OD hlf
    have hva:Bt os.length (args.getD f.arg.toNat (0,0))=true:=by
     have hl:f.arg.toNat<args.length:=by omega
     rw[DS,DZ hl];exact hv _ (List.getElem_mem hl)
    rw[SL,SL,Z5 h ho ho' hos _ _ hp hva];cases hu:T2 w os f.path (args.getD f.arg.toNat (0,0))with
    | none=>rfl
    | some u=>
      have hu2:=UZ hos hp hva hu;have hc:=Z0 hos hu2;dsimp only;rw[RL h ho ho' hc.1 hc.2]
def Ed (p:Prog) (ps:List Int):Prog:={p with AL:=p.AL++[⟨ps,[p.AP],[]⟩],AP:=p.AP+1}
def LV (p:Prog) (ps:List Int):Ox (AR p) (AR (Ed p ps)) ps:=by
 constructor
 ·simp[AR,Ed,Av]
 ·have e:(AR p).parents.length=p.AL.length:=by simp[AR,Av]
  rw[e];simp only[AR,Ed,Fe,BQ,Lt,List.length_nil,H3,Gf];congr 1;simp[List.replicate];omega
def YK {α:Type} {l:List Nat} {f g:Nat→List α} (h: ∀i∈l,f i=g i):l.flatMap f=l.flatMap g:=by
 induction l with
 | nil=>rfl
 | cons x r ih=>rw[List.flatMap_cons,List.flatMap_cons,h x (.head _),ih fun y hy=>h y (.tail _ hy)]
def Re {l:List Nat} {f g:Nat→Bool} (h: ∀i∈l,f i=g i):l.filter f=l.filter g:=by
 induction l with
 | nil=>rfl
 | cons x r ih=>rw[List.filter_cons,List.filter_cons,h x (.head _),ih fun y hy=>h y (.tail _ hy)]
def Uy {n:Nat} {f g:Nat→Nat→Bool} (h: ∀i j,i<n→j<n→f i j=g i j):Ej n f=Ej n g:=by
 unfold Ej;refine YK fun i hi=>?_
 unfold JS;rw[Re fun j hj=>h i j (List.mem_range.1 hi) (List.mem_range.1 hj)]
def Zi {p:Prog} {ps:List Int} (hp:DE p) (hq:DE (Ed p ps)) {m n:Int} (hm:A5 p m=true) (hn:A5 p n=true):EC (Ed p ps) m n=EC p m n:=by
 have h1:=Cg (B7 hm);have h2:=Cg (B7 hn);exact eK (LV p ps) hp.Yq hq.Yq (hp.facts _ h1).1 (hp.facts _ h2).1 (hq.facts _ h1).1 (hq.facts _ h2).1
def TI {p:Prog} {ps:List Int} (hp:DE p) (hq:DE (Ed p ps)) {m n:Int} (hm:A5 p m=true) (hn:A5 p n=true):Al (Ed p ps) m n=Al p m n:=by
 unfold Al;rw[Zi hp hq hm hn,Zi hp hq hn hm]
def Xm {p:Prog} {ps:List Int} (hp:(BA p).isSome=true) (hq:(BA (Ed p ps)).isSome=true) (gen k:Int):Dx (Ed p ps) gen k=Dx p gen k:=by
 have h1:=look_ok hp;have h2:=look_ok hq
 have F:Ej (Ed p ps).methods.length (FJ (Ed p ps) gen k)=Ej p.methods.length (FJ p gen k):=by
  refine Uy fun i j hi hj=>?_
  have e:=TI h1 h2 (m:=(i:Int)) (n:=(j:Int)) (Sx hi) (Sx hj);unfold FJ;rw[e];rfl
 unfold Dx;rw[hp,hq,F];rfl
def cF {p:Prog} {ps:List Int} {os:List Ob} {gen:Int} {args:List (Int×Int)} (h:B3 p os gen args=true) (hq:(BA (Ed p ps)).isSome=true):B3 (Ed p ps) os gen args=true:=by
 have ha:=NW h;have h1:=look_ok ha.look;have h2:=look_ok hq;simp only[B3,BV]at h ⊢;exact⟨hq,a7 (LV p ps) h1.Yq.ord h2.Yq.ord h.2.1,h.2.2⟩
def fK {p:Prog} {ps:List Int} {os:List Ob} {gen:Int} {args:List (Int×Int)} (h:Ask p os gen args) (hq:(BA (Ed p ps)).isSome=true):JV (Ed p ps) os gen args=JV p os gen args:=by
 have h1:=look_ok h.look;have h2:=look_ok hq;unfold JV c9;refine MK fun m hm=>?_
 have hmb:A5 p m=true:=by
  have:=Dq.1 hm;simp only[A5,BV,CL];exact this
 have hx:=Cg (B7 hmb);show((BL p m).gen==gen&&DM (AR (Ed p ps)) os args (BL p m).fact)=_;by_cases hg:(BL p m).gen=gen
 ·obtain⟨-,-,hn,hsp⟩:=Q5 h.look hx
  rw[hg,←h.len]at hsp;rw[bW (LV p ps) h1.Yq.ord h2.Yq.ord h.gv h.tX _ hn hsp]
 ·rw[beq_eq_false_iff_ne.2 hg,Bool.false_and,Bool.false_and]
def fE {p:Prog} {ps:List Int} {os:List Ob} {gen:Int} {args:List (Int×Int)} (h:B3 p os gen args=true) (hq:(BA (Ed p ps)).isSome=true):Hy (Ed p ps) os gen args=Hy p os gen args:=by
 have ha:=NW h;have h1:=look_ok ha.look;have h2:=look_ok hq;unfold Hy;rw[cF h hq,h,fK ha hq];have hG:=QF (p:=p) (os:=os) (gen:=gen) (args:=args) h1.many
 have:GN (Al (Ed p ps)) (Ed p ps) (JV p os gen args)=GN (Al p) p (JV p os gen args):=by
  show GN (Al (Ed p ps)) p (JV p os gen args)=_;exact TU hG fun x hx y hy _=>TI h1 h2 (hG.Ly x hx) (hG.Ly y hy)
 rw[this]
end Go.Gl
namespace Go.Gl
open Go.Proofs
attribute [local irreducible] BD Aw Ai AU AO Ah AV AW AN Ag AS AT Ay A9 Sat Ab A4 Aj W
def Sm {n:Nat} {f:Nat→Nat→Bool} {i:Nat} (h: ∀j,f i j=false):JS n f i= []:=by
 rw[JS,List.filter_eq_nil_iff.2 fun j _=>by rw[h j];decide];rfl
set_option maxHeartbeats 4000000 in
def Q1 (p : Prog) (gen kind:Int):Pure Tryz.prog 15 [.a (BN p),eI gen,eI kind] (.t [.l (pP (Dx p gen kind).1) true,eI (Dx p gen kind).2]):=by
 refine Pure.of ?_;have hM:=Mx;have hr:=IZ p;refine pg kZ ?_;have hs:=Sn
 conv=>whnf
 repeat'((first|apply st|(apply sq;intro K U)|(apply si;intro A B Y Z)|(apply Y;clear Z B Y A)|(apply U;clear U K)|refine⟨kZ,?_⟩|fail)<;>conv=>whnf)
 refine hr.use (rest:=[]) (by simpa using hs) ?_;clear hs;cases h:(BA p).isSome
 ·have hg:=UR gen
  rintro r post σ ⟨rfl,rfl⟩ hs
  conv=>whnf
  repeat'((first|apply st|(apply sq;intro K U)|(apply si;intro A B Y Z)|(apply Y;clear Z B Y A)|(apply U;clear U K)|refine ld ?_|refine EV fun σ hs=>?_|refine UC ?_|refine hg.use ?_|(intro nn hnn;generalize hg:A7 _ nn _=σ;refine CY hg fun hs=>?_;clear hg)|clear U K)<;>conv=>whnf)
  exact AQ (by simp[Dx,h])
 ·rintro r post σ ⟨L,rfl,rfl⟩ hs
  have hg:=ZI p L gen;have hok:=look_ok h;have h16:=hok.many;have hgw:=NG h;have hfm:=KM h;cases h2:I8 p gen
  ·rw[h2]at hg
   conv=>whnf
   repeat'((first|apply st|(apply sq;intro K U)|(apply si;intro A B Y Z)|(apply Y;clear Z B Y A)|(apply U;clear U K)|refine ld ?_|refine EV fun σ hs=>?_|refine UC ?_|refine hg.use ?_|(intro nn hnn;generalize hg:A7 _ nn _=σ;refine CY hg fun hs=>?_;clear hg)|clear U K)<;>conv=>whnf)
   exact AQ (by simp[Dx,h,h2])
  rw[h2]at hg;by_cases h3:L0 kind=true
  ·have hk :=h3
   simp only[L0,BV,CL]at hk
   conv=>whnf
   repeat'((first|apply st|(apply sq;intro K U)|(apply si;intro A B Y Z)|(apply Y;clear Z B Y A)|(apply U;clear U K)|refine⟨rfl,?_⟩|refine ld ?_|refine EV fun σ hs=>?_|refine JU ?_|refine hg.use ?_|refine Pure.use (XD _ _ _) ?_|(constructor<;>intro hc<;>(try rw[hc])<;>(replace hc:=bp hc)<;>try(exfalso;omega))|(intro nn hnn;generalize hg:A7 _ nn _=σ;refine CY hg fun hs=>?_;clear hg)|clear U K)<;>conv=>whnf)
   ·rename_i nr _ _ _ _ _ _ nO _ _ _
    refine SJ p L gen h16 (nn:=nn) (fun s:List (Int×Int)×List (Int×Int)×V=>[.box nO [s.2.2],.own s.2.2 2 (pP s.2.1),.box nr [Ff p L],.map L (E2 p s.1)]) (fun k s=>s.2.1=(List.range k).flatMap (JS p.methods.length (FJ p gen kind))) ([],[],.l [] true) rfl ((DN hs 2).perm (Hs _ _ _ _)) ?_ ?_ ?_
    ·intro k s hlt hne hi
     rw[HK,←hi,Sm (fun j=>by simp[FJ,hne]),H3]
    ·clear hs hnn
     intro k s hlt hgk hi rest σ hs;have hck:BH k=k:=AM (by omega);have hmk:A5 p (k:Int)=true:=by simp[A5];omega
     rw[←hck];refine Ec (l:=[.box nO [s.2.2],.own s.2.2 2 (pP s.2.1),.box nr [Ff p L],.map L (E2 p s.1)]++rest) rfl hs ?_;clear hs;intro σ hs
     conv=>whnf
     repeat'((first|apply st|(apply sq;intro K U)|(apply si;intro A B Y Z)|(apply Y;clear Z B Y A)|(apply U;clear U K)|refine ld ?_|refine EV fun σ hs=>?_|refine Pure.use (XD _ _ _) ?_|(intro nn hnn;generalize hg:A7 _ nn _=σ;refine CY hg fun hs=>?_;clear hg)|clear U K)<;>conv=>whnf)
     rename_i nm _ _ _ _ _;clear hnn;refine SJ p L gen h16 (nn:=nn) (fun s':List (Int×Int)×List (Int×Int)×V=> .box nm [eI (BH k)]::([.box nO [s'.2.2],.own s'.2.2 2 (pP s'.2.1),.box nr [Ff p L],.map L (E2 p s'.1)]++rest)) (fun j s'=>s'.2.1=(List.range k).flatMap (JS p.methods.length (FJ p gen kind))++LB (FJ p gen kind) k j) s (by simp[LB,hi]) hs ?_ ?_ ?_
     ·intro j s' hjlt hne hi'
      have:FJ p gen kind k j=false:=by
       rw[←Bool.not_eq_true,av];exact fun e=>hne e.2.1.1
      rw[Ix,this,hi'];simp
     ·clear hs hi
      intro j s' hjlt hgj hi' rest2 σ hs;have hcj:BH j=j:=AM (by omega);have hmj:A5 p (j:Int)=true:=by simp[A5];omega
      obtain⟨x,hx⟩: ∃x,p.methods[k]? =some x:=⟨_,DZ hlt⟩
      have hxe:BL p (k:Int)=x:=by
       have:=B7 hmk;rw[Jz,hx]at this;exact(Option.some.inj this).symm
      have c4:Pure Tryz.prog 44 [Ff p L,eI (BH k),eI (BH j)] (.b (Cq p k j)):=by rw[hck,hcj];exact Ms p L k j hmk hmj
      have c5:Bc Tryz.prog 45 [Ff p L,eI (BH k),eI (BH j)] [.map L (E2 p s'.1)] fun r post=>r= .ret (.b (Al p k j))∧post= [.map L (E2 p (M7 p s'.1 k j))]:=by rw[hck,hcj];exact N3 p L k j hok hgw hfm hmk hmj s'.1
      have hoe:FJ p gen kind k j=(x.kind==kind&&(Cq p k j&&Al p k j)):=by rw[FJ,hxe,←hxe,hgk,hxe];simp
      have hrs:=Ix (FJ p gen kind) k j;have hfl:=KN p.methods.length (FJ p gen kind) k;have hrl:=Qz (FJ p gen kind) k j;have hkk:k*p.methods.length≤16*16:=Nat.mul_le_mul (by omega) h16;have hll:s'.2.1.length<Ac∧(s'.2.1.length+1)*16≤140737488355328:=by rw[hi',QP];omega
      have hno:FJ p gen kind k j=false→s'.2.1=(List.range k).flatMap (JS p.methods.length (FJ p gen kind))++LB (FJ p gen kind) k (j+1):=fun e=>by rw[hrs,e,hi'];simp
      rw[←hcj];refine Ec (l:= .box nm [eI (BH k)]::([.box nO [s'.2.2],.own s'.2.2 2 (pP s'.2.1),.box nr [Ff p L],.map L (E2 p s'.1)]++rest)++rest2) rfl hs ?_;clear hs;intro σ hs;by_cases hkd:x.kind=kind
      ·cases hal:Cq p k j<;>rw[hal]at c4
       ·conv=>whnf
        repeat'((first|apply st|(apply sq;intro K U)|(apply si;intro A B Y Z)|(apply Y;clear Z B Y A)|(apply U;clear U K)|apply dr|refine⟨rfl,?_⟩|refine ix ?_|refine ld ?_|refine EM ?_|refine c4.use ?_|(constructor<;>intro hc<;>(try rw[hc])<;>(replace hc:=bp hc)<;>try(exfalso;omega))|fail)<;>conv=>whnf)
        intro hn;exact⟨s',rfl,hno (by rw[hoe,hal];simp),hs.JW hn⟩
       ·cases hah:Al p k j<;>rw[hah]at c5
        all_goals
         conv=>whnf
         repeat'((first|apply st|(apply sq;intro K U)|(apply si;intro A B Y Z)|(apply Y;clear Z B Y A)|apply dr|refine⟨rfl,?_⟩|refine ix ?_|refine ld ?_|refine FI ?_|refine c4.use ?_|(constructor<;>intro hc<;>(try rw[hc])<;>(replace hc:=bp hc)<;>try(exfalso;omega))|fail)<;>conv=>whnf)
         refine c5.use (rest:=_) (hs.front (j:=4) rfl) ?_;clear hs;rintro r post σ ⟨rfl,rfl⟩ hs
         conv=>whnf
         repeat'((first|apply st|(apply si;intro A B Y Z)|(apply Y;clear Z B Y A)|(apply U;clear U K)|apply dr|refine ld ?_|refine EV fun σ hs=>?_|refine FI ?_|refine EM ?_|refine aq (enc:=pI) (x:=((_:Int),(_:Int))) (fun v σ hs hsl=>?_) (hg:=LP)|fail)<;>conv=>whnf)
        ·intro hn
         exact⟨(M7 p s'.1 k j,s'.2.1,s'.2.2),rfl,hno (by rw[hoe,hah];simp),(Sat.back (l:=(.box nm [eI (BH k)]::([.box nO [s'.2.2],.own s'.2.2 2 (pP s'.2.1),.box nr [Ff p L],.map L (E2 p (M7 p s'.1 k j))]++rest))++rest2) (j:=4) hs rfl).JW hn⟩
        ·intro hn
         refine⟨(M7 p s'.1 k j,s'.2.1++[((k:Int),(j:Int))],v),rfl,?_,Sat.JW ?_ hn⟩
         ·rw[hrs,show FJ p gen kind k j=true by rw[hoe,hah,hal];simp[hkd],hi',if_pos rfl,T0]
         ·rw[show((k:Int),(j:Int))=(BH k,BH j) by rw[hck,hcj]]
          exact Sat.back (l:=(.box nm [eI (BH k)]::([.box nO [v],.own v 2 (pP (s'.2.1++[(BH k,BH j)])),.box nr [Ff p L],.map L (E2 p (M7 p s'.1 k j))]++rest))++rest2) (j:=4) hs rfl
      ·conv=>whnf
       repeat'((first|apply st|(apply sq;intro K U)|(apply si;intro A B Y Z)|(apply Y;clear Z B Y A)|(apply U;clear U K)|apply dr|refine⟨rfl,?_⟩|refine ix ?_|refine ld ?_|(constructor<;>intro hc<;>(try rw[hc])<;>(replace hc:=bp hc)<;>try(exfalso;omega))|fail)<;>conv=>whnf)
       intro hn;exact⟨s',rfl,hno (by rw[hoe];simp[hkd]),hs.JW hn⟩
     ·clear hs hi
      intro s' σ hi' hs;refine FR hs fun σ hs=>?_
      conv=>whnf
      intro hn;exact⟨s',rfl,by rw[HK];exact hi',(hs.less (JR _ _)).JW hn⟩
    ·clear hs hnn
     intro s σ hi hs;refine FR hs fun σ hs=>?_
     conv=>whnf
     repeat'((first|(apply sq;intro K U)|(apply si;intro A B Y Z)|(apply U;clear U K)|refine ld ?_|fail)<;>conv=>whnf)
     refine(Z1 s.2.1 s.2.2 (by have:=KN p.methods.length (FJ p gen kind) p.methods.length;have:p.methods.length*p.methods.length≤16*16:=Nat.mul_le_mul h16 h16;rw[hi];omega)).use (rest:=_) (hs.front (j:=1) rfl) ?_;clear hs;rintro r post σ ⟨rfl,rfl⟩ hs
     conv=>whnf
     repeat'((first|apply st|(apply Y;clear Z B Y A)|(apply U;clear U K)|fail)<;>conv=>whnf)
     exact AQ (by simp[Dx,h,h2,h3,Ej,hi])
   ·exfalso
    simp at hc;omega
  ·have hk:kind<1∨4<kind:=by simp only[L0,BV,CL]at h3;omega
   have h3':L0 kind=false:=by simpa using h3
   rcases hk with hk|hk
   ·conv=>whnf
    repeat'((first|apply st|(apply sq;intro K U)|(apply si;intro A B Y Z)|(apply Y;clear Z B Y A)|(apply U;clear U K)|refine⟨rfl,?_⟩|refine ld ?_|refine EV fun σ hs=>?_|refine JU ?_|refine hg.use ?_|refine Pure.use (XD _ _ _) ?_|(constructor<;>intro hc<;>(try rw[hc])<;>(replace hc:=bp hc)<;>try(exfalso;omega))|(intro nn hnn;generalize hg:A7 _ nn _=σ;refine CY hg fun hs=>?_;clear hg)|clear U K)<;>conv=>whnf)
    ·exfalso
     have q:(bif !true then true else decide (kind<1))=false:=by assumption
     simp at q;omega
    ·exact AQ (by simp[Dx,h,h2,h3'])
   ·conv=>whnf
    repeat'((first|apply st|(apply sq;intro K U)|(apply si;intro A B Y Z)|(apply Y;clear Z B Y A)|(apply U;clear U K)|refine⟨rfl,?_⟩|refine ld ?_|refine EV fun σ hs=>?_|refine JU ?_|refine hg.use ?_|(constructor<;>intro hc<;>(try rw[hc])<;>(replace hc:=bp hc)<;>try(exfalso;omega))|(intro nn hnn;generalize hg:A7 _ nn _=σ;refine CY hg fun hs=>?_;clear hg)|clear U K)<;>conv=>whnf)
    all_goals exact AQ (by simp[Dx,h,h2,h3'])
end Go.Gl
