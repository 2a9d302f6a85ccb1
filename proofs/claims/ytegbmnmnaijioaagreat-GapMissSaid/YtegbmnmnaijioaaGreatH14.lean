import Derived.Test.YtegbmnmnaijioaaGreatH8
import Derived.Test.YtegbmnmnaijioaaGreatH10
import Derived.Test.YtegbmnmnaijioaaGreatH11
import Derived.Test.YtegbmnmnaijioaaGreatH12
import Derived.Test.YtegbmnmnaijioaaGreatH13
set_option linter.all false
set_option linter.defProp false
noncomputable section
namespace Go.Gl
open Go.Proofs
attribute [local irreducible] A7 Ap Af AT AM Ae AS AU AL Ad AO AP Aw A1 Sat AX Az Ah W
def O5 (g:FuncId) (fi ca:List V) (q:Ob→Bool):Prop:= ∀v,Pure Tryz.prog g (fi++[.a (Gu v)]++ca) (.b (q v))
def O5.use {g:FuncId} {fi ca:List V} {q:Ob→Bool} (h:O5 g fi ca q) {v:Ob} {σ:AH} {k kp:V→AH→Prop} (hk:k (.b (q v)) σ):Aw Tryz.prog (.f (.func g) fi ca) [.a (Gu v)] σ (qk k kp):=Bg ((h v).use hk)
def Yj {g:FuncId} {fi ca:List V} {q:Ob→Bool} (hpf:O5 g fi ca q) (v:Ob):Pure Tryz.prog 308 [.a (Gu v),.rp [.f (.func g) fi ca]] (.b (!q v)):=by
 refine tA kZ ?_;have hs:=Sn
 conv=>whnf
 repeat'((first|apply st|(apply sq;intro K U)|(apply si;intro A B Y Z)|(apply Y;clear Z B Y A)|(apply U;clear U K)|refine⟨kZ,?_⟩|refine O5.use hpf ?_|fail)<;>conv=>whnf)
 all_goals exact AI rfl
def jQ {g:FuncId} {fi ca:List V} {q:Ob→Bool} (hpf:O5 g fi ca q) (l:List Ob) (b:Bool):Pure Tryz.prog 337 [.l (l.map Gu) b,.f (.func 308) [] [.rp [.f (.func g) fi ca]]] (eI (Om q l 0)):=by
 refine Pure.fit (by kernel_rfl) fun hf=>?_
 have hl:l.length≤Aj:=by
  have:=hf.1;simp only[FY,BT]at this;exact this.1
 have hM:=Mx;refine sf kZ ?_;have hs:=Sn
 conv=>whnf
 repeat'((first|apply st|(apply sq;intro K U)|(apply si;intro A B Y Z)|(apply Y;clear Z B Y A)|(apply U;clear U K)|fail)<;>conv=>whnf)
 refine C3 l.length (fun k (_:Unit)=>[(8,eI (Bc k))]) (fun _ _=>[]) (fun k _=>Om q l 0=Om q (l.drop k) k) () rfl rfl hs ?_;clear hs;rintro k - σ hk hn hs;have hck:Bc k=k:=AN (by omega);rcases BU l hk with⟨x,hx,hlt⟩|hke
 ·have c1:=Yj hpf x
  rw[drop_cons hx,Om]at hn;cases hv:q x<;>rw[hv]at c1 hn
  ·conv=>whnf
   repeat'((first|apply st|(apply sq;intro K U)|(apply si;intro A B Y Z)|(apply Y;clear Z B Y A)|(apply U;clear U K)|refine⟨rfl,?_⟩|refine⟨kZ,?_⟩|refine ix ?_|refine Iw ?_|(refine DR (fun hc=>?_)<;>(try rw[hc])<;>clear hc)|refine Bg (c1.use ?_)|clear U K)<;>conv=>whnf)
   exact AI (by rw[hn,if_neg (by decide),hck])
  ·conv=>whnf
   repeat'((first|apply st|(apply sq;intro K U)|(apply si;intro A B Y Z)|(apply Y;clear Z B Y A)|(apply U;clear U K)|refine⟨rfl,?_⟩|refine⟨kZ,?_⟩|refine ix ?_|refine GS ?_|(refine DR (fun hc=>?_)<;>(try rw[hc])<;>clear hc)|refine Bg (c1.use ?_)|clear U K)<;>conv=>whnf)
   exact⟨hlt,(),rfl,by rw[hn,if_pos rfl],hs⟩
 ·conv=>whnf
  repeat'((first|apply st|(apply sq;intro K U)|(apply si;intro A B Y Z)|(apply Y;clear Z B Y A)|(apply U;clear U K)|refine⟨rfl,?_⟩|(refine Ew (fun hc=>?_)<;>(try rw[hc])<;>clear hc)|clear U K)<;>conv=>whnf)
  exact AI (by rw[hn,Au hke];rfl)
def Wv {g:FuncId} {fi ca:List V} {q:Ob→Bool} (hpf:O5 g fi ca q) (l:List Ob) (b:Bool):Pure Tryz.prog 307 [.l (l.map Gu) b,.f (.func 308) [] [.rp [.f (.func g) fi ca]]] (.b (!l.all q)):=by
 have c1:=jQ hpf l b;refine tB kZ ?_;have hs:=Sn
 conv=>whnf
 repeat'((first|apply st|(apply sq;intro K U)|(apply si;intro A B Y Z)|(apply Y;clear Z B Y A)|(apply U;clear U K)|refine⟨rfl,?_⟩|refine c1.use ?_|fail)<;>conv=>whnf)
 all_goals exact AI (by rw[←Pq q l 0])
def vZ {g:FuncId} {fi ca:List V} {q:Ob→Bool} (hpf:O5 g fi ca q) (l:List Ob) (b:Bool):Pure Tryz.prog 251 [.l (l.map Gu) b,.f (.func g) fi ca] (.b (l.all q)):=by
 have c1:=Wv hpf l b;refine tk kZ ?_;have hs:=Sn
 conv=>whnf
 repeat'((first|apply st|(apply sq;intro K U)|(apply si;intro A B Y Z)|(apply Y;clear Z B Y A)|(apply U;clear U K)|refine c1.use ?_|fail)<;>conv=>whnf)
 all_goals exact AI (by rw[Bool.not_not])
def Yl (os:List Ob) (f:Bool) (v:Int×Int):Pure Tryz.prog 254 [.a (pI v),.rp [.l (os.map Gu) f]] (.b (Bz os.length v)):=by
 have e3:((os.map Gu).length:Int)=os.length:=by simp
 have c1:Pure Tryz.prog 179 [.a (pI v),eI ((os.map Gu).length:Int)] (.b (Bz os.length v)):=by rw[e3];exact VH v os.length
 refine ti kZ ?_;have hs:=Sn
 conv=>whnf
 repeat'((first|apply st|(apply sq;intro K U)|(apply si;intro A B Y Z)|(apply Y;clear Z B Y A)|(apply U;clear U K)|refine⟨kZ,?_⟩|refine c1.use ?_|fail)<;>conv=>whnf)
 all_goals exact AI rfl
set_option maxHeartbeats 1000000 in
def Ym (w:AJ) (hw:DH w) (hw2:It w) (os:List Ob) (f:Bool) (o:Ob):Pure Tryz.prog 252 [.a (Gu o),.rp [.rp (wC w (B9 w.parents))],.rp [.l (os.map Gu) f]] (.b (MR w os.length o)):=by
 refine Pure.fit (by kernel_rfl) fun hf=>?_
 have hM:=Mx;have c1:Pure Tryz.prog 247 [.rp (wC w (B9 w.parents)),eI o.1] (.b (Sf w o.1)):=mA w (B9 w.parents) o.1 hw2.len;have c3:=gp (g:=254) (fi:=[]) (ca:=[.rp [.l (os.map Gu) f]]) (Yl os f) o.2 false;cases ho:Sf w o.1<;>rw[ho]at c1
 ·refine Xm kZ ?_
  have hs:=Sn
  conv=>whnf
  repeat'((first|apply st|(apply sq;intro K U)|(apply si;intro A B Y Z)|(apply Y;clear Z B Y A)|(apply U;clear U K)|apply dr|refine rk ?_ ?_|exact fun s e=>by cases e;rfl|refine c1.use ?_|fail)<;>conv=>whnf)
  all_goals exact AI (by rw[MR,ho];rfl)
 ·have hor:=ho
  simp only[Sf,A9,Cf]at hor;have c2:=VX w o.1 hw hw2 hor.1 hor.2;have hob:MR w os.length o=(o.2.length==(C5 w o.1).length&&o.2.all (Bz os.length)):=by rw[MR,ho,EW]
  rw[hob];clear hob;generalize C5 w o.1=ss at *;by_cases he:o.2.length=ss.length
  ·rw[DK.2 he,EW]
   refine Xm kZ ?_;have hs:=Sn
   conv=>whnf
   repeat'((first|apply st|(apply sq;intro K U)|(apply si;intro A B Y Z)|(apply Y;clear Z B Y A)|(apply U;clear U K)|apply dr|refine rk ?_ ?_|exact fun s e=>by cases e;rfl|refine⟨rfl,?_⟩|refine c1.use ?_|refine c2.use ?_|refine c3.use ?_|(constructor<;>intro hc<;>(try rw[hc])<;>(replace hc:=bp hc)<;>(try simp(disch:=omega) only[BT,wrap64,AN]at hc)<;>try(exfalso;omega))|fail)<;>conv=>whnf)
   all_goals first
    | exact AI rfl
    | (exfalso;simp[he]at hc;done)
    | (exfalso;simp at hc;omega)
  ·rw[beq_eq_false_iff_ne.2 he,Bool.false_and]
   refine Xm kZ ?_;have hs:=Sn
   conv=>whnf
   repeat'((first|apply st|(apply sq;intro K U)|(apply si;intro A B Y Z)|(apply Y;clear Z B Y A)|(apply U;clear U K)|apply dr|refine rk ?_ ?_|exact fun s e=>by cases e;rfl|refine⟨rfl,?_⟩|refine c1.use ?_|refine c2.use ?_|(constructor<;>intro hc<;>(try rw[hc])<;>(replace hc:=bp hc)<;>(try simp(disch:=omega) only[BT,wrap64,AN]at hc)<;>try(exfalso;omega))|fail)<;>conv=>whnf)
   all_goals first
    | exact AI rfl
    | (exfalso;simp at hc;omega)
def bT (w:AJ) (hw:DH w) (hw2:It w) (os:List Ob) (f:Bool):Pure Tryz.prog 176 [.rp (wC w (B9 w.parents)),.l (os.map Gu) f] (.b (Fs w os)):=by
 refine Pure.fit (by kernel_rfl) fun hf=>?_
 have hM:=Mx;have c1:=vZ (g:=252) (fi:=[]) (ca:=[.rp [.rp (wC w (B9 w.parents))],.rp [.l (os.map Gu) f]]) (Ym w hw hw2 os f) os f;by_cases h40:os.length≤40
 ·have e0:Fs w os=os.all (MR w os.length):=by rw[Fs,decide_eq_true h40,EW]
  rw[e0];refine gY kZ ?_;have hs:=Sn
  conv=>whnf
  repeat'((first|apply st|(apply sq;intro K U)|(apply si;intro A B Y Z)|(apply Y;clear Z B Y A)|(apply U;clear U K)|refine⟨rfl,?_⟩|refine c1.use ?_|(constructor<;>intro hc<;>(try rw[hc])<;>(replace hc:=bp hc)<;>(try simp(disch:=omega) only[BT,wrap64,AN]at hc)<;>try(exfalso;omega))|fail)<;>conv=>whnf)
  all_goals exact AI rfl
 ·refine gY kZ ?_
  have hs:=Sn
  conv=>whnf
  repeat'((first|apply st|(apply sq;intro K U)|(apply si;intro A B Y Z)|(apply Y;clear Z B Y A)|(apply U;clear U K)|refine⟨rfl,?_⟩|(constructor<;>intro hc<;>(try rw[hc])<;>(replace hc:=bp hc)<;>(try simp(disch:=omega) only[BT,wrap64,AN]at hc)<;>try(exfalso;omega))|fail)<;>conv=>whnf)
  all_goals exact AI (by rw[Fs,decide_eq_false h40];rfl)
def Ia (w:AJ) (os:List Ob) (args:List (Int×Int)):Bool:=Fs w os&&(decide (1≤args.length)&&(decide (args.length≤3)&&args.all (Bz os.length)))
def R3 (w:AJ) (hw:DH w) (hw2:It w) (os:List Ob) (f:Bool) (args:List (Int×Int)) (g:Bool):Pure Tryz.prog 119 [.rp (wC w (B9 w.parents)),.l (os.map Gu) f,.l (pP args) g] (.b (Ia w os args)):=by
 refine Pure.fit (by kernel_rfl) fun hf=>?_
 have hM:=Mx;have c1:=bT w hw hw2 os f;have c2:=gp (g:=178) (fi:=[]) (ca:=[.rp [.l (os.map Gu) f]]) (Yn os f) args g;rw[Ia];cases ho:Fs w os<;>rw[ho]at c1
 ·refine TE kZ ?_
  have hs:=Sn
  conv=>whnf
  repeat'((first|apply st|(apply sq;intro K U)|(apply si;intro A B Y Z)|(apply Y;clear Z B Y A)|(apply U;clear U K)|refine c1.use ?_|fail)<;>conv=>whnf)
  all_goals exact AI rfl
 ·by_cases h1:1≤args.length
  ·by_cases h3:args.length≤3
   ·rw[decide_eq_true h1,decide_eq_true h3,EW,EW,EW]
    refine TE kZ ?_;have hs:=Sn
    conv=>whnf
    repeat'((first|apply st|(apply sq;intro K U)|(apply si;intro A B Y Z)|(apply Y;clear Z B Y A)|(apply U;clear U K)|refine⟨rfl,?_⟩|refine c1.use ?_|refine c2.use ?_|(constructor<;>intro hc<;>(try rw[hc])<;>(replace hc:=bp hc)<;>(try simp(disch:=omega) only[BT,wrap64,AN]at hc)<;>try(exfalso;omega))|fail)<;>conv=>whnf)
    all_goals exact AI rfl
   ·rw[decide_eq_true h1,decide_eq_false h3,EW,Bool.false_and,Bool.and_false]
    refine TE kZ ?_;have hs:=Sn
    conv=>whnf
    repeat'((first|apply st|(apply sq;intro K U)|(apply si;intro A B Y Z)|(apply Y;clear Z B Y A)|(apply U;clear U K)|refine⟨rfl,?_⟩|refine c1.use ?_|(constructor<;>intro hc<;>(try rw[hc])<;>(replace hc:=bp hc)<;>(try simp(disch:=omega) only[BT,wrap64,AN]at hc)<;>try(exfalso;omega))|fail)<;>conv=>whnf)
    all_goals exact AI rfl
  ·rw[decide_eq_false h1,Bool.false_and,Bool.and_false]
   refine TE kZ ?_;have hs:=Sn
   conv=>whnf
   repeat'((first|apply st|(apply sq;intro K U)|(apply si;intro A B Y Z)|(apply Y;clear Z B Y A)|(apply U;clear U K)|refine⟨rfl,?_⟩|refine c1.use ?_|(constructor<;>intro hc<;>(try rw[hc])<;>(replace hc:=bp hc)<;>(try simp(disch:=omega) only[BT,wrap64,AN]at hc)<;>try(exfalso;omega))|fail)<;>conv=>whnf)
   all_goals exact AI rfl
def Z8 {x:Int}: ∀(xs:List Int) (k i:Nat),xs[i]? =some x→(∀j y,j<i→xs[j]? =some y→y≠x)→(B7 (fun y (_:Unit)=>(x==y,())) xs k ()).1=((k+i:Nat):Int)
 | [],_,_,h,_=>by simp at h
 | y::r,k,0,h,_=>by
   obtain rfl:y=x:=by simpa using h
   simp[B7]
 | y::r,k,i+1,h,hn=>by
   have hy:=hn 0 y (Nat.succ_pos i) rfl;rw[B7,if_neg (by simpa using fun e:x=y=>hy e.symm)];rw[Z8 r (k+1) i (by simpa using h) fun j z hj hz=>hn (j+1) z (by omega) (by simpa using hz)];omega
set_option maxHeartbeats 1000000 in
def yC (w:AJ) (os:List Ob) (f:Bool) (v:Int×Int) (l:List Int) (g:Bool) (hg:DH w) (hw:It w) (hos:Qt w os) (hv:Bz os.length v=true) (hl: ∀s∈l,0≤s∧s<(w.owner.length:Int)) :
    Pure Tryz.prog 181 [.rp (wC w (B9 w.parents)),.l (os.map Gu) f,.a (pI v),.l (iL l) g] (atE (bA w os l v)):=by
 refine Pure.fit (by kernel_rfl) fun hf=>?_
 have hll:=RJ hf.2.2.2.1;have hM:=Mx;have ho4:=hos.len;have hol:=hw.qE;refine uY kZ ?_;have hs:=Sn
 conv=>whnf
 repeat'((first|apply st|(apply sq;intro K U)|(apply si;intro A B Y Z)|(apply Y;clear Z B Y A)|(apply U;clear U K)|(intro nn hnn;generalize hg:A5 _ nn _=σ;refine CN hg fun hs=>?_;clear hg)|fail)<;>conv=>whnf)
 rename_i nV _ _ _;refine C3 l.length (fun k (_:Int×Int)=>[(14,eI (Bc k))]) (fun _ v=>[.box nn [eI 0,eI 0],.box nV (pI v)]) (fun k u=>Bz os.length u=true∧bA w os l v=bA w os (l.drop k) u) v rfl ⟨hv,rfl⟩ hs ?_;clear hs;rintro k ⟨vk,vn⟩ σ hk ⟨hu,hn⟩ hs;rcases BU l hk with⟨s,hsl,hlt⟩|hke
 ·have hsr:=hl s (DL hsl)
  rw[drop_cons hsl,bA]at hn;by_cases h3:vk=3
  ·obtain⟨o,ho1,ho2,ho3⟩:=JW hu h3
   have hoo:=hos.own o ho3;have hnr:=PQ hu h3;dsimp only at ho1 ho2 hnr;have c1:=fy w hg o.1 s hoo.1 hoo.2 hsr.1 hsr.2;rw[←Zv hg hw hoo.1 hoo.2 hsr.1 hsr.2]at c1;rw[ho2,show((vk,vn).1==3)=true by simp[h3],EW]at hn;cases hh:hasB w o.1 s<;>rw[hh]at c1 hn
   ·rw[if_neg (by decide)]at hn
    conv=>whnf
    repeat'((first|apply st|(apply sq;intro K U)|(apply si;intro A B Y Z)|(apply Y;clear Z B Y A)|(apply U;clear U K)|refine⟨rfl,?_⟩|refine⟨kZ,?_⟩|refine ix ?_|refine MI ?_|refine ld ?_|refine Cg fun σ hs=>?_|refine Iw ?_|(refine DR (fun hc=>?_)<;>(try rw[hc])<;>clear hc)|refine c1.use ?_|(constructor<;>intro hc<;>(try rw[hc])<;>(replace hc:=bp hc)<;>(try simp(disch:=omega) only[BT,wrap64,AN]at hc)<;>try(exfalso;omega))|clear U K)<;>conv=>whnf)
    all_goals exact AI (by rw[hn];rfl)
   ·rw[if_pos rfl]at hn
    obtain⟨i,q1,q2,q3,q4,q5,q6⟩:=PU hos ho2 ho3 hsr hh;have c2:=VX w o.1 hg hw hoo.1 hoo.2;have c3:=Vu (C5 w o.1) false s;rw[show eO (C5 w o.1) s=(i:Int) by rw[eO,Z8 _ 0 i q3 q4,G7]]at c3;have q5':o.2[((i:Nat):Int).toNat]? =some (NO w os s (vk,vn)):=q5;generalize NO w os s (vk,vn)=u2 at *;generalize C5 w o.1=ss at *;clear q2 q3 q4 q5
    conv=>whnf
    repeat'((first|apply st|(apply sq;intro K U)|(apply si;intro A B Y Z)|(apply Y;clear Z B Y A)|(apply U;clear U K)|apply dr|refine rk ?_ ?_|exact fun s e=>by cases e;rfl|refine⟨rfl,?_⟩|refine⟨kZ,?_⟩|refine ix ?_|refine MI ?_|refine ld ?_|refine Cg fun σ hs=>?_|refine GS ?_|(refine DR (fun hc=>?_)<;>(try rw[hc])<;>clear hc)|refine c1.use ?_|refine c2.use ?_|refine c3.use ?_|(constructor<;>intro hc<;>(try rw[hc])<;>(replace hc:=bp hc)<;>(try simp(disch:=omega) only[BT,wrap64,AN]at hc)<;>try(exfalso;omega))|clear U K)<;>conv=>whnf)
    exact⟨hlt,u2,rfl,⟨q6,hn⟩,hs⟩
  ·rw[show((vk,vn).1==3)=false by simp[h3],Bool.false_and,if_neg (by decide)]at hn
   conv=>whnf
   repeat'((first|apply st|(apply sq;intro K U)|(apply si;intro A B Y Z)|(apply Y;clear Z B Y A)|(apply U;clear U K)|refine⟨rfl,?_⟩|refine⟨kZ,?_⟩|refine ix ?_|refine ld ?_|refine Cg fun σ hs=>?_|(refine DR (fun hc=>?_)<;>(try rw[hc])<;>clear hc)|(constructor<;>intro hc<;>(try rw[hc])<;>(replace hc:=bp hc)<;>(try simp(disch:=omega) only[BT,wrap64,AN]at hc)<;>try(exfalso;omega))|clear U K)<;>conv=>whnf)
   all_goals exact AI (by rw[hn];rfl)
 ·rw[Au hke,bA]at hn
  conv=>whnf
  repeat'((first|apply st|(apply sq;intro K U)|(apply si;intro A B Y Z)|(apply Y;clear Z B Y A)|(apply U;clear U K)|refine⟨rfl,?_⟩|refine⟨kZ,?_⟩|refine ld ?_|refine Cg fun σ hs=>?_|(refine Ew (fun hc=>?_)<;>(try rw[hc])<;>clear hc)|clear U K)<;>conv=>whnf)
  all_goals exact AI (by rw[hn];rfl)
end Go.Gl
namespace Go.Gl
open Go.Proofs
def n9 {w:AJ} (ho:ordered w.parents) {c b:Int} (h0:0≤c) (h1:c<3+w.parents.length) (hb:0≤b):I2 w.parents c b=((B9 w.parents).getD c.toNat 0).testBit b.toNat:=by
 rw[PR ho (by omega),I2];have e0:(b.toNat==0)=(b==0):=by rw[Hu];simp only[DK];omega
 rw[e0];by_cases h3:3≤c
 ·rw[decide_eq_true h3,EW]
  by_cases h:c=b
  ·subst h;rw[D2 ho];simp
  ·rw[beq_eq_false_iff_ne.2 h,Bool.false_or]
 ·have hp:par w.parents c.toNat= []:=if_pos (by omega)
  rw[decide_eq_false h3,Bool.false_and,Bool.or_false,EZ ho,hp];have:(c.toNat==b.toNat)=(c==b):=by rw[Hu];simp only[DK];omega
  rw[this,List.any_nil,Bool.or_false,Bool.or_comm]
def lN {w:AJ} (hw:DH w) {c:Int} (h0:0≤c) (h1:c<3+w.parents.length):(List.drop (c.toNat*1) (List.drop 2 (wC w (B9 w.parents))))[0]? =some (eU ((B9 w.parents).getD c.toNat 0)):=by
 have hul:(B9 w.parents).length=3+w.parents.length:=Eo _ _;rw[kN,kN,←Yz w (B9 w.parents) (i:=c.toNat) (by omega)];congr 1;omega
def vP {w:AJ} {os:List Ob} (hos:Qt w os) {v:Int×Int} (hv:Bz os.length v=true):0≤Jv os v∧Jv os v<3+w.parents.length:=by
 rw[Jv];split
 ·omega
 split
 ·omega
 ·rename_i h1 h2
  have h3:v.1=3:=by
   simp only[Bz,if_neg h1,if_neg h2]at hv;split at hv
   ·assumption
   ·cases hv
  obtain⟨o,q1,q2,q3⟩:=JW hv h3;have:=hos.own o q3;have e:os.getD v.2.toNat (0,[])=o:=q2;rw[e];omega
def XW {n:Int} {v:Int×Int} (hv:Bz n v=true):v.1=1∨v.1=2∨v.1=3:=by
 rw[Bz]at hv;by_cases h1:v.1=1
 ·exact .inl h1
 by_cases h2:v.1=2
 ·exact .inr (.inl h2)
 by_cases h3:v.1=3
 ·exact .inr (.inr h3)
 rw[if_neg h1,if_neg h2,if_neg h3]at hv;cases hv
def xU {op un n:Int} (h:op=3∨op=4) (hc:((un==n)==(op==4))=true):(if op=3 then decide (un<n)else un==n)=decide (un≤n):=by
 rcases h with rfl|rfl
 ·have:un≠n:=by simpa using hc
  rw[if_pos rfl,decide_eq_decide];omega
 ·have:un=n:=by simpa using hc
  subst this;simp
def xV {op un n:Int} (h:op=3∨op=4) (hc:((un==n)==(op==4))=false):(if op=3 then decide (un<n)else un==n)=false:=by
 rcases h with rfl|rfl
 ·have:un=n:=by simpa using hc
  subst this;simp
 ·have:un≠n:=by simpa using hc
  simpa using this
attribute [local irreducible] A7 Ap Af AT AM Ae AS AU AL Ad AO AP Aw A1 Sat AX Az Ah W
set_option maxHeartbeats 1000000 in
def jS (w : AJ) (os:List Ob) (b:Bool) (args:List (Int×Int)) (g:Bool) (hg:DH w) (hw:It w) (hos:Qt w os) (hv: ∀v∈args,Bz os.length v=true) (f:Fact):Al w f=true→BQ f≤args.length→
    Pure Tryz.prog 121 [.rp (wC w (B9 w.parents)),.a (xF f),.l (os.map Gu) b,.l (pP args) g] (.b (Ci w os args f)):=by
 induction f using Fact.ind with
 | h f ih=>
   intro hn hsp;refine Pure.fit (by kernel_rfl) fun hf=>?_
   have⟨h2,h3,h4⟩:=J5 hf.2.1;have hM:=Mx;have hwl:=hw.len;rw[JI,HX];rcases QF hn with h1|⟨h5,x,hk,hx⟩|⟨h6,x,y,hk,hx,hy⟩|⟨h7,x,y,hk,hx,hy⟩|⟨hop,hlf,hp,hcl,ha0⟩
   ·refine H7 kZ ?_
    have hs:=Sn
    conv=>whnf
    repeat'((first|apply st|(apply sq;intro K U)|(apply si;intro A B Y Z)|(apply Y;clear Z B Y A)|(apply U;clear U K)|refine⟨rfl,?_⟩|(constructor<;>intro hc<;>(try rw[hc])<;>(replace hc:=bp hc)<;>try(exfalso;omega))|clear U K)<;>conv=>whnf)
    all_goals exact AI (by rw[if_pos h1])
   ·have c1:=ih x (by rw[hk];exact .head _) hx (Int.le_trans (EE (by rw[hk];exact .head _)) hsp)
    have e:(f.kids.map (Ci w os args)).getD 0 false=Ci w os args x:=by rw[hk];rfl
    have hk0:f.kids[0]? =some x:=by rw[hk];rfl
    rw[if_neg (by omega),if_pos h5,e];clear e hk;refine H7 kZ ?_;have hs:=Sn
    conv=>whnf
    repeat'((first|apply st|(apply sq;intro K U)|(apply si;intro A B Y Z)|(apply Y;clear Z B Y A)|(apply U;clear U K)|refine⟨rfl,?_⟩|refine⟨kZ,?_⟩|refine UR ?_|refine c1.use ?_|(constructor<;>intro hc<;>(try rw[hc])<;>(replace hc:=bp hc)<;>try(exfalso;omega))|clear U K)<;>conv=>whnf)
    all_goals exact AI rfl
   ·have c1:=ih x (by rw[hk];exact .head _) hx (Int.le_trans (EE (by rw[hk];exact .head _)) hsp)
    have c2:=ih y (by rw[hk];exact .tail _ (.head _)) hy (Int.le_trans (EE (by rw[hk];exact .tail _ (.head _))) hsp);have e:(f.kids.map (Ci w os args)).getD 0 false=Ci w os args x:=by rw[hk];rfl
    have e2:(f.kids.map (Ci w os args)).getD 1 false=Ci w os args y:=by rw[hk];rfl
    have hk0:f.kids[0]? =some x:=by rw[hk];rfl
    have hk1:f.kids[1]? =some y:=by rw[hk];rfl
    rw[if_neg (by omega),if_neg (by omega),if_pos h6,e,e2];clear e e2 hk;cases hb:Ci w os args x<;>rw[hb]at c1
    all_goals
     refine H7 kZ ?_;have hs:=Sn
     conv=>whnf
     repeat'((first|apply st|(apply sq;intro K U)|(apply si;intro A B Y Z)|(apply Y;clear Z B Y A)|(apply U;clear U K)|refine⟨rfl,?_⟩|refine⟨kZ,?_⟩|refine UR ?_|refine N2 ?_|refine c1.use ?_|refine c2.use ?_|(constructor<;>intro hc<;>(try rw[hc])<;>(replace hc:=bp hc)<;>try(exfalso;omega))|clear U K)<;>conv=>whnf)
     all_goals exact AI rfl
   ·have c1:=ih x (by rw[hk];exact .head _) hx (Int.le_trans (EE (by rw[hk];exact .head _)) hsp)
    have c2:=ih y (by rw[hk];exact .tail _ (.head _)) hy (Int.le_trans (EE (by rw[hk];exact .tail _ (.head _))) hsp);have e:(f.kids.map (Ci w os args)).getD 0 false=Ci w os args x:=by rw[hk];rfl
    have e2:(f.kids.map (Ci w os args)).getD 1 false=Ci w os args y:=by rw[hk];rfl
    have hk0:f.kids[0]? =some x:=by rw[hk];rfl
    have hk1:f.kids[1]? =some y:=by rw[hk];rfl
    rw[if_neg (by omega),if_neg (by omega),if_neg (by omega),if_pos h7,e,e2];clear e e2 hk;cases hb:Ci w os args x<;>rw[hb]at c1
    all_goals
     refine H7 kZ ?_;have hs:=Sn
     conv=>whnf
     repeat'((first|apply st|(apply sq;intro K U)|(apply si;intro A B Y Z)|(apply Y;clear Z B Y A)|(apply U;clear U K)|refine⟨rfl,?_⟩|refine⟨kZ,?_⟩|refine UR ?_|refine N2 ?_|refine c1.use ?_|refine c2.use ?_|(constructor<;>intro hc<;>(try rw[hc])<;>(replace hc:=bp hc)<;>try(exfalso;omega))|clear U K)<;>conv=>whnf)
     all_goals exact AI rfl
   ·have hsl:=P3 hlf
    rw[if_neg (by omega),if_neg (by omega),if_neg (by omega),if_neg (by omega),Y5];obtain⟨v,hva⟩: ∃v,args[f.arg.toNat]? =some v:=⟨_,EN (by omega)⟩
    have hvd:args.getD f.arg.toNat (0,0)=v:=by rw[D9,hva];rfl
    have hvv:=hv v (DL hva);rw[hvd];have c1:=yC w os b v f.path false hg hw hos hvv hp;have hok:=fun u=>Xs (u:=u) hos hp hvv
    clear hvd;cases hu:bA w os f.path v with
    | none=>
      rw[hu]at c1;replace c1:Pure Tryz.prog 181 [.rp (wC w (B9 w.parents)),.l (os.map Gu) b,.a (pI v),.l (iL f.path) false] (.t [.a (pI (0,0)),.b false]):=c1;refine H7 kZ ?_;have hs:=Sn
      conv=>whnf
      repeat'((first|apply st|(apply sq;intro K U)|(apply si;intro A B Y Z)|(apply Y;clear Z B Y A)|(apply U;clear U K)|apply dr|refine⟨rfl,?_⟩|refine⟨kZ,?_⟩|refine MI ?_|refine Cg fun σ hs=>?_|refine Iw ?_|refine⟨_,c1,?_⟩|(constructor<;>intro hc<;>(try rw[hc])<;>(replace hc:=bp hc)<;>try(exfalso;omega))|(intro nn hnn;generalize hg:A5 _ nn _=σ;refine CN hg fun hs=>?_;clear hg)|clear U K)<;>conv=>whnf)
      all_goals exact AI rfl
    | some u=>
      rw[hu]at c1;have hu2:=hok u hu;clear hok hu;replace c1:Pure Tryz.prog 181 [.rp (wC w (B9 w.parents)),.l (os.map Gu) b,.a (pI v),.l (iL f.path) false] (.t [.a (pI u),.b true]):=c1;by_cases h2:f.op=2
      ·have hcr:=vP hos hu2
       have hfc:=hcl h2;have hup:=lN hg hcr.1 hcr.2;have hbb:=n9 hw.ord hcr.1 hcr.2 hfc.1;have c2:=Zw ((B9 w.parents).getD (Jv os u).toNat 0) f.cls (Mb (Hb _ _ (by have:=hg.1.1;omega)) _) hfc.1 (by omega);have hkk:=XW hu2;dsimp only;rw[if_pos h2];rw[hbb];by_cases h3:u.1=3
       ·obtain⟨o,q1,q2,q3⟩:=JW hu2 h3
        have hnr:=PQ hu2 h3
        have hce:Jv os u=o.1:=by
         rw[Jv,if_neg (by omega),if_neg (by omega)];exact congrArg Prod.fst q2
        rw[hce]at hcr hup c2 ⊢;clear hce hbb hcl hv hvv ih h4 hp hn q2;generalize B9 w.parents=us at *;obtain⟨uk,un⟩:=u;dsimp only at h3 q1 hnr;refine H7 kZ ?_;have hs:=Sn
        conv=>whnf
        repeat'((first|apply st|(apply sq;intro K U)|(apply si;intro A B Y Z)|(apply Y;clear Z B Y A)|(apply U;clear U K)|apply dr|refine⟨rfl,?_⟩|refine⟨kZ,?_⟩|refine wN ?_|refine MI ?_|refine ld ?_|refine Cg fun σ hs=>?_|refine GS ?_|refine⟨_,c1,?_⟩|(constructor<;>intro hc<;>(try rw[hc])<;>(replace hc:=bp hc)<;>(try simp(disch:=omega) only[BT,wrap64,AN]at hc)<;>try(exfalso;omega))|(intro nn hnn;generalize hg:A5 _ nn _=σ;refine CN hg fun hs=>?_;clear hg)|fail)<;>conv=>whnf)
        rw[hup]
        conv=>whnf
        repeat'((first|apply st|(apply Y;clear Z B Y A)|(apply U;clear U K)|apply dr|refine c2.use ?_|clear U K)<;>conv=>whnf)
        all_goals exact AI rfl
       ·have hce:Jv os u=u.1:=by
         rw[Jv];split
         ·omega
         ·rw[if_pos (by omega)];omega
        rw[hce]at hcr hup c2 ⊢;clear hce hbb hcl hv hvv ih h4 hp hn;generalize B9 w.parents=us at *;obtain⟨uk,un⟩:=u;dsimp only at *;refine H7 kZ ?_;have hs:=Sn
        conv=>whnf
        repeat'((first|apply st|(apply sq;intro K U)|(apply si;intro A B Y Z)|(apply Y;clear Z B Y A)|(apply U;clear U K)|apply dr|refine⟨rfl,?_⟩|refine⟨kZ,?_⟩|refine wN ?_|refine MI ?_|refine ld ?_|refine Cg fun σ hs=>?_|refine GS ?_|refine⟨_,c1,?_⟩|(constructor<;>intro hc<;>(try rw[hc])<;>(replace hc:=bp hc)<;>(try simp(disch:=omega) only[BT,wrap64,AN]at hc)<;>try(exfalso;omega))|(intro nn hnn;generalize hg:A5 _ nn _=σ;refine CN hg fun hs=>?_;clear hg)|fail)<;>conv=>whnf)
        rw[hup]
        conv=>whnf
        repeat'((first|apply st|(apply Y;clear Z B Y A)|(apply U;clear U K)|apply dr|refine c2.use ?_|fail)<;>conv=>whnf)
        all_goals exact AI rfl
      ·dsimp only
       rw[if_neg h2];clear hv hvv ih h4 hp hn hcl;obtain⟨uk,un⟩:=u;dsimp only at *;by_cases hk:uk=1
       ·rw [DK.2 hk,EW]
        have h34:f.op=3∨f.op=4:=by omega
        have hT:=fun hc=>xU (un:=un) (n:=f.n) h34 hc
        have hF:=fun hc=>xV (un:=un) (n:=f.n) h34 hc
        refine H7 kZ ?_;have hs:=Sn
        conv=>whnf
        repeat'((first|apply st|(apply sq;intro K U)|(apply si;intro A B Y Z)|(apply Y;clear Z B Y A)|(apply U;clear U K)|apply dr|refine⟨rfl,?_⟩|refine⟨kZ,?_⟩|refine MI ?_|refine ld ?_|refine Cg fun σ hs=>?_|refine GS ?_|refine⟨_,c1,?_⟩|(constructor<;>intro hc<;>(try rw[hc])<;>(replace hc:=bp hc)<;>(try simp(disch:=omega) only[BT,wrap64,AN]at hc)<;>try(exfalso;omega))|(intro nn hnn;generalize hg:A5 _ nn _=σ;refine CN hg fun hs=>?_;clear hg)|clear U K)<;>conv=>whnf)
        all_goals
         refine AI ?_
         first
          | (rw[hT (by assumption)];rfl)
          | (rw[hF (by assumption)];rfl)
       ·rw[beq_eq_false_iff_ne.2 hk,Bool.false_and]
        refine H7 kZ ?_;have hs:=Sn
        conv=>whnf
        repeat'((first|apply st|(apply sq;intro K U)|(apply si;intro A B Y Z)|(apply Y;clear Z B Y A)|(apply U;clear U K)|apply dr|refine⟨rfl,?_⟩|refine⟨kZ,?_⟩|refine MI ?_|refine ld ?_|refine Cg fun σ hs=>?_|refine GS ?_|refine⟨_,c1,?_⟩|(constructor<;>intro hc<;>(try rw[hc])<;>(replace hc:=bp hc)<;>(try simp(disch:=omega) only[BT,wrap64,AN]at hc)<;>try(exfalso;omega))|(intro nn hnn;generalize hg:A5 _ nn _=σ;refine CN hg fun hs=>?_;clear hg)|clear U K)<;>conv=>whnf)
        all_goals exact AI rfl
end Go.Gl
namespace Go.Gl
open Go.Proofs
attribute [local irreducible] A7 Ap Af AT AM Ae AS AU AL Ad AO AP Aw A1 Sat AX Az Ah W
def xM (p:Prog) (L:Nat) (g:Int) (h16:p.methods.length≤16) {S:Type} {fn:Fn} {fi ca:List V} {H:S→List At} (Inv:Nat→S→Prop) {s:S} (h0:Inv 0 s)
    (hsk: ∀k s,k<p.methods.length→(BG p (k:Nat)).gen≠g→Inv k s→Inv (k+1) s)
    (hT: ∀(k:Nat) s,k<p.methods.length→(BG p (k:Nat)).gen=g→Inv k s→ ∀(rest:List At) (σ:AH),Sat σ (H s++rest)→Aw Tryz.prog (.f fn fi ca) [eI (k:Int)] σ fun r σ'=> ∃s',r= .ret (.b true)∧Inv (k+1) s'∧Sat σ' (H s'++rest)) (σ:AH) (hs:Sat σ (H s)) :
    A7 Tryz.prog 244 [.f fn fi ca,.rp [df p L],.rp [eI g]] σ fun r σ'=> ∃s',r= .ret (.t [])∧Inv p.methods.length s'∧Sat σ' (H s'):=by
 have hM:=Mx;refine tr kZ ?_
 conv=>whnf
 repeat'((first|apply st|(apply sq;intro K U)|(apply si;intro A B Y Z)|(apply Y;clear Z B Y A)|(apply U;clear U K)|fail)<;>conv=>whnf)
 refine C3 p.methods.length (fun k (_:S)=>[(12,eI (Bc k))]) (fun _ s'=>H s') (fun k s'=>Inv k s') s rfl h0 hs ?_;clear hs;rintro k s' σ hk ho hs;rcases BU p.methods hk with⟨x,hx,hlt⟩|hke
 ·have hck:Bc k=k:=AN (by omega)
  have hxe:BG p (k:Int)=x:=by
   have:=He (p:=p) (m:=k) (by simp[Dq];omega);rw[MH,hx]at this;exact(Option.some.inj this).symm
  have hsk':=hsk k s' hlt;have hT':=hT k s' hlt;rw[hxe]at hsk' hT';rw[←hck]at hT';by_cases hg:x.gen=g
  ·conv=>whnf
   repeat'((first|apply st|(apply sq;intro K U)|(apply si;intro A B Y Z)|(apply Y;clear Z B Y A)|(apply U;clear U K)|refine⟨rfl,?_⟩|refine⟨kZ,?_⟩|refine ix ?_|refine ld ?_|refine Cg fun σ hs=>?_|(refine DR (fun hc=>?_)<;>(try rw[hc])<;>clear hc)|(constructor<;>intro hc<;>(try rw[hc])<;>(replace hc:=bp hc)<;>try(exfalso;omega))|(intro nn hnn;generalize hg:A5 _ nn _=σ;refine CN hg fun hs=>?_;clear hg)|fail)<;>conv=>whnf)
   refine(hT' hg ho [_] σ (Sat.perm hs (List.perm_append_singleton _ _).symm)).mono ?_;rintro r σ ⟨s2,rfl,hi2,hs⟩
   conv=>whnf
   repeat'((first|apply st|(apply si;intro A B Y Z)|(apply Y;clear Z B Y A)|(apply U;clear U K)|refine⟨rfl,?_⟩|refine GS ?_|fail)<;>conv=>whnf)
   exact⟨hlt,_,rfl,hi2,hs.less (List.sublist_append_left _ _)⟩
  ·conv=>whnf
   repeat'((first|apply st|(apply sq;intro K U)|(apply si;intro A B Y Z)|(apply Y;clear Z B Y A)|(apply U;clear U K)|refine⟨rfl,?_⟩|refine⟨kZ,?_⟩|refine ix ?_|refine ld ?_|refine Cg fun σ hs=>?_|(refine DR (fun hc=>?_)<;>(try rw[hc])<;>clear hc)|(constructor<;>intro hc<;>(try rw[hc])<;>(replace hc:=bp hc)<;>try(exfalso;omega))|(intro nn hnn;generalize hg:A5 _ nn _=σ;refine CN hg fun hs=>?_;clear hg)|fail)<;>conv=>whnf)
   exact⟨hlt,_,rfl,hsk' hg ho,hs.less (K0 _ _)⟩
 ·rw[hke]at ho
  conv=>whnf
  repeat'((first|apply st|(apply sq;intro K U)|(apply si;intro A B Y Z)|(apply Y;clear Z B Y A)|(apply U;clear U K)|refine⟨rfl,?_⟩|(refine Ew (fun hc=>?_)<;>(try rw[hc])<;>clear hc)|clear U K)<;>conv=>whnf)
  exact AW ⟨_,rfl,ho,hs⟩
def xL (p:Prog) (L:Nat) (g:Int) (h16:p.methods.length≤16) {nn:Nat} {E:Env} {ok:FuncId→Array Tmp→Code→Code→Nat→Prop} {S:Type} (H:S→List At) (Inv:Nat→S→Prop) (s:S) {σ:AH} (h0:Inv 0 s) (hs:Sat σ (.obj nn (.loop .ready E ok)::H s))
    (hsk: ∀k s,k<p.methods.length→(BG p (k:Nat)).gen≠g→Inv k s→Inv (k+1) s)
    (hT: ∀(k:Nat) s,k<p.methods.length→(BG p (k:Nat)).gen=g→Inv k s→ ∀(rest:List At) (σ:AH),Sat σ (.obj nn (.loop .ready E ok)::(H s++rest))→N7 Tryz.prog nn [eI (k:Int)] σ fun r σ'=> ∃s',r= .ret (.b true)∧Inv (k+1) s'∧Sat σ' (.obj nn (.loop .ready E ok)::(H s'++rest)))
    {Q:R→AH→Prop} (hq: ∀s' σ',Inv p.methods.length s'→Sat σ' (.obj nn (.loop .ready E ok)::H s')→Q (.ret (.t [])) σ') :
    A7 Tryz.prog 244 [.f (.yield nn) [] [],.rp [df p L],.rp [eI g]] σ Q:=
 A7.mono (xM p L g h16 (fn:= .yield nn) (fi:=[]) (ca:=[]) (H:=fun s=> .obj nn (.loop .ready E ok)::H s) Inv h0 hsk (fun k s hk hg hi rest σ hs=>vo (hT k s hk hg hi rest σ hs)) σ hs) fun r σ' ⟨s',e,hi,h⟩=>e ▸ hq s' σ' hi h
def FX (p:Prog) (g:Int) (k:Nat):List Int:=(Bk k).filter fun m=>(BG p m).gen==g
def Nk (p:Prog) (g:Int) (k:Nat):FX p g (k+1)=if(BG p (k:Int)).gen==g then FX p g k++[(k:Int)]else FX p g k:=by
 rw[FX,G5,List.filter_append];cases hp:(BG p (k:Int)).gen==g<;>simp[FX,hp]
def QK (p:Prog) (g:Int) (k:Nat):(FX p g k).length≤k:=by
 have:=Q7 (fun m=>(BG p m).gen==g) (Bk k)
 rwa [IJ]at this
def Yu (p:Prog) (L:Nat) (g:Int) (h16:p.methods.length≤16):B3 Tryz.prog 243 [.l [] true,.f (.func 244) [] [.rp [df p L],.rp [eI g]]] [] fun r post=> ∃v,r= .ret v∧post= [.own v 1 (iL (FX p g p.methods.length))]:=by
 intro σ hs;have hM:=Mx;refine ts kZ ?_
 conv=>whnf
 repeat'((first|apply st|(apply sq;intro K U)|(apply si;intro A B Y Z)|(apply Y;clear Z B Y A)|(apply U;clear U K)|(intro nn hnn;generalize hg:A5 _ nn _=σ;refine CN hg fun hs=>?_;clear hg)|fail)<;>conv=>whnf)
 rename_i nb _ _ _;refine xL p L g h16 (nn:=nn) (fun s:V×List Int=>[.box nb [s.1],.own s.1 1 (iL s.2)]) (fun k s=>s.2=FX p g k) (.l [] true,[]) rfl ((FP hs 1).perm (LB _ _ _ _)) ?_ ?_ ?_
 ·intro k s hlt hne hi
  rw[Nk,if_neg (by simpa using hne),hi]
 ·clear hs hnn
  rintro k ⟨v,ys⟩ hlt hgk hi rest σ hs;dsimp only at hi hs;have hck:Bc k=k:=AN (by omega);have hl:=QK p g k;rw[←hi]at hl;have hll:ys.length<Aj∧(ys.length+1)*8≤140737488355328:=by omega
  refine WV (l:=[.box nb [v],.own v 1 (iL ys)]++rest) rfl hs ?_;clear hs;intro σ hs
  conv=>whnf
  repeat'((first|apply st|(apply si;intro A B Y Z)|(apply Y;clear Z B Y A)|refine ld ?_|refine Io fun σ hs=>?_|refine aq fun v σ hs hsl=>?_|clear U K)<;>conv=>whnf)
  intro hn;exact⟨(v,ys++[(k:Int)]),rfl,by rw[Nk,if_pos (by simpa using hgk),hi],hs.qW hn⟩
 ·clear hs
  rintro⟨v,ys⟩ σ hi hs;dsimp only at hi hs;refine PX hs fun σ hs=>?_
  conv=>whnf
  repeat'((first|apply st|(apply sq;intro K U)|(apply si;intro A B Y Z)|(apply Y;clear Z B Y A)|(apply U;clear U K)|refine ld ?_|fail)<;>conv=>whnf)
  rw[hi]at hs;exact A4 hs (K0 _ _) (.refl _) fun σ' hs'=>⟨_,⟨v,rfl,rfl⟩,hs'⟩
def Yi (p:Prog) (L:Nat) (g:Int) (h16:p.methods.length≤16):B3 Tryz.prog 171 [.f (.func 244) [] [.rp [df p L],.rp [eI g]]] [] fun r post=> ∃v,r= .ret v∧post= [.own v 1 (iL (FX p g p.methods.length))]:=by
 intro σ hs;refine uh kZ ?_
 conv=>whnf
 repeat'((first|(apply sq;intro K U)|(apply si;intro A B Y Z)|(apply Y;clear Z B Y A)|(apply U;clear U K)|fail)<;>conv=>whnf)
 refine(Yu p L g h16).use (rest:=[]) (by simpa using hs) ?_;clear hs;rintro r post σ ⟨v,rfl,rfl⟩ hs
 conv=>whnf
 repeat'((first|apply st|(apply Y;clear Z B Y A)|(apply U;clear U K)|fail)<;>conv=>whnf)
 exact A4 hs (List.sublist_append_left _ _) (.refl _) fun σ' hs'=>⟨_,⟨v,rfl,rfl⟩,hs'⟩
def Tx (w:AJ) (hg:DH w) (hw:It w) (os:List Ob) (b:Bool) (args:List (Int×Int)) (g:Bool) (f:Fact) (hf:CA w f=true) (hsp:BQ f≤args.length) (hh:Ia w os args=true) :
    Pure Tryz.prog 52 [.a (BC w),.a (xF f),.l (os.map Gu) b,.l (pP args) g] (.t [.b (Ci w os args f),eI 0]):=by
 refine Pure.fit (by kernel_rfl) fun hfi=>?_
 have hM:=Mx
 have hfo: ∀b,Pure Tryz.prog 118 [.a (BC w),.l [Fw f] b] (.t [.rp (wC w (B9 w.parents)),.b true]):=fun b=>by
  have:=OH w hg [f] b (by simp);simpa[OT,hf]using this
 rw[Ba]at hfo;have c2:=R3 w hg hw os b args g;rw[hh]at c2;have c3:=bb f (aV hf);simp only[Ia,A9,Cf,Ev]at hh;have hno:Al w f=true:=by simp only[CA,A9]at hf;exact hf.2.2
 have c4:=jS w os b args g hg hw (Ze hh.1) hh.2.2.2 f hno hsp;refine pJ kZ ?_;have hs:=Sn
 conv=>whnf
 repeat'((first|apply st|(apply sq;intro K U)|(apply si;intro A B Y Z)|(apply Y;clear Z B Y A)|(apply U;clear U K)|refine⟨rfl,?_⟩|refine⟨kZ,?_⟩|refine Ol ?_|refine Pure.use (hfo _) ?_|refine c2.use ?_|refine c3.use ?_|refine c4.use ?_|(constructor<;>intro hc<;>(try rw[hc])<;>(replace hc:=bp hc)<;>(try simp(disch:=omega) only[BT,wrap64,AN]at hc))|clear U K)<;>conv=>whnf)
 all_goals first
  | exact AI rfl
  | (exfalso;simp at hc;omega)
def kM (w:AJ) (hg:DH w) (hw:It w) (os:List Ob) (b:Bool) (args:List (Int×Int)) (g:Bool) (f:Fact) (hf:CA w f=true) (hh:Ia w os args=false) :
    Pure Tryz.prog 52 [.a (BC w),.a (xF f),.l (os.map Gu) b,.l (pP args) g] (.t [.b false,eI 2]):=by
 refine Pure.fit (by kernel_rfl) fun hfi=>?_
 have hM:=Mx
 have hfo: ∀b,Pure Tryz.prog 118 [.a (BC w),.l [Fw f] b] (.t [.rp (wC w (B9 w.parents)),.b true]):=fun b=>by
  have:=OH w hg [f] b (by simp);simpa[OT,hf]using this
 rw[Ba]at hfo;have c2:=R3 w hg hw os b args g;rw[hh]at c2;refine pJ kZ ?_;have hs:=Sn
 conv=>whnf
 repeat'((first|apply st|(apply sq;intro K U)|(apply si;intro A B Y Z)|(apply Y;clear Z B Y A)|(apply U;clear U K)|refine⟨kZ,?_⟩|refine ec ?_|refine Ol ?_|refine Pure.use (hfo _) ?_|refine c2.use ?_|clear U K)<;>conv=>whnf)
 all_goals exact AI rfl
abbrev BY:Fact:=Fact.mk 1 0 [] 0 0 []
def P0 (w:AJ):CA w BY=true:=by
 rw[CA,GO,Fb,Bs];rfl
def VN {w:V} {o a:V}:Da emp emp [w,.a [eI 1,eI 0,.l [] true,eI 0,eI 0,.l [] true],o,a] [w,.a (xF BY),o,a]:=
 .cons (.refl _) (.cons (.a (.cons (.refl _) (.cons (.refl _) (.cons Ds (.cons (.refl _) (.cons (.refl _) (.cons Ds .nil))))))) (.cons (.refl _) (.cons (.refl _) .nil)))
def nz (os:List Ob) (f:Bool) (gen:Int) (args:List (Int×Int)) (g:Bool):Pure Tryz.prog 115 [.pn,.l (os.map Gu) f,eI gen,.l (pP args) g] (.b false):=by
 have c1:=sD gen;refine Ml kZ ?_;have hs:=Sn
 conv=>whnf
 repeat'((first|apply st|(apply sq;intro K U)|(apply si;intro A B Y Z)|(apply Y;clear Z B Y A)|(apply U;clear U K)|refine ec ?_|refine c1.use ?_|clear U K)<;>conv=>whnf)
 all_goals exact AI rfl
set_option maxHeartbeats 1000000 in
def call56 (p:Prog) (L:Nat) (os:List Ob) (f:Bool) (gen:Int) (args:List (Int×Int)) (g:Bool) (h:(Bd p).isSome=true):Pure Tryz.prog 115 [df p L,.l (os.map Gu) f,eI gen,.l (pP args) g] (.b (C8 p os gen args)):=by
 refine Pure.fit (by kernel_rfl) fun hf=>?_
 have hM:=Mx;have hok:=look_ok h;have hgw:=Uy h;have c1:=xc p L gen;cases h2:Ju p gen<;>rw[h2]at c1
 ·refine Ml kZ ?_
  have hs:=Sn
  conv=>whnf
  repeat'((first|apply st|(apply sq;intro K U)|(apply si;intro A B Y Z)|(apply Y;clear Z B Y A)|(apply U;clear U K)|refine ec ?_|refine c1.use ?_|clear U K)<;>conv=>whnf)
  all_goals exact AI (by simp[C8,h2])
 have hgr:=h2;simp only[Ju,A9,Cf]at hgr;obtain⟨x,hx⟩: ∃x,p.C1[gen.toNat]? =some x:=⟨_,EN (by omega)⟩
 have hxd:p.C1.getD gen.toNat 0=x:=by rw[D9,hx];rfl
 have hx3:1≤x∧x≤3:=by
  have hh:=(Es h).1;simp only[C4,A9,Cf,Ev]at hh;exact hh.2.2.2.2.2 x (DL hx)
 by_cases he:(args.length:Int)=x
 ·have e:C8 p os gen args=(Fs (AR p) os&&args.all (Bz os.length)):=by simp only[C8,h,h2,hxd,decide_eq_true he,EW]
  rw[e];have c2:=jZ os f args g (by omega);by_cases hv: ∀v∈args,Bz os.length v=true
  ·rw [List.filter_eq_self.2 hv]at c2
   have hva:args.all (Bz os.length)=true:=Ev.2 hv;rw[hva,Bool.and_true]
   have hha:Ia (AR p) os args=Fs (AR p) os:=by
    rw[Ia,hva,decide_eq_true (show 1≤args.length by omega),decide_eq_true (show args.length≤3 by omega)];simp
   cases ho:Fs (AR p) os<;>rw[ho]at hha
   ·have c3:=(kM (AR p) hgw hok.kT os f args g BY (P0 _) hha).arg VN
    clear hva e hv;refine Ml kZ ?_;have hs:=Sn
    conv=>whnf
    repeat'((first|apply st|(apply sq;intro K U)|(apply si;intro A B Y Z)|(apply Y;clear Z B Y A)|(apply U;clear U K)|apply dr|refine⟨rfl,?_⟩|refine⟨kZ,?_⟩|refine MI ?_|refine Ol ?_|refine c1.use ?_|refine c2.use ?_|refine c3.use ?_|(constructor<;>intro hc<;>(try rw[hc])<;>(replace hc:=bp hc)<;>(try simp(disch:=omega) only[BT,wrap64,AN]at hc)<;>try(exfalso;omega))|clear U K)<;>conv=>whnf)
    all_goals first
     | exact AI rfl
     | (exfalso;simp[he]at hc;done)
   ·have c3:=(Tx (AR p) hgw hok.kT os f args g BY (P0 _) (by
     rw[B4]
     exact Int.natCast_nonneg _) hha).arg VN
    clear hva e hv;refine Ml kZ ?_;have hs:=Sn
    conv=>whnf
    repeat'((first|apply st|(apply sq;intro K U)|(apply si;intro A B Y Z)|(apply Y;clear Z B Y A)|(apply U;clear U K)|apply dr|refine⟨rfl,?_⟩|refine⟨kZ,?_⟩|refine MI ?_|refine Ol ?_|refine c1.use ?_|refine c2.use ?_|refine c3.use ?_|(constructor<;>intro hc<;>(try rw[hc])<;>(replace hc:=bp hc)<;>(try simp(disch:=omega) only[BT,wrap64,AN]at hc)<;>try(exfalso;omega))|clear U K)<;>conv=>whnf)
    all_goals first
     | exact AI rfl
     | (exfalso;simp[he]at hc;done)
  ·have hlt:(args.filter (Bz os.length)).length≠args.length:=fun e=>hv (List.length_filter_eq_length_iff.1 e)
   have hva:args.all (Bz os.length)=false:=by
    rw[←Bool.not_eq_true,Ev];exact hv
   rw[hva,Bool.and_false];generalize args.filter (Bz os.length)=ys at *;clear hva e hv;refine Ml kZ ?_;have hs:=Sn
   conv=>whnf
   repeat'((first|apply st|(apply sq;intro K U)|(apply si;intro A B Y Z)|(apply Y;clear Z B Y A)|(apply U;clear U K)|refine⟨rfl,?_⟩|refine MI ?_|refine Ol ?_|refine c1.use ?_|refine c2.use ?_|(constructor<;>intro hc<;>(try rw[hc])<;>(replace hc:=bp hc)<;>(try simp(disch:=omega) only[BT,wrap64,AN]at hc)<;>try(exfalso;omega))|clear U K)<;>conv=>whnf)
   all_goals first
    | exact AI rfl
    | (exfalso;simp[he]at hc;done)
    | (exfalso;simp at hc;omega)
 ·have e:C8 p os gen args=false:=by simp only[C8,hxd,decide_eq_false he,Bool.false_and,Bool.and_false]
  rw[e];refine Ml kZ ?_;have hs:=Sn
  conv=>whnf
  repeat'((first|apply st|(apply sq;intro K U)|(apply si;intro A B Y Z)|(apply Y;clear Z B Y A)|(apply U;clear U K)|refine⟨rfl,?_⟩|refine MI ?_|refine Ol ?_|refine c1.use ?_|(constructor<;>intro hc<;>(try rw[hc])<;>(replace hc:=bp hc)<;>(try simp(disch:=omega) only[BT,wrap64,AN]at hc))|clear U K)<;>conv=>whnf)
  all_goals first
   | exact AI rfl
   | (exfalso;simp[he]at hc;done)
def dK (p:Prog) (L:Nat) (os:List Ob) (f:Bool) (gen:Int) (args:List (Int×Int)) (g:Bool) (ha:Ask p os gen args) (hh:Ia (AR p) os args=true) (m:Int) (hm:Dq p m=true) (hg:(BG p m).gen=gen) :
    Pure Tryz.prog 173 [eI m,.rp [df p L],.rp [.l (os.map Gu) f],.rp [.l (pP args) g]] (.b (Ci (AR p) os args (BG p m).fact)):=by
 refine Pure.fit (by kernel_rfl) fun hf=>?_
 have hM:=Mx;have hok:=look_ok ha.look;have hxm:=He hm;obtain⟨-,hfo,hno,hsp⟩:=Zm ha.look (DL hxm);rw[hg,←ha.len]at hsp;have c1:=Tx (AR p) (Uy ha.look) hok.kT os f args g (BG p m).fact hfo hsp hh;simp only[Dq,A9,Cf]at hm;clear hg hfo hno hsp;generalize BG p m=x at *;cases hb:Ci (AR p) os args x.fact<;>rw[hb]at c1
 all_goals
  refine uf kZ ?_;have hs:=Sn
  conv=>whnf
  repeat'((first|apply st|(apply sq;intro K U)|(apply si;intro A B Y Z)|(apply Y;clear Z B Y A)|(apply U;clear U K)|apply dr|refine⟨rfl,?_⟩|refine⟨kZ,?_⟩|refine MI ?_|refine c1.use ?_|fail)<;>conv=>whnf)
  all_goals exact AI rfl
def mu {p:Prog} {os:List Ob} {gen:Int} {args:List (Int×Int)} (h:C8 p os gen args=true):Ia (AR p) os args=true:=by
 have ha:=Xt h;simp only[C8,A9]at h;have hg:=ha.ew;simp only[Ju,A9,Cf]at hg;obtain⟨x,hx⟩: ∃x,p.C1[gen.toNat]? =some x:=⟨_,EN (by omega)⟩
 have hxd:p.C1.getD gen.toNat 0=x:=by rw[D9,hx];rfl
 have hx3:1≤x∧x≤3:=by
  have hh:=(Es ha.look).1;simp only[C4,A9,Cf,Ev]at hh;exact hh.2.2.2.2.2 x (DL hx)
 have hl:=ha.len;rw[hxd]at hl;rw[Ia,h.2.1,decide_eq_true (show 1≤args.length by omega),decide_eq_true (show args.length≤3 by omega),h.2.2.2.2];rfl
def cG (p:Prog) (os:List Ob) (gen:Int) (args:List (Int×Int)):(FX p gen p.methods.length).filter (fun m=>Ci (AR p) os args (BG p m).fact)=Su p os gen args:=by
 rw[FX,Su,qS,List.filter_filter];congr 1;funext m;rw[Bool.and_comm]
def QJ {p:Prog} {g m:Int} (h:m∈FX p g p.methods.length):Dq p m=true∧(BG p m).gen=g:=by
 have:=JS.1 h;have h1:=Eh.1 this.1;exact⟨by simp only[Dq,A9,Cf];exact h1,by simpa using this.2⟩
def dV (p:Prog) (L:Nat) (os:List Ob) (f:Bool) (gen:Int) (args:List (Int×Int)) (g:Bool) (h:C8 p os gen args=true):Pure Tryz.prog 116 [df p L,.l (os.map Gu) f,eI gen,.l (pP args) g] (.l (iL (Su p os gen args)) true):=by
 have ha:=Xt h;have hok:=look_ok ha.look;have hml:=QK p gen p.methods.length;have h16:=hok.many;have c1:=jY 173 [] [.rp [df p L],.rp [.l (os.map Gu) f],.rp [.l (pP args) g]] (fun m=>Ci (AR p) os args (BG p m).fact) (FX p gen p.methods.length) (fun m hm=>dK p L os f gen args g ha (mu h) m (QJ hm).1 (QJ hm).2) false (by omega);rw[cG]at c1;refine Pure.of ?_;refine vL kZ ?_;have hs:=Sn
 conv=>whnf
 repeat'((first|apply st|(apply sq;intro K U)|(apply si;intro A B Y Z)|(apply Y;clear Z B Y A)|(apply U;clear U K)|refine Pure.use (y2 _ _ _) ?_|fail)<;>conv=>whnf)
 refine(Yi p L gen h16).use (rest:=[]) (by simpa using hs) ?_;clear hs;rintro r post σ ⟨v,rfl,rfl⟩ hs
 conv=>whnf
 obtain⟨σ2,h1,h2,h3⟩:=NX hs 0 rfl;refine A7.oz (c1.use ?_) h1 (.cons h2 (.cons (.refl _) .nil));clear hs h1 h2;have hs:=h3
 conv=>whnf
 repeat'((first|apply st|(apply Y;clear Z B Y A)|(apply U;clear U K)|fail)<;>conv=>whnf)
 exact AW (by rfl)
def dc (p:Prog) (os:List Ob) (f:Bool) (gen:Int) (args:List (Int×Int)) (g:Bool):Pure Tryz.prog 48 [.a (Be p),.l (os.map Gu) f,eI gen,.l (pP args) g] (.t [.l (iL (Lx p os gen args).1) true,eI (Lx p os gen args).2]):=by
 refine Pure.of ?_;have hr:=ia p;rw[Lx];refine x4 kZ ?_;have hs:=Sn
 conv=>whnf
 repeat'((first|apply st|(apply sq;intro K U)|(apply si;intro A B Y Z)|(apply Y;clear Z B Y A)|(apply U;clear U K)|refine⟨kZ,?_⟩|fail)<;>conv=>whnf)
 refine hr.use (rest:=[]) (by simpa using hs) ?_;clear hs;cases h:(Bd p).isSome
 ·have c1:=nz os f gen args g
  rintro r post σ ⟨rfl,rfl⟩ hs
  conv=>whnf
  repeat'((first|apply st|(apply sq;intro K U)|(apply si;intro A B Y Z)|(apply Y;clear Z B Y A)|(apply U;clear U K)|refine Iw ?_|refine c1.use ?_|clear U K)<;>conv=>whnf)
  exact AW (by simp[C8,h])
 ·rintro r post σ ⟨L,rfl,rfl⟩ hs
  have c1:=call56 p L os f gen args g h;cases hb:C8 p os gen args<;>rw[hb]at c1
  ·conv=>whnf
   repeat'((first|apply st|(apply sq;intro K U)|(apply si;intro A B Y Z)|(apply Y;clear Z B Y A)|(apply U;clear U K)|refine Iw ?_|refine c1.use ?_|clear U K)<;>conv=>whnf)
   exact AW (by rw[hb];rfl)
  ·have c2:=dV p L os f gen args g hb
   conv=>whnf
   repeat'((first|apply st|(apply sq;intro K U)|(apply si;intro A B Y Z)|(apply Y;clear Z B Y A)|(apply U;clear U K)|refine GS ?_|refine c1.use ?_|refine c2.use ?_|fail)<;>conv=>whnf)
   exact AW (by rw[hb];rfl)
def XA (p:Prog) (gen:Int) (k:Nat):List Int:=(Bk k).filter fun m=>(BG p m).gen==gen
def Hv (p:Prog) (gen:Int):List Int:=XA p gen p.methods.length
def Vy (p:Prog) (gen:Int) (k:Nat):XA p gen (k+1)=if(BG p (k:Int)).gen==gen then XA p gen k++[(k:Int)]else XA p gen k:=by
 rw[XA,G5,List.filter_append];cases hp:(BG p (k:Int)).gen==gen<;>simp[XA,hp]
def m4 (p:Prog) (gen:Int) (k:Nat):(XA p gen k).length≤k:=by
 have:=Q7 (fun m=>(BG p m).gen==gen) (Bk k)
 rwa [IJ]at this
def m5 (p:Prog) (gen:Int) (m:Int):(Hv p gen).contains m=(Dq p m&&(BG p m).gen==gen):=by
 rw[Hu,List.contains_iff_mem,Hv,XA,JS,Eh,A9,Dq];simp only[A9,Cf]
def Zn {p:Prog} {k:Nat} {x:MX} (hx:p.methods[k]? =some x):BG p (k:Int)=x:=by
 have hlt:=(MK.1 hx).1;have:=He (p:=p) (m:=k) (by simp[Dq];omega);rw[MH,hx]at this;exact(Option.some.inj this).symm
def KH (p:Prog) (gen:Int):Bool:=(Bd p).isSome&&Ju p gen
abbrev oS (p:Prog) (gen:Int):List V:=Be p++[eI gen,.l (iL (Hv p gen)) false]
abbrev wQ:List V:=[.l [] true,eI 0,.l [] true,.l [] true,.l [] true,eI 0,eI 0,.l [] true]
def yD (p:Prog) (gen:Int):Pure Tryz.prog 131 [.a (Be p),eI gen] (.t [.a (if KH p gen then oS p gen else wQ),.b (KH p gen)]):=by
 refine Pure.fit (by kernel_rfl) fun hf=>?_
 have F:=I6 hf.1;have⟨p1,p2,p3,p4⟩:=GD hf.1;have hM:=Mx;have c1:=WO p;rw[KH];cases h1:(Bd p).isSome<;>rw[h1]at c1
 ·rw[if_neg (by decide)]at c1
  refine Xn kZ ?_;have hs:=Sn
  conv=>whnf
  repeat'((first|apply st|(apply sq;intro K U)|(apply si;intro A B Y Z)|(apply Y;clear Z B Y A)|(apply U;clear U K)|refine⟨rfl,?_⟩|refine⟨kZ,?_⟩|refine ld ?_|refine Cg fun σ hs=>?_|refine c1.use ?_|(constructor<;>intro hc<;>(try rw[hc])<;>(replace hc:=bp hc)<;>try(exfalso;omega))|(intro nn hnn;generalize hg:A5 _ nn _=σ;refine CN hg fun hs=>?_;clear hg)|clear U K)<;>conv=>whnf)
  all_goals exact AI rfl
 rw[if_pos rfl]at c1;have h16:=(look_ok h1).many;cases h2:Ju p gen
 ·simp only[Ju,Bool.and_eq_false_iff,decide_eq_false_iff_not]at h2
  refine Xn kZ ?_;have hs:=Sn
  conv=>whnf
  repeat'((first|apply st|(apply sq;intro K U)|(apply si;intro A B Y Z)|(apply Y;clear Z B Y A)|(apply U;clear U K)|refine⟨rfl,?_⟩|refine⟨kZ,?_⟩|refine ld ?_|refine Cg fun σ hs=>?_|refine c1.use ?_|(constructor<;>intro hc<;>(try rw[hc])<;>(replace hc:=bp hc)<;>(try simp(disch:=omega) only[BT,wrap64,AN]at hc)<;>try(exfalso;omega))|(intro nn hnn;generalize hg:A5 _ nn _=σ;refine CN hg fun hs=>?_;clear hg)|clear U K)<;>conv=>whnf)
  all_goals first
   | exact AI rfl
   | (exfalso;simp at *;omega)
 have h2r:=h2;simp only[Ju,A9,Cf]at h2r;refine Xn kZ ?_;have hs:=Sn
 conv=>whnf
 repeat'((first|apply st|(apply sq;intro K U)|(apply si;intro A B Y Z)|(apply Y;clear Z B Y A)|(apply U;clear U K)|refine⟨rfl,?_⟩|refine⟨kZ,?_⟩|refine Cg fun σ hs=>?_|refine c1.use ?_|(constructor<;>intro hc<;>(try rw[hc])<;>(replace hc:=bp hc)<;>(try simp(disch:=omega) only[BT,wrap64,AN]at hc)<;>try(exfalso;omega))|(intro nn hnn;generalize hg:A5 _ nn _=σ;refine CN hg fun hs=>?_;clear hg)|fail)<;>conv=>whnf)
 rename_i n4 _ _ _ _ _ _ _;refine C3 p.methods.length (fun k (_:V)=>[(30,eI (Bc k))]) (fun k v=>[.box nn (Be p++[eI gen,v]),.box n4 wQ,.own v 1 (iL (XA p gen k))]) (fun _ _=>True) (.l [] true) rfl trivial (GV hs 1) ?_;clear hs;rintro k v σ hk - hs;have hal:=m4 p gen k;rcases BU p.methods hk with⟨x,hx,hlt⟩|hke
 ·have hck:Bc k=k:=AN (by omega)
  have hxe:=Zn hx;have hst:=Vy p gen k;rw[hxe]at hst;generalize XA p gen k=zs at *;have hll:zs.length<Aj∧(zs.length+1)*8≤140737488355328:=by omega
  by_cases hg:x.gen=gen
  ·rw[if_pos (DK.2 hg)]at hst
   conv=>whnf
   repeat'((first|apply st|(apply sq;intro K U)|(apply si;intro A B Y Z)|(apply Y;clear Z B Y A)|(apply U;clear U K)|refine⟨rfl,?_⟩|refine⟨kZ,?_⟩|refine ix ?_|refine ld ?_|refine Io fun σ hs=>?_|refine Cg fun σ hs=>?_|refine aq fun v σ hs hsl=>?_|(refine DR (fun hc=>?_)<;>(try rw[hc])<;>clear hc)|(constructor<;>intro hc<;>(try rw[hc])<;>(replace hc:=bp hc)<;>try(exfalso;omega))|(intro nn hnn;generalize hg:A5 _ nn _=σ;refine CN hg fun hs=>?_;clear hg)|clear U K)<;>conv=>whnf)
   exact⟨hlt,_,rfl,trivial,by rw[hst,←hck];exact hs.less (K0 _ _)⟩
  ·rw[if_neg (by simpa using hg)]at hst
   conv=>whnf
   repeat'((first|apply st|(apply sq;intro K U)|(apply si;intro A B Y Z)|(apply Y;clear Z B Y A)|(apply U;clear U K)|refine⟨rfl,?_⟩|refine⟨kZ,?_⟩|refine ix ?_|refine ld ?_|refine Cg fun σ hs=>?_|(refine DR (fun hc=>?_)<;>(try rw[hc])<;>clear hc)|(constructor<;>intro hc<;>(try rw[hc])<;>(replace hc:=bp hc)<;>try(exfalso;omega))|(intro nn hnn;generalize hg:A5 _ nn _=σ;refine CN hg fun hs=>?_;clear hg)|clear U K)<;>conv=>whnf)
   exact⟨hlt,_,rfl,trivial,by rw[hst];exact hs.less (K0 _ _)⟩
 ·rw[hke]at hs
  conv=>whnf
  repeat'((first|apply st|(apply sq;intro K U)|(apply si;intro A B Y Z)|(apply Y;clear Z B Y A)|(apply U;clear U K)|refine⟨rfl,?_⟩|refine⟨kZ,?_⟩|refine ld ?_|(refine Ew (fun hc=>?_)<;>(try rw[hc])<;>clear hc)|clear U K)<;>conv=>whnf)
  have o1:=G9 hs 2 rfl;refine H5 hs 1 rfl rfl rfl (by simp[Be,o1]) (by decide) fun σ hs=>?_
  clear o1
  conv=>whnf
  repeat'((first|apply st|(apply Y;clear Z B Y A)|(apply U;clear U K)|refine⟨kZ,?_⟩|refine ld ?_|fail)<;>conv=>whnf)
  exact A8 (.t (.cons (.a (.cons (.refl _) (.cons (.refl _) (.cons (.refl _) (.cons (.refl _) (.cons (.refl _) (.cons (.refl _) (.cons (.refl _) (.cons (hs.IV 2 rfl) .nil))))))))) (.cons (.refl _) .nil)))
def xR (p:Prog) (gen:Int):Pure Tryz.prog 132 [.a (oS p gen)] (eI (if(Hv p gen).length≤8 then 0 else 3)):=by
 have e1:((iL (Hv p gen)).length:Int)=(Hv p gen).length:=by simp
 refine vD kZ ?_;have hs:=Sn
 conv=>whnf
 repeat'((first|apply st|(apply sq;intro K U)|(apply si;intro A B Y Z)|(apply Y;clear Z B Y A)|(apply U;clear U K)|refine⟨rfl,?_⟩|(constructor<;>intro hc<;>(try rw[hc])<;>(replace hc:=bp hc)<;>(try simp(disch:=omega) only[BT,wrap64,AN]at hc))|clear U K)<;>conv=>whnf)
 ·exact AI (by rw[if_neg (by omega)])
 ·exact AI (by rw[if_pos (by omega)])
def XQ (p:Prog) (gen:Int) (b:Bool):Int:=if KH p gen then(if b then(if(Hv p gen).length≤8 then 0 else 3)else 2)else 2
abbrev XP (p:Prog) (gen:Int) (b:Bool):List V:=if KH p gen&&b then oS p gen else wQ
def ZE {p:Prog} {gen:Int} (h:KH p gen=false) (b:Bool):XP p gen b=wQ∧XQ p gen b=2:=by rw[XP,XQ,h];exact⟨rfl,rfl⟩
def pR {p:Prog} {gen:Int}:XP p gen false=wQ∧XQ p gen false=2:=by
 rw[XP,XQ,Bool.and_false];exact⟨rfl,by split<;>rfl⟩
def ZD {p:Prog} {gen:Int} (h:KH p gen=true):XP p gen true=oS p gen∧XQ p gen true=if(Hv p gen).length≤8 then 0 else 3:=by rw[XP,XQ,h];exact⟨rfl,rfl⟩
def vW (p:Prog) (gen:Int) (k:Nat) (ca:List V) (b:Bool) (c2:KH p gen=true→Pure Tryz.prog k (.a (oS p gen)::ca) (.b b)):Pure Tryz.prog 59 [.a (Be p),eI gen,.f (.func k) [] ca] (.t [.a (XP p gen b),eI (XQ p gen b)]):=by
 have c1:=yD p gen;have c3:=xR p gen;cases h1:KH p gen<;>rw[h1]at c1
 ·rw[(ZE h1 b).1,(ZE h1 b).2]
  rw[if_neg (by decide)]at c1;refine fC kZ ?_;have hs:=Sn
  conv=>whnf
  repeat'((first|apply st|(apply sq;intro K U)|(apply si;intro A B Y Z)|(apply Y;clear Z B Y A)|(apply U;clear U K)|refine⟨kZ,?_⟩|refine ld ?_|refine Cg fun σ hs=>?_|refine ec ?_|refine c1.use ?_|(intro nn hnn;generalize hg:A5 _ nn _=σ;refine CN hg fun hs=>?_;clear hg)|clear U K)<;>conv=>whnf)
  all_goals exact AI rfl
 replace c2:=c2 h1;rw[if_pos rfl]at c1;cases b
 ·rw[pR.1,pR.2]
  refine fC kZ ?_;have hs:=Sn
  conv=>whnf
  repeat'((first|apply st|(apply sq;intro K U)|(apply si;intro A B Y Z)|(apply Y;clear Z B Y A)|(apply U;clear U K)|refine⟨kZ,?_⟩|refine ld ?_|refine Cg fun σ hs=>?_|refine Iw ?_|refine Ol ?_|refine c1.use ?_|refine Bg (c2.use ?_)|(intro nn hnn;generalize hg:A5 _ nn _=σ;refine CN hg fun hs=>?_;clear hg)|clear U K)<;>conv=>whnf)
  all_goals exact AI rfl
 ·rw[(ZD h1).1,(ZD h1).2]
  refine fC kZ ?_;have hs:=Sn
  conv=>whnf
  repeat'((first|apply st|(apply sq;intro K U)|(apply si;intro A B Y Z)|(apply Y;clear Z B Y A)|(apply U;clear U K)|apply dr|refine rk ?_ ?_|exact fun s e=>by cases e;rfl|refine⟨kZ,?_⟩|refine ld ?_|refine Cg fun σ hs=>?_|refine GS ?_|refine Ol ?_|refine c1.use ?_|refine Bg (c2.use ?_)|refine c3.use ?_|(intro nn hnn;generalize hg:A5 _ nn _=σ;refine CN hg fun hs=>?_;clear hg)|fail)<;>conv=>whnf)
  all_goals exact AI rfl
end Go.Gl
namespace Go.Gl
open Go.Proofs
def sl1 {σ:AH} {x:Fact} {r:List Fact} {f:Bool} {K:V→AH→Prop} (h: ∀b,K (.l (facts r) b) σ):AS σ 6 (.l (facts (x::r)) f) (some (.i .i64 1)) none none K:=by
 refine⟨fun e he=>?_,?_⟩
 ·obtain⟨x,_,rfl⟩:=KE.1 he
  rw[Ba];rfl
 ·simp only[Ql,BT,K1]
  refine⟨by omega,by omega,by omega,?_⟩;have:=h (f&&decide (((r.length+1:Nat):Int)=((r.length+1:Nat):Int)));simpa[List.map_take,List.take_of_length_le]using this
attribute [local irreducible] A7 Ap Af AT AM Ae AS AU AL Ad AO AP Aw A1 Sat AX Az Ah W
attribute [local irreducible] Fz
def Qq (op:Int):List Fact→Fact
 | []=> .mk 1 0 [] 0 0 []
 | [x]=>x
 | x::y::r=> .mk op 0 [] 0 0 [x,Qq op (y::r)]
def gE {p:Prog} {gen:Int}: ∀x∈Hv p gen,Dq p x=true:=fun x hx=>by
 have:=(List.contains_iff_mem).2 hx;rw[m5,A9]at this;exact this.1
def U1:Fact:= .mk 0 0 [] 0 0 []
def KZ {σ σ':AH} {a b:Bool}:Fj σ σ' (.a [.i .i64 0,.i .i64 0,.l [] a,.i .i64 0,.i .i64 0,.l [] b]) (.a (xF U1)):= .a (.cons (.refl _) (.cons (.refl _) (.cons Ds (.cons (.refl _) (.cons (.refl _) (.cons Ds .nil))))))
end Go.Gl
namespace Go.Gl
open Go.Proofs
attribute [local irreducible] A7 Ap Af AT AM Ae AS AU AL Ad AO AP Aw A1 Sat AX Az Ah W
attribute [local irreducible] Fz
def y4 (f:Fact):Pure Tryz.prog 82 [.a (xF f)] (.a (xF (C9 f))):=by
 refine xx kZ ?_;have hs:=Sn
 conv=>whnf
 repeat'((first|apply st|(apply sq;intro K U)|(apply si;intro A B Y Z)|(apply Y;clear Z B Y A)|(apply U;clear U K)|refine⟨kZ,?_⟩|refine ld ?_|refine Cg fun σ hs=>?_|(intro nn hnn;generalize hg:A5 _ nn _=σ;refine CN hg fun hs=>?_;clear hg)|fail)<;>conv=>whnf)
 refine A8 (.a (.cons (.refl _) (.cons (.refl _) (.cons Ds (.cons (.refl _) (.cons (.refl _) (.cons ?_ .nil)))))));refine .l (fun h=>by cases h) ?_;simp only[C9,Fact.kids,List.map,Ba];exact EG _
def wa (op:Int): ∀(l:List Fact),l.length≤100→ ∀b,Pure Tryz.prog 84 [eI op,.l (facts l) b] (.a (xF (Qq op l)))
 | [],_,b=>by
   have h0: ¬((([]:List Fact).length:Nat):Int)≠0:=fun h=>h rfl
   refine fB kZ ?_;have hs:=Sn
   conv=>whnf
   repeat'((first|apply st|(apply sq;intro K U)|(apply si;intro A B Y Z)|(apply Y;clear Z B Y A)|(apply U;clear U K)|refine⟨rfl,?_⟩|refine⟨kZ,?_⟩|refine ld ?_|refine Cg fun σ hs=>?_|(constructor<;>intro hc<;>(try rw[hc])<;>(replace hc:=bp hc)<;>(try simp(disch:=omega) only[BT,wrap64,AN]at hc)<;>try(exfalso;omega))|(intro nn hnn;generalize hg:A5 _ nn _=σ;refine CN hg fun hs=>?_;clear hg)|clear U K)<;>conv=>whnf)
   all_goals try exact absurd ‹_≠_› h0
   all_goals try(exfalso;simp at hc;done)
   all_goals try(exfalso;rename_i h;simp at h;done)
   all_goals try(exfalso;rename_i h _ _ _ _ _ _;simp at h;done)
   all_goals try(exfalso;simp at hx;done)
   all_goals try(exfalso;simp at hc;omega)
   all_goals try exact AI rfl
   all_goals
    refine A8 (.a (.cons (.refl _) (.cons (.refl _) (.cons Ds (.cons (.refl _) (.cons (.refl _) (.cons ?_ .nil)))))));refine .l (fun h=>by cases h) ?_;simp only[Qq,Fact.kids,List.map,Ba];exact EG _
 | [x],_,b=>by
   have hx0: [x][Int.toNat 0]? =some x:=rfl;refine fB kZ ?_;have hs:=Sn
   conv=>whnf
   repeat'((first|apply st|(apply sq;intro K U)|(apply si;intro A B Y Z)|(apply Y;clear Z B Y A)|(apply U;clear U K)|apply dr|refine⟨rfl,?_⟩|refine⟨kZ,?_⟩|refine N2 ?_|refine ld ?_|refine Cg fun σ hs=>?_|refine sl1 fun b=>?_|(constructor<;>intro hc<;>(try rw[hc])<;>(replace hc:=bp hc)<;>(try simp(disch:=omega) only[BT,wrap64,AN]at hc))|(intro nn hnn;generalize hg:A5 _ nn _=σ;refine CN hg fun hs=>?_;clear hg)|clear U K)<;>conv=>whnf)
   all_goals try(exfalso;simp at hc;done)
   all_goals try(exfalso;rename_i h;simp at h;done)
   all_goals try(exfalso;rename_i h _ _ _ _ _ _;simp at h;done)
   all_goals try(exfalso;simp at hx;done)
   all_goals try(exfalso;simp at hc;omega)
   all_goals try exact AI rfl
   all_goals
    refine A8 (.a (.cons (.refl _) (.cons (.refl _) (.cons Ds (.cons (.refl _) (.cons (.refl _) (.cons ?_ .nil)))))));refine .l (fun h=>by cases h) ?_;simp only[Qq,Fact.kids,List.map,Ba];exact EG _
 | x ::y::r,hl,b=>by
   have hx0:(x::y::r)[Int.toNat 0]? =some x:=rfl;have c1:=wa op (y::r) (by simp at hl ⊢;omega);refine fB kZ ?_;have hs:=Sn
   conv=>whnf
   repeat'((first|apply st|(apply sq;intro K U)|(apply si;intro A B Y Z)|(apply Y;clear Z B Y A)|(apply U;clear U K)|apply dr|refine rk ?_ ?_|exact fun s e=>by cases e;rfl|refine⟨rfl,?_⟩|refine⟨kZ,?_⟩|refine N2 ?_|refine ld ?_|refine Cg fun σ hs=>?_|refine Pure.use (c1 _) ?_|refine sl1 fun b=>?_|(constructor<;>intro hc<;>(try rw[hc])<;>(replace hc:=bp hc)<;>(try simp(disch:=omega) only[BT,wrap64,AN]at hc))|(intro nn hnn;generalize hg:A5 _ nn _=σ;refine CN hg fun hs=>?_;clear hg)|clear U K)<;>conv=>whnf)
   all_goals try(exfalso;simp at hc;done)
   all_goals try(exfalso;rename_i h;simp at h;done)
   all_goals try(exfalso;rename_i h _ _ _ _ _ _;simp at h;done)
   all_goals try(exfalso;simp at hx;done)
   all_goals try(exfalso;simp at hc;omega)
   all_goals try exact AI rfl
   all_goals
    refine A8 (.a (.cons (.refl _) (.cons (.refl _) (.cons Ds (.cons (.refl _) (.cons (.refl _) (.cons ?_ .nil)))))));refine .l (fun h=>by cases h) ?_;simp only[Qq,Fact.kids,List.map,Ba];exact EG _
def S5 (f:Fact):Bp f.op≤2:=by
 unfold Bp
 repeat' split
 all_goals omega
def np (f:Fact):arity f=true→Pure Tryz.prog 147 [.a (xF f)] (.a (xF f)):=by
 induction f using Fact.ind with
 | h f ih=>
   intro har;rw[ET,A9,DK,Ev]at har;have hk2:=S5 f;have hM:=Mx;have c1:=Po f.path false;refine vB kZ ?_;have hs:=Sn
   conv=>whnf
   repeat'((first|apply st|(apply sq;intro K U)|(apply si;intro A B Y Z)|(apply Y;clear Z B Y A)|(apply U;clear U K)|refine⟨kZ,?_⟩|refine Io fun σ hs=>?_|refine Cg fun σ hs=>?_|refine c1.use ?_|(intro nn hnn;generalize hg:A5 _ nn _=σ;refine CN hg fun hs=>?_;clear hg)|fail)<;>conv=>whnf)
   rename_i n2 _ _ _ _ _ _ _ _ _;refine C3 f.kids.length (fun k (_:V)=>[(15,eI (Bc k))]) (fun k v=>[.box nn [eI f.op,eI f.arg,.l (iL f.path) false,eI f.cls,eI f.n,v],.box n2 [.i .i64 0,.i .i64 0,.l [] true,.i .i64 0,.i .i64 0,.l [] true],.own v 6 (facts (f.kids.take k))]) (fun _ _=>True) (.l [] true) rfl trivial (GV hs 6) ?_;clear hs;rintro k v σ hk - hs;rcases BU f.kids hk with⟨x,hx,hlt⟩|hke
   ·have hck:Bc k=k:=AN (by omega)
    have hst:=Aa hx;have c2:=ih x (DL hx) (har.2 x (DL hx));have hzl:(f.kids.take k).length≤2:=by rw[Ny];omega
    generalize f.kids.take k=zs at *;have hll:zs.length<Aj∧(zs.length+1)*80≤140737488355328:=by omega
    conv=>whnf
    repeat'((first|apply st|(apply sq;intro K U)|(apply si;intro A B Y Z)|(apply Y;clear Z B Y A)|(apply U;clear U K)|apply dr|refine rk ?_ ?_|exact fun s e=>by cases e;rfl|refine⟨rfl,?_⟩|refine⟨kZ,?_⟩|refine UR ?_|refine ld ?_|refine Io fun σ hs=>?_|refine Cg fun σ hs=>?_|refine yQ fun v σ hs hsl=>?_|(refine DR (fun hc=>?_)<;>(try rw[hc])<;>clear hc)|refine c2.use ?_|(intro nn hnn;generalize hg:A5 _ nn _=σ;refine CN hg fun hs=>?_;clear hg)|clear U K)<;>conv=>whnf)
    exact⟨hlt,_,rfl,trivial,by rw[hst];exact hs.less (K0 _ _)⟩
   ·rw[BI hke]at hs
    conv=>whnf
    repeat'((first|apply st|(apply sq;intro K U)|(apply si;intro A B Y Z)|(apply Y;clear Z B Y A)|(apply U;clear U K)|refine⟨rfl,?_⟩|refine⟨kZ,?_⟩|refine ld ?_|(refine Ew (fun hc=>?_)<;>(try rw[hc])<;>clear hc)|clear U K)<;>conv=>whnf)
    have o1:=G9 hs 2 rfl;refine H5 hs 1 rfl rfl rfl (by simp[o1]) (by decide) fun σ hs=>?_
    clear o1
    conv=>whnf
    repeat'((first|apply st|(apply Y;clear Z B Y A)|(apply U;clear U K)|refine⟨kZ,?_⟩|refine ld ?_|fail)<;>conv=>whnf)
    exact A8 (.a (.cons (.refl _) (.cons (.refl _) (.cons (.refl _) (.cons (.refl _) (.cons (.refl _) (.cons (hs.IV 2 rfl) .nil)))))))
def qg (p:Prog) (gen:Int) (x:Fact) (h:(Bd p).isSome=true):Pure Tryz.prog 83 [.a (oS p gen),.a (xF x)] (.t [.a (xF (if CA (AR p) x then x else U1)),eI (if CA (AR p) x then 0 else 3)]):=by
 have c1:=Tw p;rw[h,if_pos rfl]at c1;have c2:=QT (Uy h) x;cases h4:CA (AR p) x<;>rw[h4]at c2
 ·rw[if_neg (by decide)]at c2
  refine pH kZ ?_;have hs:=Sn
  conv=>whnf
  repeat'((first|apply st|(apply sq;intro K U)|(apply si;intro A B Y Z)|(apply Y;clear Z B Y A)|(apply U;clear U K)|refine⟨rfl,?_⟩|refine⟨kZ,?_⟩|refine ld ?_|refine Cg fun σ hs=>?_|refine c1.use ?_|refine c2.use ?_|(constructor<;>intro hc<;>(try rw[hc])<;>(replace hc:=bp hc)<;>try(exfalso;omega))|(intro nn hnn;generalize hg:A5 _ nn _=σ;refine CN hg fun hs=>?_;clear hg)|clear U K)<;>conv=>whnf)
  all_goals exact A8 (.t (.cons KZ (.cons (.refl _) .nil)))
 ·rw[if_pos rfl]at c2
  have hn:=h4;simp only[CA,A9]at hn;have c3:=np x (Ao x hn.2.2);refine pH kZ ?_;have hs:=Sn
  conv=>whnf
  repeat'((first|apply st|(apply sq;intro K U)|(apply si;intro A B Y Z)|(apply Y;clear Z B Y A)|(apply U;clear U K)|refine⟨rfl,?_⟩|refine⟨kZ,?_⟩|refine ld ?_|refine Cg fun σ hs=>?_|refine c1.use ?_|refine c2.use ?_|refine c3.use ?_|(constructor<;>intro hc<;>(try rw[hc])<;>(replace hc:=bp hc)<;>(try simp(disch:=omega) only[BT,wrap64,AN]at hc)<;>try(exfalso;omega))|(intro nn hnn;generalize hg:A5 _ nn _=σ;refine CN hg fun hs=>?_;clear hg)|fail)<;>conv=>whnf)
  all_goals exact AI rfl
end Go.Gl
namespace Go.Gl
open Go.Proofs
attribute [local irreducible] A7 Ap Af AT AM Ae AS AU AL Ad AO AP Aw A1 Sat AX Az Ah W
def N1:List (Int→Fact×Int)→Fact→Int→Fact×Int
 | [],o,n=>(o,n)
 | g::r,o,n=>if 0≤n then N1 r (g n).1 (g n).2 else(o,n)
def wc (f:Fact) (l:List (Int→Fact×Int)) (n:Int):Fact×Int:=if n=0 then(f,-1)else N1 l f (n - 1)
def EX (f:Fact):Int→Fact×Int:=f.FL wc
def E9 (f:Fact) (n:Int):EX f n=if n=0 then(f,-1)else N1 (f.kids.map EX) f (n - 1):=congrFun (Fact.CG wc f) n
end Go.Gl
namespace Go.Gl
open Go.Proofs
def Wl {b sz:Nat} {σ:AH} {ys:List (List V)} {f:Bool} {K:V→AH→Prop} (h:AM b σ sz (.l [] true) (.l ys f) fun v' σ'=>(ys≠[]→(EI v').isSome=true)→K v' σ'):AM b σ sz (.l [] true) (.l ys f) K:=by
 obtain⟨h1,h2,h3⟩:=h;exact⟨h1,h2,h3.1,h3.2.1,fun e=>h3.2.2.1 e fun hn=>absurd e hn,fun e=>⟨(h3.2.2.2 e).1,fun n cap hn hc=>(h3.2.2.2 e).2 n cap hn hc fun _=>rfl⟩⟩
attribute [local irreducible] A7 Ap Af AT AM Ae AS AU AL Ad AO AP Aw A1 Sat AX Az Ah W
def wk (f:Fact) (l:List Fact):Fact:= .mk f.op f.arg f.path f.cls f.n l
def az:List Fact→List (Int→Fact×Int)→Int→List Fact×Int
 | k::ks,g::gs,n=>if 0≤n then((g n).1::(az ks gs (g n).2).1,(az ks gs (g n).2).2)else(k::ks,n)
 | ks,_,n=>(ks,n)
def ptG (x:Fact) (f:Fact) (l:List (Int→Fact×Int)) (n:Int):Fact×Int:=if n=0 then(x,-1)else(wk f (az f.kids l (n - 1)).1,(az f.kids l (n - 1)).2)
def UQ (x f:Fact):Int→Fact×Int:=f.FL (ptG x)
def XZ (x f:Fact) (n:Int):UQ x f n=if n=0 then(x,-1)else(wk f (az f.kids (f.kids.map (UQ x)) (n - 1)).1,(az f.kids (f.kids.map (UQ x)) (n - 1)).2):=congrFun (Fact.CG (ptG x) f) n
end Go.Gl
namespace Go.Gl
open Go.Proofs
attribute [local irreducible] A7 Ap Af AT AM Ae AS AU AL Ad AO AP Aw A1 Sat AX Az Ah W
def vR (a:List Fact) (f:Bool) (hl:a.length≤1000000):B3 Tryz.prog 294 [.l (facts a) f] [] fun r post=> ∃v,r= .ret v∧post= [.own v 6 (facts a)]∧(a≠[]→(EI v).isSome=true):=by
 intro σ hs;have hM:=Mx;refine tL kZ ?_
 conv=>whnf
 repeat'((first|(apply sq;intro K U)|(apply si;intro A B Y Z)|(apply Y;clear Z B Y A)|(apply U;clear U K)|fail)<;>conv=>whnf)
 refine⟨fun e t=>?_,fun _=>?_⟩
 ·have hxe:a= []:=List.map_eq_nil_iff.1 e
  subst hxe
  conv=>whnf
  repeat'((first|apply st|(apply sq;intro K U)|(apply si;intro A B Y Z)|(apply Y;clear Z B Y A)|(apply U;clear U K)|(constructor<;>intro hc<;>(try rw[hc])<;>(replace hc:=bp hc))|clear U K)<;>conv=>whnf)
  ·exact AW ⟨_,⟨_,rfl,rfl,fun h=>absurd rfl h⟩,FP hs 6⟩
  ·replace hs:=FP hs 6
   refine J2 hs 0 (xs:=[]) (ys:=[]) rfl (by simp) KY fun v σ hs=>?_
   conv=>whnf
   repeat'((first|apply st|(apply Y;clear Z B Y A)|(apply U;clear U K)|fail)<;>conv=>whnf)
   exact AW ⟨_,⟨_,rfl,rfl,fun h=>absurd rfl h⟩,hs⟩
 ·conv=>whnf
  repeat'((first|apply st|(apply sq;intro K U)|(apply si;intro A B Y Z)|(apply Y;clear Z B Y A)|(apply U;clear U K)|fail)<;>conv=>whnf)
  replace hs:=FP hs 6;refine Wl (J2 hs 0 (xs:=[]) (ys:=a) rfl (by simp;omega) KY fun v σ hs hv=>?_)
  conv=>whnf
  repeat'((first|apply st|(apply Y;clear Z B Y A)|(apply U;clear U K)|fail)<;>conv=>whnf)
  exact AW ⟨_,⟨_,rfl,rfl,fun h=>hv fun e=>h (List.map_eq_nil_iff.1 e)⟩,hs⟩
def de:List Fact→List (Int→Fact)→Int→Int→List Fact
 | k::ks,g::gs,n,m=>g (n - m)::de ks gs n (m+Br k)
 | _,_,_,_=>[]
def lZ (gs:List (Int→Fact)) (n m:Int):de [] gs n m= []:=by cases gs<;>rfl
def sbG (y:Fact) (f:Fact) (l:List (Int→Fact)) (n:Int):Fact:=if n=0 then y else wk f (de f.kids l n 1)
def Iu (y f:Fact):Int→Fact:=f.FL (sbG y)
def H0 (y f:Fact) (n:Int):Iu y f n=if n=0 then y else wk f (de f.kids (f.kids.map (Iu y)) n 1):=congrFun (Fact.CG (sbG y) f) n
def aL {f:Fact} (har:f.kids.length≤2): ∀k,1+((f.kids.take k).map Br).sum≤Br f:=fun k=>by
 rw[Cm];have:((f.kids.take k).map Br).sum+((f.kids.drop k).map Br).sum=(f.kids.map Br).sum:=by rw[←List.sum_append,←Qn,List.take_append_drop]
 omega
set_option maxHeartbeats 2000000 in
def y0 (y f:Fact):arity f=true→Br f≤1000→ ∀n:Int,(Br f:Int) - 3000≤n→n≤1000→Pure Tryz.prog 228 [.a (xF f),eI n,.a (xF y)] (.t [.a (xF (Iu y f n)),eI (Br f)]):=by
 induction f using Fact.ind with
 | h f ih=>
   intro har hcn;rw[ET,A9,DK,Ev]at har;have hk2:=S5 f;have hM:=Mx
   have main: ∀n:Int,n≠0→(Br f:Int) - 3000≤n→n≤1000→Pure Tryz.prog 228 [.a (xF f),eI n,.a (xF y)] (.t [.a (xF (Iu y f n)),eI (Br f)]):=by
    intro n hz h0 hn;rw[H0,if_neg hz];refine gU kZ ?_;have hs:=Sn
    conv=>whnf
    repeat'((first|apply st|(apply sq;intro K U)|(apply si;intro A B Y Z)|(apply Y;clear Z B Y A)|(apply U;clear U K)|refine⟨rfl,?_⟩|refine ld ?_|(constructor<;>intro hc<;>(try rw[hc])<;>(replace hc:=bp hc)<;>try(exfalso;omega))|(intro nn hnn;generalize hg:A5 _ nn _=σ;refine CN hg fun hs=>?_;clear hg)|fail)<;>conv=>whnf)
    rename_i n3 _ _ _;refine(vR f.kids false (by omega)).use (rest:=_) hs ?_;clear hs;rintro r post σ ⟨v,rfl,rfl,hvn⟩ hs;replace hs:=Sat.front (j:=2) (hs.perm UB) rfl
    conv=>whnf
    repeat'((first|apply st|(apply sq;intro K U)|(apply si;intro A B Y Z)|(apply Y;clear Z B Y A)|(apply U;clear U K)|refine lo ?_|refine ld ?_|refine Io fun σ hs=>?_|fail)<;>conv=>whnf)
    refine C3 f.kids.length (fun k (x:List Fact×Int)=>[(10,eI x.2),(32,eI (Bc k))]) (fun k x=>[.own v 6 (facts (x.1++f.kids.drop k)),.box nn [.i .i64 0,.i .i64 0,.l [] true,.i .i64 0,.i .i64 0,.l [] true],.box n3 [eI f.op,eI f.arg,.l (iL f.path) false,eI f.cls,eI f.n,v]]) (fun k x=>x.1.length=k∧x.2=1+(((f.kids.take k).map Br).sum:Nat)∧de f.kids (f.kids.map (Iu y)) n 1=x.1++de (f.kids.drop k) ((f.kids.drop k).map (Iu y)) n x.2) ([],1) rfl ⟨rfl,rfl,rfl⟩ hs ?_;clear hs;rintro k ⟨zs,m⟩ σ hk ⟨hzl,hm,hn1⟩ hs;dsimp only at hzl hm hn1 hs;dsimp only;have hck:Bc k=k:=AN (by omega);have hsum:=aL (f:=f) (by omega) k;rcases BU f.kids hk with⟨x,hx,hlt⟩|hke
    ·have hsum2:=aL (f:=f) (by omega) (k+1)
     have hm2:(1:Int)+(((f.kids.take (k+1)).map Br).sum:Nat)=m+Br x:=by
      rw[Aa hx,Qn,List.sum_append,hm];simp;omega
     rw[drop_cons hx,Ct,de]at hn1;have hcx:Br x≤Br f:=by omega
     have hwn:IntKind.i64.wrap (n - m)=n - m:=wrap64 (by omega) (by omega);have hwm:IntKind.i64.wrap (m+(Br x:Int))=m+Br x:=wrap64 (by omega) (by omega)
     have c1:Pure Tryz.prog 228 [.a (xF x),eI (IntKind.i64.wrap (n - m)),.a (xF y)] (.t [.a (xF (Iu y x (n - m))),eI (Br x)]):=by
      rw[hwn];exact ih x (DL hx) (har.2 x (DL hx)) (by omega) (n - m) (by omega) (by omega)
     have hv:=hvn (by intro e;rw[e]at hlt;simp at hlt);have hct:(Bc k).toNat=k:=by rw[hck];rfl
     have hyk:(zs++f.kids.drop k)[(Bc k).toNat]? =some x:=by rw[hct,List.getElem?_append_right (by omega),hzl,Nat.sub_self,drop_cons hx];rfl
     have hwl:(zs++f.kids.drop k).length≤2:=by rw[Qi,wJ];omega
     have hwk:(Bc k).toNat<(zs++f.kids.drop k).length:=by rw[hct,Qi,wJ];omega
     have hwt:(zs++f.kids.drop k).set (Bc k).toNat (Iu y x (n - m))=(zs++[Iu y x (n - m)])++f.kids.drop (k+1):=by rw[hct,List.set_append_right _ _ (by omega),hzl,Nat.sub_self,drop_cons hx,W5];rfl
     generalize zs++f.kids.drop k=ws at *;generalize hq:Iu y x (n - m)=q at *;clear hwn
     conv=>whnf
     repeat'((first|apply st|(apply sq;intro K U)|(apply si;intro A B Y Z)|(apply Y;clear Z B Y A)|(apply U;clear U K)|refine⟨rfl,?_⟩|refine⟨kZ,?_⟩|refine ld ?_|refine Cg fun σ hs=>?_|refine oi ?_|refine k9 ?_|(refine DR (fun hc=>?_)<;>(try rw[hc])<;>clear hc)|refine c1.use ?_|(intro nn hnn;generalize hg:A5 _ nn _=σ;refine CN hg fun hs=>?_;clear hg)|fail)<;>conv=>whnf)
     refine oset (enc:=Fw) (xs:=ws) (y:=q) (fun σ hs=>?_) (he:=(Ba q).symm) (h1:=hwk)
     conv=>whnf
     repeat'((first|(apply si;intro A B Y Z)|(apply Y;clear Z B Y A)|(apply U;clear U K)|refine⟨rfl,?_⟩|clear U K)<;>conv=>whnf)
     all_goals exact⟨hlt,(zs++[q],m+Br x),by rw[hwm];rfl,⟨by simp[hzl],hm2.symm,by rw[hn1,W5];rfl⟩,by dsimp only;rw[←hwt];exact hs.less ((K0 _ _).trans (K0 _ _))⟩
    ·rw[Au hke,List.map_nil,lZ,KD]at hn1
     rw[Au hke,KD]at hs
     have hmf:m=Br f:=by
      rw[hm,hke,List.take_of_length_le (Ht _),Cm];omega
     conv=>whnf
     repeat'((first|apply st|(apply sq;intro K U)|(apply si;intro A B Y Z)|(apply Y;clear Z B Y A)|(apply U;clear U K)|refine⟨rfl,?_⟩|refine⟨kZ,?_⟩|refine ld ?_|(refine Ew (fun hc=>?_)<;>(try rw[hc])<;>clear hc)|clear U K)<;>conv=>whnf)
     have o1:=G9 hs 0 rfl;refine H5 hs 1 rfl rfl rfl (by simp[o1]) (by decide) fun σ hs=>?_
     clear o1
     conv=>whnf
     repeat'((first|apply st|(apply Y;clear Z B Y A)|(apply U;clear U K)|refine⟨kZ,?_⟩|refine ld ?_|fail)<;>conv=>whnf)
     rw[hn1,←hmf];exact A8 (.t (.cons (.a (.cons (.refl _) (.cons (.refl _) (.cons (.refl _) (.cons (.refl _) (.cons (.refl _) (.cons (hs.IV 0 rfl) .nil))))))) (.cons (.refl _) .nil)))
   intro n h0 hn;by_cases hz:n=0
   ·subst hz
    have c1:=main (-1) (by omega) (by omega) (by omega);rw[H0,if_pos rfl];refine gU kZ ?_;have hs:=Sn
    conv=>whnf
    repeat'((first|apply st|(apply sq;intro K U)|(apply si;intro A B Y Z)|(apply Y;clear Z B Y A)|(apply U;clear U K)|refine⟨rfl,?_⟩|refine⟨kZ,?_⟩|refine ld ?_|refine Cg fun σ hs=>?_|refine c1.use ?_|(constructor<;>intro hc<;>(try rw[hc])<;>(replace hc:=bp hc)<;>(try simp(disch:=omega) only[BT,wrap64,AN]at hc)<;>try(exfalso;omega))|(intro nn hnn;generalize hg:A5 _ nn _=σ;refine CN hg fun hs=>?_;clear hg)|clear U K)<;>conv=>whnf)
    all_goals exact AI rfl
   ·exact main n hz h0 hn
def DN:Fact:=C9 BY
def FT (x:Fact):List Fact:=(if Cp x BY then []else if Cp x DN then [BY]else [BY,DN])++x.kids
def Og (w:AJ) (f g:Fact):Bool:=XK w f g&&XK w g f
def KM (w:AJ) (f:Fact) (n:Int):Option Fact:=((FT (EX f n).1).map fun y=>(UQ y f n).1).find? (Og w f)
def Jw (w:AJ) (f:Fact):List Nat→Option Fact
 | []=>none
 | n::r=>(KM w f n).or (Jw w f r)
def Db (w:AJ) (f:Fact):Option Fact:=Jw w f (List.range (Br f))
def qf (w:AJ) (f:Fact):Prop:=Al w f=true∧lv f≤12∧arity f=true∧BV f 24=Br f∧Br f≤24∧ ∀n:Nat,n<Br f→(EX f n).1.kids.length≤2∧ ∀y∈FT (EX f n).1,Al w (UQ y f n).1=true∧lv (UQ y f n).1≤12
section
variable {S:Type}
def dt:List (S→Bool×S)→S→Bool×S
 | [],s=>(false,s)
 | g::r,s=>if(g s).1 then g s else dt r (g s).2
def vsG (stp:Fact→S→Bool×S) (f:Fact) (l:List (S→Bool×S)) (s:S):Bool×S:=if(stp f s).1 then stp f s else dt l (stp f s).2
def Qo (stp:Fact→S→Bool×S) (f:Fact):S→Bool×S:=f.FL (vsG stp)
def XV (stp:Fact→S→Bool×S) (f:Fact) (s:S):Qo stp f s=if(stp f s).1 then stp f s else dt (f.kids.map (Qo stp)) (stp f s).2:=congrFun (Fact.CG (vsG stp) f) s
def VF (stp:Fact→S→Bool×S): ∀(xs:List Fact) (k:Nat) (s:S),dt (xs.map (Qo stp)) s=(decide ((B7 (Qo stp) xs k s).1≥0),(B7 (Qo stp) xs k s).2)
 | [],_,_=>rfl
 | y ::r,k,s=>by
   rw[Ct,dt,B7];cases h:(Qo stp y s).1
   ·rw[if_neg (by decide),if_neg (by decide)]
    exact VF stp r (k+1) _
   ·rw[if_pos rfl,if_pos rfl]
    dsimp only;rw[decide_eq_true (by omega),←h]
end
abbrev SN:=Int×Fact
def v8 (AF:Fact→Prop) (y:Fact) (s:SN):Prop:=AF y∧ -1≤s.1∧s.1+(Br y:Int)≤900
def qb {stp:Fact→SN→Bool×SN} (h1: ∀y s,(stp y s).2.1=s.1+1) (f:Fact): ∀s,s.1≤(Qo stp f s).2.1∧(Qo stp f s).2.1≤s.1+Br f:=by
 induction f using Fact.ind with
 | h f ih=>
   intro s;rw[XV,Cm];have h2:=h1 f s
   have hl: ∀(l:List Fact),(∀k∈l,k∈f.kids)→ ∀s:SN,s.1≤(dt (l.map (Qo stp)) s).2.1∧(dt (l.map (Qo stp)) s).2.1≤s.1+((l.map Br).sum:Nat):=fun l=>by
    induction l with
    | nil=>exact fun _ s=>⟨Int.le_refl _,by simp[dt]⟩
    | cons k r ih2=>
      intro hm s;have h3:=ih k (hm k (.head _)) s;rw[Ct,dt,Ct,List.sum_cons];split
      ·exact⟨h3.1,by omega⟩
      ·have h4:=ih2 (fun x hx=>hm x (.tail _ hx)) (Qo stp k s).2
       exact⟨by omega,by omega⟩
   split
   ·exact⟨by omega,by omega⟩
   ·have:=hl f.kids (fun _ h=>h) (stp f s).2
    exact⟨by omega,by omega⟩
def Vh {stp:Fact→SN→Bool×SN} (h1: ∀y s,(stp y s).2.1=s.1+1) {AF:Fact→Prop}: ∀(l:List Fact) (s:SN),(∀k∈l,AF k)→ -1≤s.1→s.1+((l.map Br).sum:Nat)≤900→Sb (Qo stp) (v8 AF) l s
 | [],_,_,_,_=>trivial
 | k::r,s,hc,h0,hs=>by
   rw[Ct,List.sum_cons]at hs;have hb:=qb h1 k s;exact⟨⟨hc k (.head _),h0,by omega⟩,Vh h1 r _ (fun x hx=>hc x (.tail _ hx)) (by omega) (by omega)⟩
def Zi {S:Type} {stp:Fact→S→Bool×S} {D:Fact→S→Prop} {l:List Fact}: ∀ {xs:List Fact} {s:S},Sb stp D xs s→(∀y∈xs,y∈l)→Sb stp (fun y s=>y∈l∧D y s) xs s
 | [],_,_,_=>trivial
 | y::r,_,h,hm=>⟨⟨hm y (.head _),h.1⟩,Zi h.2 fun z hz=>hm z (.tail _ hz)⟩
def ja {g:FuncId} {fi ca:List V} {H:SN→List At} {stp:Fact→SN→Bool×SN} {AF:Fact→Prop} (h1: ∀y s,(stp y s).2.1=s.1+1) (hC: ∀y,AF y→y.kids.length≤2∧ ∀k∈y.kids,AF k)
    (hx:DI Tryz.prog (.f (.func g) fi ca) (fun y=> .a (xF y)) H stp (v8 AF)) (f:Fact): ∀s,v8 AF f s→B3 Tryz.prog 225 [.a (xF f),.f (.func g) fi ca] (H s) fun r post=>r= .ret (.b (Qo stp f s).1)∧post=H (Qo stp f s).2:=by
 induction f using Fact.ind with
 | h f ih=>
   intro s ⟨hc,hs0,hs9⟩ σ hs;have hM:=Mx;obtain⟨hk2,hkc⟩:=hC f hc;have hst: ∀k∈f.kids,True:=fun _ _=>trivial
   have hcl:DI Tryz.prog (.f (.func 292) [] [.rp [.f (.func g) fi ca]]) (fun y=> .a (xF y)) H (fun y s=>Qo stp y s) (fun y s=>y∈f.kids∧v8 AF y s):=by
    rintro y s ⟨hy,hd⟩ σ hs;refine Bg ?_;show A7 Tryz.prog 292 ([]++[.a (xF y)]++[.rp [.f (.func g) fi ca]]) σ _;refine tM kZ ?_
    conv=>whnf
    repeat'((first|apply st|(apply sq;intro K U)|(apply si;intro A B Y Z)|(apply Y;clear Z B Y A)|(apply U;clear U K)|refine⟨kZ,?_⟩|fail)<;>conv=>whnf)
    refine(ih y hy s hd).use (rest:=[]) (by simpa using hs) ?_;clear hs;rintro r post σ ⟨rfl,rfl⟩ hs
    conv=>whnf
    repeat'((first|apply st|(apply Y;clear Z B Y A)|(apply U;clear U K)|fail)<;>conv=>whnf)
    exact A4 hs (by simp) (.refl _) fun σ' hs'=>⟨rfl,hs'⟩
   have hres:=XV stp f s;have h2:=h1 f s;rw[Cm]at hs9
   have hokS:(stp f s).1=false→Sb (Qo stp) (fun y s=>y∈f.kids∧v8 AF y s) f.kids (stp f s).2:=fun _=>by
    have:=Vh h1 f.kids (stp f s).2 hkc (by omega) (by omega);exact Zi this fun y hy=>hy
   refine uF kZ ?_
   conv=>whnf
   repeat'((first|apply st|(apply sq;intro K U)|(apply si;intro A B Y Z)|(apply Y;clear Z B Y A)|(apply U;clear U K)|refine⟨kZ,?_⟩|fail)<;>conv=>whnf)
   refine hx.use ⟨hc,hs0,by rw[Cm];exact hs9⟩ hs ?_;clear hs;intro σ hs;cases hr:(stp f s).1
   ·rw[hr,if_neg (by decide),VF stp f.kids 0]at hres
    conv=>whnf
    repeat'((first|apply st|fail)<;>conv=>whnf)
    refine(Il 292 [] [.rp [.f (.func g) fi ca]] H _ _ hcl f.kids false (stp f s).2 (by omega) (hokS hr)).use (rest:=[]) (by simpa using hs) ?_;clear hs;rintro r post σ ⟨rfl,rfl⟩ hs
    conv=>whnf
    repeat'((first|apply st|(apply Y;clear Z B Y A)|(apply U;clear U K)|fail)<;>conv=>whnf)
    rw[hres];exact A4 hs (by simp) (.refl _) fun σ' hs'=>⟨_,⟨rfl,rfl⟩,hs'⟩
   ·rw[hr,if_pos rfl]at hres
    conv=>whnf
    repeat'((first|apply st|(apply Y;clear Z B Y A)|(apply U;clear U K)|fail)<;>conv=>whnf)
    rw[hres];exact A4 hs (List.Sublist.refl _) (.refl _) fun σ' hs'=>⟨_,⟨by rw[hr];rfl,rfl⟩,hs'⟩
end Go.Gl
