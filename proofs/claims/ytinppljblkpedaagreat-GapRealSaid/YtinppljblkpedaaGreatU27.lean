import Derived.Test.YtinppljblkpedaaGreatU14
import Derived.Test.YtinppljblkpedaaGreatU24
import Derived.Test.YtinppljblkpedaaGreatU26
set_option linter.all false
set_option linter.defProp false
set_option maxHeartbeats 8000000
noncomputable section
namespace Go.Gl
open Go.Proofs
attribute [local irreducible] As Ag AY AQ AL AX AP AR AK AW AM AN Ai Ap Sat AT An AZ W
def P2 (g:FuncId) (fi ca:List V) (q:Ob->Bool):Prop:= ∀v,Pure zP g (fi++[.a (MC v)]++ca) (.b (q v))
def P2.use {g:FuncId} {fi ca:List V} {q:Ob->Bool} (h:P2 g fi ca q) {v:Ob} {Z:AE} {k kp:V->AE->Prop} (hk:k (.b (q v)) Z):Ai zP (.f (.func g) fi ca) [.a (MC v)] Z (qk k kp):=A0 ((h v).use hk)
def ZS {g:FuncId} {fi ca:List V} {q:Ob->Bool} (hpf:P2 g fi ca q) (v:Ob):Pure zP 282 [.a (MC v),.rp [.f (.func g) fi ca]] (.b (!q v)):=by
 refine vR kZ ?_;have hs:=Sn
 conv=>whnf
 repeat'((first|clear U K|apply st|(apply zk;intro K U)|refine zY ?_|refine P2.use hpf ?_|fail)<;>conv=>whnf)
 all_goals exact AG rfl
def lR {g:FuncId} {fi ca:List V} {q:Ob->Bool} (hpf:P2 g fi ca q) (l:List Ob) (b:Bool):Pure zP 339 [.l (l.map MC) b,.f (.func 282) [] [.rp [.f (.func g) fi ca]]] (eI (Pq q l 0)):=by
 refine Pure.fit (by kernel_rfl) fun hf=>?_
 have hl:l.length<=Ab:=by
  have:=hf.1;simp only[Gw,Bc]at this;exact this.1
 have hM:=Mx;refine u4 kZ ?_;have hs:=Sn;refine zz ?_;(repeat clear U K);repeat intro K U
 refine B4 l.length (fun k (_:Unit)=>[(8,eI (A7 k))]) (fun _ _=>[]) (fun k _=>Pq q l 0=Pq q (l.drop k) k) () rfl rfl hs ?_;clear hs;rintro k - Z hk hn hs;have hck:A7 k=k:=AS (by omega);rcases A9 l hk with⟨x,hx,hlt⟩|hke
 .have c1:=ZS hpf x
  rw[drop_cons hx,Pq]at hn;cases hv:q x<;>rw[hv]at c1 hn
  .conv=>whnf
   repeat'((first|clear U K|apply st|(apply zk;intro K U)|refine zY ?_|refine A0 (c1.use ?_)|fail)<;>conv=>whnf)
   exact AG (by rw[hn,if_neg (by decide),hck])
  .conv=>whnf
   repeat'((first|clear U K|apply st|(apply zk;intro K U)|refine zY ?_|refine A0 (c1.use ?_)|fail)<;>conv=>whnf)
   exact⟨hlt,(),rfl,by rw[hn,if_pos rfl],hs⟩
 .refine zz ?_;(repeat clear U K);repeat intro K U
  exact AG (by rw[hn,Aj hke];rfl)
def Xp {g:FuncId} {fi ca:List V} {q:Ob->Bool} (hpf:P2 g fi ca q) (l:List Ob) (b:Bool):Pure zP 281 [.l (l.map MC) b,.f (.func 282) [] [.rp [.f (.func g) fi ca]]] (.b (!l.all q)):=by
 have c1:=lR hpf l b;refine vS kZ ?_;have hs:=Sn
 conv=>whnf
 repeat'((first|clear U K|apply st|(apply zk;intro K U)|refine zY ?_|refine zC ?_|fail)<;>conv=>whnf)
 all_goals exact AG (by rw[<-Qn q l 0])
def yF {g:FuncId} {fi ca:List V} {q:Ob->Bool} (hpf:P2 g fi ca q) (l:List Ob) (b:Bool):Pure zP 216 [.l (l.map MC) b,.f (.func g) fi ca] (.b (l.all q)):=by
 have c1:=Xp hpf l b;refine wU kZ ?_;have hs:=Sn
 conv=>whnf
 repeat'((first|clear U K|apply st|(apply zk;intro K U)|refine zC ?_|fail)<;>conv=>whnf)
 all_goals exact AG (by rw[Bool.not_not])
def ZU (os:List Ob) (f:Bool) (v:Int×Int):Pure zP 219 [.a (pI v),.rp [.l (os.map MC) f]] (.b (DH os.length v)):=by
 have e3:((os.map MC).length:Int)=os.length:=by simp
 have c1:Pure zP 142 [.a (pI v),eI ((os.map MC).length:Int)] (.b (DH os.length v)):=by rw[e3];exact Vx v os.length
 refine wS kZ ?_;have hs:=Sn;exact zW
def ZV (w:AF) (hw:BR w) (hw2:Fu w) (os:List Ob) (f:Bool) (o:Ob):Pure zP 217 [.a (MC o),.rp [.rp (wC w (Ah w.parents))],.rp [.l (os.map MC) f]] (.b (VI w os.length o)):=by
 refine Pure.fit (by kernel_rfl) fun hf=>?_
 have hM:=Mx;have c1:Pure zP 203 [.rp (wC w (Ah w.parents)),eI o.1] (.b (cK w o.1)):=oQ w (Ah w.parents) o.1 hw2.len;have c3:=jX (g:=219) (fi:=[]) (ca:=[.rp [.l (os.map MC) f]]) (ZU os f) o.2 false;cases ho:cK w o.1<;>rw[ho]at c1
 .refine Yb kZ ?_
  have hs:=Sn
  conv=>whnf
  repeat'((first|clear U K|apply st|(apply zk;intro K U)|refine rk ?_ ?_|exact fun s e=>by cases e;rfl|refine zC ?_|fail)<;>conv=>whnf)
  all_goals exact AG (by rw[VI,ho];rfl)
 .have hor:=ho
  simp only[cK,A4,B7]at hor;have c2:=V8 w o.1 hw hw2 hor.1 hor.2;have hob:VI w os.length o=(o.2.length==(CS w o.1).length&&o.2.all (DH os.length)):=by rw[VI,ho,Cc]
  rw[hob];clear hob;generalize CS w o.1=ss at *;by_cases he:o.2.length=ss.length
  .rw[CF.2 he,Cc]
   refine Yb kZ ?_;have hs:=Sn
   conv=>whnf
   repeat'((first|clear U K|apply st|(apply zk;intro K U)|refine zY ?_|refine rk ?_ ?_|exact fun s e=>by cases e;rfl|refine zC ?_|(refine zb (fun hc=>?_) (fun hc=>?_)<;>try exact⟨⟩)|fail)<;>conv=>whnf)
   all_goals first
    | exact AG rfl
    | (exfalso;simp[he]at hc;done)
    | (exfalso;simp at hc;omega)
  .rw[beq_eq_false_iff_ne.2 he,Bool.false_and]
   refine Yb kZ ?_;have hs:=Sn
   conv=>whnf
   repeat'((first|clear U K|apply st|(apply zk;intro K U)|refine zY ?_|refine rk ?_ ?_|exact fun s e=>by cases e;rfl|refine zC ?_|(refine zb (fun hc=>?_) (fun hc=>?_)<;>try exact⟨⟩)|fail)<;>conv=>whnf)
   all_goals first
    | exact AG rfl
    | (exfalso;simp at hc;omega)
def cj (w:AF) (hw:BR w) (hw2:Fu w) (os:List Ob) (f:Bool):Pure zP 139 [.rp (wC w (Ah w.parents)),.l (os.map MC) f] (.b (LI w os)):=by
 refine Pure.fit (by kernel_rfl) fun hf=>?_
 have hM:=Mx;have c1:=yF (g:=217) (fi:=[]) (ca:=[.rp [.rp (wC w (Ah w.parents))],.rp [.l (os.map MC) f]]) (ZV w hw hw2 os f) os f;by_cases h40:os.length<=40
 .have e0:LI w os=os.all (VI w os.length):=by rw[LI,decide_eq_true h40,Cc]
  rw[e0];refine jE kZ ?_;have hs:=Sn;exact zW
 .refine jE kZ ?_
  have hs:=Sn
  conv=>whnf
  repeat'((first|clear U K|apply st|(apply zk;intro K U)|refine zY ?_|(refine zb (fun hc=>?_) (fun hc=>?_)<;>try exact⟨⟩)|fail)<;>conv=>whnf)
  all_goals exact AG (by rw[LI,decide_eq_false h40];rfl)
def SU (w:AF) (os:List Ob) (args:List (Int×Int)):Bool:=LI w os&&(decide (1<=args.length)&&(decide (args.length<=3)&&args.all (DH os.length)))
def dq (w:AF) (hw:BR w) (hw2:Fu w) (os:List Ob) (f:Bool) (args:List (Int×Int)) (g:Bool):Pure zP 67 [.rp (wC w (Ah w.parents)),.l (os.map MC) f,.l (pP args) g] (.b (SU w os args)):=by
 refine Pure.fit (by kernel_rfl) fun hf=>?_
 have hM:=Mx;have c1:=cj w hw hw2 os f;have c2:=jX (g:=141) (fi:=[]) (ca:=[.rp [.l (os.map MC) f]]) (ZW os f) args g;rw[SU];cases ho:LI w os<;>rw[ho]at c1
 .refine Zq kZ ?_
  have hs:=Sn;exact zW
 .by_cases h1:1<=args.length
  .by_cases h3:args.length<=3
   .rw[decide_eq_true h1,decide_eq_true h3,Cc,Cc,Cc]
    refine Zq kZ ?_;have hs:=Sn;exact zW
   .rw[decide_eq_true h1,decide_eq_false h3,Cc,Bool.false_and,Bool.and_false]
    refine Zq kZ ?_;have hs:=Sn;exact zW
  .rw[decide_eq_false h1,Bool.false_and,Bool.and_false]
   refine Zq kZ ?_;have hs:=Sn;exact zW
def bQ {x:Int}: ∀(xs:List Int) (k i:Nat),xs[i]? =some x->(∀j y,j<i->xs[j]? =some y->y≠x)->(Bf (fun y (_:Unit)=>(x==y,())) xs k ()).1=((k+i:Nat):Int)
 | [],_,_,h,_=>by simp at h
 | y::r,k,0,h,_=>by
   obtain rfl:y=x:=by simpa using h
   simp[Bf]
 | y::r,k,i+1,h,hn=>by
   have hy:=hn 0 y (Nat.succ_pos i) rfl;rw[Bf,if_neg (by simpa using fun e:x=y=>hy e.symm)];rw[bQ r (k+1) i (by simpa using h) fun j z hj hz=>hn (j+1) z (by omega) (by simpa using hz)];omega
def AA1 (w:AF) (os:List Ob) (f:Bool) (v:Int×Int) (l:List Int) (g:Bool) (hg:BR w) (hw:Fu w) (hos:Oy w os) (hv:DH os.length v=true) (hl: ∀s∈l,0<=s/\s<(w.owner.length:Int)) :
    Pure zP 143 [.rp (wC w (Ah w.parents)),.l (os.map MC) f,.a (pI v),.l (iL l) g] (atE (cF w os l v)):=by
 refine Pure.fit (by kernel_rfl) fun hf=>?_
 have hll:=OR hf.2.2.2.1;have hM:=Mx;have ho4:=hos.len;have hol:=hw.sC;refine xQ kZ ?_;have hs:=Sn
 conv=>whnf
 repeat'((first|clear U K|apply st|(apply zk;intro K U)|refine zo fun nn hnn Z hs=>?_|fail)<;>conv=>whnf)
 rename_i nV _ _ _;refine B4 l.length (fun k (_:Int×Int)=>[(14,eI (A7 k))]) (fun _ v=>[.box nn [eI 0,eI 0],.box nV (pI v)]) (fun k u=>DH os.length u=true/\cF w os l v=cF w os (l.drop k) u) v rfl ⟨hv,rfl⟩ hs ?_;clear hs;rintro k ⟨vk,vn⟩ Z hk ⟨hu,hn⟩ hs;rcases A9 l hk with⟨s,hsl,hlt⟩|hke
 .have hsr:=hl s (B6 hsl)
  rw[drop_cons hsl,cF]at hn;by_cases h3:vk=3
  .obtain⟨o,ho1,ho2,ho3⟩:=Kb hu h3
   have hoo:=hos.own o ho3;have hnr:=QG hu h3;dsimp only at ho1 ho2 hnr;have c1:=iM w hg o.1 s hoo.1 hoo.2 hsr.1 hsr.2;rw[<-bC hg hw hoo.1 hoo.2 hsr.1 hsr.2]at c1;rw[ho2,show((vk,vn).1==3)=true by simp[h3],Cc]at hn;cases hh:hasB w o.1 s<;>rw[hh]at c1 hn
   .rw[if_neg (by decide)]at hn
    conv=>whnf
    repeat'((first|clear U K|apply st|(apply zk;intro K U)|refine zY ?_|refine zs fun Z hs=>?_|refine zC ?_|(refine zb (fun hc=>?_) (fun hc=>?_)<;>try exact⟨⟩)|fail)<;>conv=>whnf)
    all_goals exact AG (by rw[hn];rfl)
   .rw[if_pos rfl]at hn
    obtain⟨i,q1,q2,q3,q4,q5,q6⟩:=QI hos ho2 ho3 hsr hh;have c2:=V8 w o.1 hg hw hoo.1 hoo.2;have c3:=Wh (CS w o.1) false s;rw[show fg (CS w o.1) s=(i:Int) by rw[fg,bQ _ 0 i q3 q4,GZ]]at c3;have q5':o.2[((i:Nat):Int).toNat]? =some (Jo w os s (vk,vn)):=q5;generalize Jo w os s (vk,vn)=u2 at *;generalize CS w o.1=ss at *;clear q2 q3 q4 q5
    conv=>whnf
    repeat'((first|clear U K|apply st|(apply zk;intro K U)|refine zY ?_|refine rk ?_ ?_|exact fun s e=>by cases e;rfl|refine zs fun Z hs=>?_|refine zC ?_|(refine zb (fun hc=>?_) (fun hc=>?_)<;>try exact⟨⟩)|fail)<;>conv=>whnf)
    exact⟨hlt,u2,rfl,⟨q6,hn⟩,hs⟩
  .rw[show((vk,vn).1==3)=false by simp[h3],Bool.false_and,if_neg (by decide)]at hn
   conv=>whnf
   repeat'((first|clear U K|apply st|(apply zk;intro K U)|refine zY ?_|refine zs fun Z hs=>?_|(refine zb (fun hc=>?_) (fun hc=>?_)<;>try exact⟨⟩)|fail)<;>conv=>whnf)
   all_goals exact AG (by rw[hn];rfl)
 .rw[Aj hke,cF]at hn
  conv=>whnf
  repeat'((first|clear U K|apply st|(apply zk;intro K U)|refine zY ?_|refine zs fun Z hs=>?_|fail)<;>conv=>whnf)
  all_goals exact AG (by rw[hn];rfl)
end Go.Gl
namespace Go.Gl
open Go.Proofs
def qK {w:AF} (ho:ordered w.parents) {c b:Int} (h0:0<=c) (h1:c<3+w.parents.length) (hb:0<=b):Gn w.parents c b=((Ah w.parents).getD c.toNat 0).testBit b.toNat:=by
 rw[J4 ho (by omega),Gn];have e0:(b.toNat==0)=(b==0):=by rw[Hl];simp only[CF];omega
 rw[e0];by_cases h3:3<=c
 .rw[decide_eq_true h3,Cc]
  by_cases h:c=b
  .subst h;rw[Cl ho];simp
  .rw[beq_eq_false_iff_ne.2 h,Bool.false_or]
 .have hp:par w.parents c.toNat= []:=if_pos (by omega)
  rw[decide_eq_false h3,Bool.false_and,Bool.or_false,DM ho,hp];have:(c.toNat==b.toNat)=(c==b):=by rw[Hl];simp only[CF];omega
  rw[this,List.any_nil,Bool.or_false,Bool.or_comm]
def nf {w:AF} (hw:BR w) {c:Int} (h0:0<=c) (h1:c<3+w.parents.length):(List.drop (c.toNat*1) (List.drop 2 (wC w (Ah w.parents))))[0]? =some (eU ((Ah w.parents).getD c.toNat 0)):=by
 have hul:(Ah w.parents).length=3+w.parents.length:=Cf _ _;rw[fD,fD,<-VV w (Ah w.parents) (i:=c.toNat) (by omega)];congr 1;omega
def x7 {w:AF} {os:List Ob} (hos:Oy w os) {v:Int×Int} (hv:DH os.length v=true):0<=LA os v/\LA os v<3+w.parents.length:=by
 rw[LA];split
 .omega
 split
 .omega
 .rename_i h1 h2
  have h3:v.1=3:=by
   simp only[DH,if_neg h1,if_neg h2]at hv;split at hv
   .assumption
   .cases hv
  obtain⟨o,q1,q2,q3⟩:=Kb hv h3;have:=hos.own o q3;have e:os.getD v.2.toNat (0,[])=o:=q2;rw[e];omega
def YI {n:Int} {v:Int×Int} (hv:DH n v=true):v.1=1\/v.1=2\/v.1=3:=by
 rw[DH]at hv;by_cases h1:v.1=1
 .exact .inl h1
 by_cases h2:v.1=2
 .exact .inr (.inl h2)
 by_cases h3:v.1=3
 .exact .inr (.inr h3)
 rw[if_neg h1,if_neg h2,if_neg h3]at hv;cases hv
def zi {op un n:Int} (h:op=3\/op=4) (hc:((un==n)==(op==4))=true):(if op=3 then decide (un<n)else un==n)=decide (un<=n):=by
 rcases h with rfl|rfl
 .have:un≠n:=by simpa using hc
  rw[if_pos rfl,decide_eq_decide];omega
 .have:un=n:=by simpa using hc
  subst this;simp
def zj {op un n:Int} (h:op=3\/op=4) (hc:((un==n)==(op==4))=false):(if op=3 then decide (un<n)else un==n)=false:=by
 rcases h with rfl|rfl
 .have:un=n:=by simpa using hc
  subst this;simp
 .have:un≠n:=by simpa using hc
  simpa using this
attribute [local irreducible] As Ag AY AQ AL AX AP AR AK AW AM AN Ai Ap Sat AT An AZ W
def lU (w : AF) (os:List Ob) (b:Bool) (args:List (Int×Int)) (g:Bool) (hg:BR w) (hw:Fu w) (hos:Oy w os) (hv: ∀v∈args,DH os.length v=true) (f:Fact):Ae w f=true->Cj f<=args.length->
    Pure zP 69 [.rp (wC w (Ah w.parents)),.a (xF f),.l (os.map MC) b,.l (pP args) g] (.b (E9 w os args f)):=by
 induction f using Fact.ind with
 | h f ih=>
   intro hn hsp;refine Pure.fit (by kernel_rfl) fun hf=>?_
   have⟨h2,h3,h4⟩:=JL hf.2.1;have hM:=Mx;have hwl:=hw.len;rw[Wi,ID];rcases Lu hn with h1|⟨h5,x,hk,hx⟩|⟨h6,x,y,hk,hx,hy⟩|⟨h7,x,y,hk,hx,hy⟩|⟨hop,hlf,hp,hcl,ha0⟩
   .refine MR kZ ?_
    have hs:=Sn
    conv=>whnf
    repeat'((first|clear U K|apply st|(apply zk;intro K U)|refine zY ?_|(refine zb (fun hc=>?_) (fun hc=>?_)<;>try exact⟨⟩)|fail)<;>conv=>whnf)
    all_goals exact AG (by rw[if_pos h1])
   .have c1:=ih x (by rw[hk];exact .head _) hx (Int.le_trans (Ga (by rw[hk];exact .head _)) hsp)
    have e:(f.kids.map (E9 w os args)).getD 0 false=E9 w os args x:=by rw[hk];rfl
    have hk0:f.kids[0]? =some x:=by rw[hk];rfl
    rw[if_neg (by omega),if_pos h5,e];clear e hk;refine MR kZ ?_;have hs:=Sn;exact zW
   .have c1:=ih x (by rw[hk];exact .head _) hx (Int.le_trans (Ga (by rw[hk];exact .head _)) hsp)
    have c2:=ih y (by rw[hk];exact .tail _ (.head _)) hy (Int.le_trans (Ga (by rw[hk];exact .tail _ (.head _))) hsp);have e:(f.kids.map (E9 w os args)).getD 0 false=E9 w os args x:=by rw[hk];rfl
    have e2:(f.kids.map (E9 w os args)).getD 1 false=E9 w os args y:=by rw[hk];rfl
    have hk0:f.kids[0]? =some x:=by rw[hk];rfl
    have hk1:f.kids[1]? =some y:=by rw[hk];rfl
    rw[if_neg (by omega),if_neg (by omega),if_pos h6,e,e2];clear e e2 hk;cases hb:E9 w os args x<;>rw[hb]at c1
    all_goals
     refine MR kZ ?_;have hs:=Sn;exact zW
   .have c1:=ih x (by rw[hk];exact .head _) hx (Int.le_trans (Ga (by rw[hk];exact .head _)) hsp)
    have c2:=ih y (by rw[hk];exact .tail _ (.head _)) hy (Int.le_trans (Ga (by rw[hk];exact .tail _ (.head _))) hsp);have e:(f.kids.map (E9 w os args)).getD 0 false=E9 w os args x:=by rw[hk];rfl
    have e2:(f.kids.map (E9 w os args)).getD 1 false=E9 w os args y:=by rw[hk];rfl
    have hk0:f.kids[0]? =some x:=by rw[hk];rfl
    have hk1:f.kids[1]? =some y:=by rw[hk];rfl
    rw[if_neg (by omega),if_neg (by omega),if_neg (by omega),if_pos h7,e,e2];clear e e2 hk;cases hb:E9 w os args x<;>rw[hb]at c1
    all_goals
     refine MR kZ ?_;have hs:=Sn;exact zW
   .have hsl:=Q1 hlf
    rw[if_neg (by omega),if_neg (by omega),if_neg (by omega),if_neg (by omega),Zl];obtain⟨v,hva⟩: ∃v,args[f.arg.toNat]? =some v:=⟨_,Cd (by omega)⟩
    have hvd:args.getD f.arg.toNat (0,0)=v:=by rw[Cq,hva];rfl
    have hvv:=hv v (B6 hva);rw[hvd];have c1:=AA1 w os b v f.path false hg hw hos hvv hp;have hok:=fun u=>Yh (u:=u) hos hp hvv
    clear hvd;cases hu:cF w os f.path v with
    | none=>
      rw[hu]at c1;replace c1:Pure zP 143 [.rp (wC w (Ah w.parents)),.l (os.map MC) b,.a (pI v),.l (iL f.path) false] (.t [.a (pI (0,0)),.b false]):=c1;refine MR kZ ?_;have hs:=Sn
      conv=>whnf
      repeat'((first|clear U K|apply st|(apply zk;intro K U)|refine zY ?_|refine zs fun Z hs=>?_|refine⟨_,c1,?_⟩|(refine zb (fun hc=>?_) (fun hc=>?_)<;>try exact⟨⟩)|refine zo fun nn hnn Z hs=>?_|fail)<;>conv=>whnf)
      all_goals exact AG rfl
    | some u=>
      rw[hu]at c1;have hu2:=hok u hu;clear hok hu;replace c1:Pure zP 143 [.rp (wC w (Ah w.parents)),.l (os.map MC) b,.a (pI v),.l (iL f.path) false] (.t [.a (pI u),.b true]):=c1;by_cases h2:f.op=2
      .have hcr:=x7 hos hu2
       have hfc:=hcl h2;have hup:=nf hg hcr.1 hcr.2;have hbb:=qK hw.ord hcr.1 hcr.2 hfc.1;have c2:=PL ((Ah w.parents).getD (LA os u).toNat 0) f.cls (Jx (D0 _ _ (by have:=hg.1.1;omega)) _) hfc.1 (by omega);have hkk:=YI hu2;dsimp only;rw[if_pos h2];rw[hbb];by_cases h3:u.1=3
       .obtain⟨o,q1,q2,q3⟩:=Kb hu2 h3
        have hnr:=QG hu2 h3
        have hce:LA os u=o.1:=by
         rw[LA,if_neg (by omega),if_neg (by omega)];exact congrArg Prod.fst q2
        rw[hce]at hcr hup c2 ⊢;clear hce hbb hcl hv hvv ih h4 hp hn q2;generalize Ah w.parents=us at *;obtain⟨uk,un⟩:=u;dsimp only at h3 q1 hnr;refine MR kZ ?_;have hs:=Sn
        conv=>whnf
        repeat'((first|clear U K|apply st|(apply zk;intro K U)|refine zY ?_|refine zs fun Z hs=>?_|refine⟨_,c1,?_⟩|(refine zb (fun hc=>?_) (fun hc=>?_)<;>try exact⟨⟩)|refine zo fun nn hnn Z hs=>?_|fail)<;>conv=>whnf)
        rw[hup];exact zW
       .have hce:LA os u=u.1:=by
         rw[LA];split
         .omega
         .rw[if_pos (by omega)];omega
        rw[hce]at hcr hup c2 ⊢;clear hce hbb hcl hv hvv ih h4 hp hn;generalize Ah w.parents=us at *;obtain⟨uk,un⟩:=u;dsimp only at *;refine MR kZ ?_;have hs:=Sn
        conv=>whnf
        repeat'((first|clear U K|apply st|(apply zk;intro K U)|refine zY ?_|refine zs fun Z hs=>?_|refine⟨_,c1,?_⟩|(refine zb (fun hc=>?_) (fun hc=>?_)<;>try exact⟨⟩)|refine zo fun nn hnn Z hs=>?_|fail)<;>conv=>whnf)
        rw[hup];exact zW
      .dsimp only
       rw[if_neg h2];clear hv hvv ih h4 hp hn hcl;obtain⟨uk,un⟩:=u;dsimp only at *;by_cases hk:uk=1
       .rw [CF.2 hk,Cc]
        have h34:f.op=3\/f.op=4:=by omega
        have hT:=fun hc=>zi (un:=un) (n:=f.n) h34 hc
        have hF:=fun hc=>zj (un:=un) (n:=f.n) h34 hc
        refine MR kZ ?_;have hs:=Sn
        conv=>whnf
        repeat'((first|clear U K|apply st|(apply zk;intro K U)|refine zY ?_|refine zs fun Z hs=>?_|refine⟨_,c1,?_⟩|(refine zb (fun hc=>?_) (fun hc=>?_)<;>try exact⟨⟩)|refine zo fun nn hnn Z hs=>?_|fail)<;>conv=>whnf)
        all_goals
         refine AG ?_
         first
          | (rw[hT (by assumption)];rfl)
          | (rw[hF (by assumption)];rfl)
       .rw[beq_eq_false_iff_ne.2 hk,Bool.false_and]
        refine MR kZ ?_;have hs:=Sn
        conv=>whnf
        repeat'((first|clear U K|apply st|(apply zk;intro K U)|refine zY ?_|refine zs fun Z hs=>?_|refine⟨_,c1,?_⟩|(refine zb (fun hc=>?_) (fun hc=>?_)<;>try exact⟨⟩)|refine zo fun nn hnn Z hs=>?_|fail)<;>conv=>whnf)
        all_goals exact AG rfl
end Go.Gl
namespace Go.Gl
open Go.Proofs
variable {w w':AF} {ps:List Int}
def pH {w:AF} {os:List Ob} {args:List (Int×Int)} {f:Fact} {l:List Bool} (h:f.op=5):ID w os args f l= !l.getD 0 false:=by rw[ID,if_neg (by omega),if_pos h]
def pG {w:AF} {os:List Ob} {args:List (Int×Int)} {f:Fact} {l:List Bool} (h:f.op=6):ID w os args f l=(l.getD 0 false&&l.getD 1 false):=by rw[ID,if_neg (by omega),if_neg (by omega),if_pos h]
def pF {w:AF} {os:List Ob} {args:List (Int×Int)} {f:Fact} {l:List Bool} (h:f.op=7):ID w os args f l=(l.getD 0 false||l.getD 1 false):=by rw[ID,if_neg (by omega),if_neg (by omega),if_neg (by omega),if_pos h]
def pE {w:AF} {os:List Ob} {args:List (Int×Int)} {f:Fact} {l:List Bool} (h:f.op=2\/f.op=3\/f.op=4):ID w os args f l=Zl w os args f:=by rw[ID,if_neg (by omega),if_neg (by omega),if_neg (by omega),if_neg (by omega)]
def ma (w:AF) (os:List Ob) (v:Int×Int) (kid:Int->Er):Er:=
 if DH os.length v then(if v.1=1 then .int v.2 else if v.1=2 then .Gi else .obj (fun c=>FQ w.parents (Tm os v).1.toNat c) kid)else .Gi
def X3 (w:AF) (os:List Ob):Nat->Int×Int->Er
 | 0,v=>ma w os v fun _=> .Gi
 | d+1,v=>ma w os v fun s=>X3 w os d (Jo w os s v)
def j4 {w : AF} (hw:Fu w) {os:List Ob} (hos:Oy w os) (d:Nat) {u:Int×Int} (hu:DH os.length u=true) {f:Fact} (hc:f.op=2->0<=f.cls) :
    Cg (X3 w os d u) f=if f.op=2 then Gn w.parents (LA os u) f.cls else u.1==1&&(if f.op=3 then decide (u.2<f.n)else u.2==f.n):=by
 obtain⟨kid,e⟩: ∃kid,X3 w os d u=ma w os u kid:=by cases d<;>exact⟨_,rfl⟩
 rw[e,ma,if_pos hu];rcases YI hu with h1|h2|h3
 .have hcv:LA os u=1:=by rw[LA,if_pos h1]
  rw[if_pos h1];simp only[Cg];by_cases h:f.op=2
  .rw[if_pos h,if_pos h,hcv,Gn,Hl]
   have:=hc h;simp;omega
  .rw[if_neg h,if_neg h,CF.2 h1,Cc]
   split
   .rfl
   .rw[Hl,B7,CF]
 .have hcv:LA os u=2:=by rw[LA,if_neg (by omega),if_pos h2]
  rw[if_neg (by omega),if_pos h2];simp only[Cg];by_cases h:f.op=2
  .rw[if_pos h,hcv,Gn,Hl]
   have:=hc h;simp[h];omega
  .rw[if_neg h,beq_eq_false_iff_ne.2 (show u.1≠1 by omega),beq_eq_false_iff_ne.2 h]
   rfl
 .obtain⟨o,q1,q2,q3⟩:=Kb hu h3
  have hoo:=hos.own o q3;have hcv:LA os u=o.1:=by rw[LA,if_neg (by omega),if_neg (by omega)];exact congrArg Prod.fst q2
  rw[if_neg (by omega),if_neg (by omega),q2];simp only[Cg];by_cases h:f.op=2
  .have h0:=hc h
   rw[if_pos h,hcv,Gn,CF.2 h,Cc,decide_eq_true hoo.1,Cc];by_cases hz:f.cls=0
   .rw[hz];simp
   rw[beq_eq_false_iff_ne.2 hz,Bool.false_or,Bool.false_or];by_cases h3c:3<=f.cls
   .rw[decide_eq_true h3c,Cc]
    by_cases he:o.1=f.cls
    .rw[he,Cl hw.ord];simp
    .rw[beq_eq_false_iff_ne.2 he,Bool.false_or]
   .rw[decide_eq_false h3c,Bool.false_and,beq_eq_false_iff_ne.2 (show o.1≠f.cls by omega),Bool.false_or]
    cases hb:FQ w.parents o.1.toNat f.cls.toNat
    .rfl
    .have:=Jw hw.ord _ _ (by omega) hb
     omega
  .rw[if_neg h,beq_eq_false_iff_ne.2 (show u.1≠1 by omega),beq_eq_false_iff_ne.2 h]
   rfl
def Uf (w:AF) (t:Er) (f:Fact):Ir w t [] f=Cg t f:=by cases t<;>rfl
def iK {w:AF} (hw:Fu w) {c s:Int} (hc:3<=c) (hs:0<=s/\s<(w.owner.length:Int)):hasB w c s=FQ w.parents c.toNat (BG w s).toNat:=by
 have ho:=Fh hw hs;rw[hasB,Gn,decide_eq_true hc,Cc,beq_eq_false_iff_ne.2 (show BG w s≠0 by omega),Bool.false_or,Cc];by_cases he:c=BG w s
 .rw[<-he,Cl hw.ord];simp
 .rw[beq_eq_false_iff_ne.2 he,Bool.false_or]
def gp {w:AF} (hw:Fu w) {os:List Ob} (hos:Oy w os) (f:Fact): ∀(l:List Int) (d:Nat) (v:Int×Int),l.length<=d->(∀s∈l,0<=s/\s<(w.owner.length:Int))->DH os.length v=true->
    Ir w (X3 w os d v) l f=match cF w os l v with|none=>false|some u=>Cg (X3 w os (d - l.length) u) f
 | [],d,v,_,_,_=>by rw[Uf];rfl
 | s::r,0,v,h,_,_=>by simp at h
 | s ::r,d+1,v,h,hl,hv=>by
   have hs:=hl s (.head _);rw[cF,X3,ma,if_pos hv];rcases YI hv with h1|h2|h3
   .rw[if_pos h1,beq_eq_false_iff_ne.2 (show v.1≠3 by omega)];rfl
   .rw[if_neg (by omega),if_pos h2,beq_eq_false_iff_ne.2 (show v.1≠3 by omega)];rfl
   .obtain⟨o,q1,q2,q3⟩:=Kb hv h3
    have hoo:=hos.own o q3;rw[if_neg (by omega),if_neg (by omega),Ir,CF.2 h3,Cc,q2,iK hw hoo.1 hs];cases hh:FQ w.parents o.1.toNat (BG w s).toNat
    .rfl
    .obtain⟨i,_,_,_,_,_,hv2⟩:=QI hos q2 q3 hs (by rw[iK hw hoo.1 hs,hh])
     rw[Cc,if_pos rfl,gp hw hos f r d _ (by simpa using h) (fun x hx=>hl x (.tail _ hx)) hv2];rw[HH,Nat.add_sub_add_right]
def mdO (w:AF) (os:List Ob) (args:List (Int×Int)) (a:Int):Er:=X3 w os 2 (args.getD a.toNat (0,0))
def Su {w:AF} {f:Fact} (h:Ae w f=true):f.path.length<=2:=by
 rw[BS,A4]at h;have h1:=h.1;simp only[CE,EH,A4,B7]at h1;exact h1.2.2.2.2.1.2
def ph {w:AF} (hw:Fu w) {os:List Ob} (hos:Oy w os) {args:List (Int×Int)} (hv: ∀v∈args,DH os.length v=true) (f:Fact):Ae w f=true->Cj f<=args.length->LD w (mdO w os args) f=E9 w os args f:=by
 induction f using Fact.ind with
 | h f ih=>
   intro hn hsp;rw[Iw,Wi];have hk1: ∀x∈f.kids,Cj x<=args.length:=fun x hx=>Int.le_trans (Ga hx) hsp
   have hpl:=Su hn;rcases Lu hn with h1|⟨h5,x,hk,hx⟩|⟨h6,x,y,hk,hx,hy⟩|⟨h7,x,y,hk,hx,hy⟩|⟨hop,hlf,hp,hcl,ha0⟩
   .simp only[VB,ID,if_pos h1]
   .have e1:=ih x (by rw[hk];exact .head _) hx (hk1 x (by rw[hk];exact .head _))
    rw[rD h5,pH h5,hk];simp only[CK,List.map_nil,e1]
   .have e1:=ih x (by rw[hk];exact .head _) hx (hk1 x (by rw[hk];exact .head _))
    have e2:=ih y (by rw[hk];exact .tail _ (.head _)) hy (hk1 y (by rw[hk];exact .tail _ (.head _)));rw[rC h6,pG h6,hk];simp only[CK,List.map_nil,e1,e2]
   .have e1:=ih x (by rw[hk];exact .head _) hx (hk1 x (by rw[hk];exact .head _))
    have e2:=ih y (by rw[hk];exact .tail _ (.head _)) hy (hk1 y (by rw[hk];exact .tail _ (.head _)));rw[AAF h7,pF h7,hk];simp only[CK,List.map_nil,e1,e2]
   .rw[AAE hop,pE hop]
    have hsl:=Q1 hlf
    have hva:DH os.length (args.getD f.arg.toNat (0,0))=true:=by
     have hl:f.arg.toNat<args.length:=by omega
     rw[Cq,Cd hl];exact hv _ (List.getElem_mem hl)
    rw[Zl,mdO,gp hw hos f _ 2 _ hpl hp hva];cases hu:cF w os f.path (args.getD f.arg.toNat (0,0))with
    | none=>rfl
    | some u=>exact j4 hw hos _ (Yh hos hp hva hu) fun h=>(hcl h).1
def Pd (w:AF):Nat->Er->Er->Prop
 | _,.int n,.int m=>n=m
 | _,.Gi,.Gi=>True
 | 0,.obj C _,.obj C' _=> ∀b,3<=b->b<3+w.parents.length->C b=C' b
 | d+1,.obj C kid,.obj C' kid'=>(∀b,3<=b->b<3+w.parents.length->C b=C' b)/\ ∀s:Int,0<=s->s<(w.owner.length:Int)->C (BG w s).toNat=true->Pd w d (kid s) (kid' s)
 | _,_,_=>False
def nt {w:AF} {d:Nat} {C C':Nat->Bool} {kid kid':Int->Er} (h:Pd w d (.obj C kid) (.obj C' kid')): ∀b,3<=b->b<3+w.parents.length->C b=C' b:=by
 cases d with
 | zero=>exact h
 | succ d=>exact h.1
def kK {w:AF} {d:Nat} {t t':Er} (h:Pd w d t t') {f:Fact} (hc:f.op=2->0<=f.cls/\f.cls<3+(w.parents.length:Int)):Cg t f=Cg t' f:=by
 cases t<;>cases t'<;>first|(cases d<;>exact h.elim)|skip
 .have:_=_:=(by cases d<;>exact h:(_:Int)=_)
  rw[this]
 .rfl
 .have hb:=nt h
  simp only[Cg];by_cases h2:f.op=2
  .have hr:=hc h2
   by_cases h3:3<=f.cls
   .rw[hb _ (by omega) (by omega)]
   .rw[decide_eq_false h3,Bool.false_and,Bool.false_and]
  .rw[beq_eq_false_iff_ne.2 h2,Bool.false_and,Bool.false_and]
def Z5 {w w':AF} (hw:Fu w) (ho:w'.owner=w.owner) {f:Fact} (hc:f.op=2->0<=f.cls/\f.cls<3+(w.parents.length:Int)): ∀(q:List Int) (d:Nat) (t t':Er),q.length<=d->(∀s∈q,0<=s/\s<(w.owner.length:Int))->Pd w d t t'->Ir w t q f=Ir w' t' q f
 | [],d,t,t',_,_,h=>by rw[Uf,Uf];exact kK h hc
 | s::r,0,t,t',hl,_,_=>by simp at hl
 | s::r,d+1,t,t',hl,hq,h=>by
   have hs:=hq s (.head _);have hso:=Fh hw hs;have eo:BG w' s=BG w s:=by rw[BG,BG,ho]
   cases t<;>cases t'<;>first|exact h.elim|rfl|skip
   obtain⟨h1,h2⟩:=h;rw[Ir,Ir,eo,h1 _ (by omega) (by omega)];rename_i C kid C' kid';cases hC:C' (BG w s).toNat
   .rfl
   .rw[Z5 hw ho hc r d _ _ (by simpa using hl) (fun x hx=>hq x (.tail _ hx)) (h2 s hs.1 hs.2 (by rw[h1 _ (by omega) (by omega)];exact hC))]
def sj {w w':AF} (hw:Fu w) (ho:w'.owner=w.owner) {M M':Int->Er} (h: ∀a,0<=a->a<3->Pd w 2 (M a) (M' a)) (f:Fact):Ae w f=true->LD w M f=LD w' M' f:=by
 induction f using Fact.ind with
 | h f ih=>
   intro hn;rw[Iw,Iw,VB,VB];have hpl:=Su hn
   have har:0<=f.arg/\f.arg<3:=by
    have h':=hn;rw[BS]at h';simp only[CE,A4,B7]at h';exact⟨h'.1.2.2.1,h'.1.2.2.2.1⟩
   rcases Lu hn with h1|⟨h5,x,hk,hx⟩|⟨h6,x,y,hk,hx,hy⟩|⟨h7,x,y,hk,hx,hy⟩|⟨hop,hlf,hp,hcl,ha0⟩
   .rw[if_pos h1,if_pos h1]
   .have e1:=ih x (by rw[hk];exact .head _) hx
    rw[if_neg (by omega),if_pos h5,if_neg (by omega),if_pos h5,hk];simp only[CK,List.map_nil,e1]
   .have e1:=ih x (by rw[hk];exact .head _) hx
    have e2:=ih y (by rw[hk];exact .tail _ (.head _)) hy;rw[if_neg (by omega),if_neg (by omega),if_pos h6,if_neg (by omega),if_neg (by omega),if_pos h6,hk];simp only[CK,List.map_nil,e1,e2]
   .have e1:=ih x (by rw[hk];exact .head _) hx
    have e2:=ih y (by rw[hk];exact .tail _ (.head _)) hy;rw[if_neg (by omega),if_neg (by omega),if_neg (by omega),if_pos h7,if_neg (by omega),if_neg (by omega),if_neg (by omega),if_pos h7,hk];simp only[CK,List.map_nil,e1,e2]
   .rw[if_neg (by omega),if_neg (by omega),if_neg (by omega),if_neg (by omega),if_neg (by omega),if_neg (by omega),if_neg (by omega),if_neg (by omega)]
    exact Z5 hw ho hcl f.path 2 _ _ hpl hp (h f.arg har.1 har.2)
def C4 (w:AF) (more:List Nat):AF:=⟨w.parents++more.map fun m=>(Aw (3+w.parents.length)).filter fun c=>decide (3<=c)&&m.testBit c.toNat,w.owner⟩
def bn {w:AF} {more:List Nat} {c:Nat} (h:c<3+w.parents.length):par (C4 w more).parents c=par w.parents c:=by
 unfold par;split
 .rfl
 .rw[Cq,Cq]
  show(((w.parents++_)[c - 3]?).getD [])=_;rw[X1 (by omega)]
def bo {w:AF} {more:List Nat} {i m:Nat} (h:more[i]? =some m):par (C4 w more).parents (3+w.parents.length+i)=(Aw (3+w.parents.length)).filter fun c=>decide (3<=c)&&m.testBit c.toNat:=by
 unfold par;rw[if_neg (by omega),Cq];show(((w.parents++_)[_]?).getD [])=_;rw[List.getElem?_append_right (by omega),show 3+w.parents.length+i - 3 - w.parents.length=i by omega,LY,h];rfl
def Mf {w:AF} (ho:ordered w.parents) (more:List Nat):ordered (C4 w more).parents:=fun c p hp=>by
 rcases Nat.lt_or_ge c (3+w.parents.length)with h|h
 .rw[bn h]at hp
  exact ho c p hp
 .cases hm:more[c - 3 - w.parents.length]? with
  | none=>
    exfalso;unfold par at hp;rw[if_neg (by omega),Cq]at hp;change p∈(((w.parents++_)[c - 3]?).getD [])at hp;rw[List.getElem?_append_right (by omega),LY,hm]at hp;cases hp
  | some m=>
    have e:c=3+w.parents.length+(c - 3 - w.parents.length):=by omega
    rw[e,bo hm,HD,BW]at hp;obtain⟨h1,h2⟩:=hp;simp only[A4,B7]at h2;omega
def jO {w:AF} (ho:ordered w.parents) (more:List Nat) (b:Nat): ∀c,c<3+w.parents.length->FQ (C4 w more).parents c b=FQ w.parents c b:=by
 intro c
 induction c using Nat.strongRecOn with
 | _ c ih=>
   intro hc;rw[DM (Mf ho more),DM ho,bn hc];congr 1;rw[Hl,GY,GY];constructor
   .rintro⟨p,hp,h⟩
    have:=ho c p hp;exact⟨p,hp,by rw[<-ih p.toNat (by omega) (by omega)];exact h⟩
   .rintro⟨p,hp,h⟩
    have:=ho c p hp;exact⟨p,hp,by rw[ih p.toNat (by omega) (by omega)];exact h⟩
def bq {w:AF} (ho:ordered w.parents) {more:List Nat} {i m:Nat} (h:more[i]? =some m) (hC: ∀c,3<=c->m.testBit c=true-> ∀q∈par w.parents c,m.testBit q.toNat=true) {b:Nat} (hb3:3<=b) (hb:b<3+w.parents.length):FQ (C4 w more).parents (3+w.parents.length+i) b=m.testBit b:=by
 rw[DM (Mf ho more),bo h,Hl];simp only[EW,CF,GY,HD,BW,A4,B7];constructor
 .rintro(e|⟨p,⟨hp,hp3,hpm⟩,hu⟩)
  .omega
  .rw[jO ho more b p.toNat (by omega)]at hu
   exact OA ho (C:=fun c=>m.testBit c) hC p.toNat b (by omega) hpm hu
 .intro hm
  refine .inr ⟨(b:Int),⟨by omega,by omega,by simpa using hm⟩,?_⟩;rw[GR,Cl (Mf ho more)]
end Go.Gl
