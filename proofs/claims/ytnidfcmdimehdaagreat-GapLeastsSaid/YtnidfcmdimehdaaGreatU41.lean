import Derived.Test.YtnidfcmdimehdaaGreatU14
import Derived.Test.YtnidfcmdimehdaaGreatU15
import Derived.Test.YtnidfcmdimehdaaGreatU18
import Derived.Test.YtnidfcmdimehdaaGreatU21
import Derived.Test.YtnidfcmdimehdaaGreatU23
import Derived.Test.YtnidfcmdimehdaaGreatU25
import Derived.Test.YtnidfcmdimehdaaGreatU32
import Derived.Test.YtnidfcmdimehdaaGreatU33
import Derived.Test.YtnidfcmdimehdaaGreatU35
import Derived.Test.YtnidfcmdimehdaaGreatU36
import Derived.Test.YtnidfcmdimehdaaGreatU40
set_option linter.all false
set_option linter.defProp false
set_option maxHeartbeats 8000000
noncomputable section
namespace Go.Gl
open Go.Proofs
attribute [local irreducible] As Af AV AQ AI AU AP AR AJ AT AM AN Ag Ar Sat AS Ap AX W
attribute [local irreducible] Fz
def xx (f:Fact):Pure zP 73 [.a (xF f)] (.a (xF (Ca f))):=by
 refine y5 kZ ?_;have hs:=Sn
 conv=>whnf
 repeat'((first|clear U K|apply st|(apply zk;intro K U)|refine zY ?_|refine zs fun Z hs=>?_|refine zo fun nn hnn Z hs=>?_|fail)<;>conv=>whnf)
 refine AY (.a (.cons (.refl _) (.cons (.refl _) (.cons BS (.cons (.refl _) (.cons (.refl _) (.cons ?_ .nil)))))));refine .l (fun h=>by cases h) ?_;simp only[Ca,Fact.kids,List.map,A9];exact CU _
def qh (op:Int): ∀(l:List Fact),l.length<=100-> ∀b,Pure zP 75 [eI op,.l (facts l) b] (.a (xF (lO op l)))
 | [],_,b=>by
   have h0: ¬((([]:List Fact).length:Nat):Int)≠0:=fun h=>h rfl
   refine fN kZ ?_;have hs:=Sn
   conv=>whnf
   repeat'((first|clear U K|apply st|(apply zk;intro K U)|refine zY ?_|refine zs fun Z hs=>?_|(refine zb (fun hc=>?_) (fun hc=>?_)<;>try exact⟨⟩)|refine zo fun nn hnn Z hs=>?_|fail)<;>conv=>whnf)
   all_goals try exact absurd ‹_≠_› h0
   all_goals try(exfalso;simp at hc;done)
   all_goals try(exfalso;rename_i h;simp at h;done)
   all_goals try(exfalso;rename_i h _ _ _ _ _ _;simp at h;done)
   all_goals try(exfalso;simp at hx;done)
   all_goals try(exfalso;simp at hc;omega)
   all_goals try exact AF rfl
   all_goals
    refine AY (.a (.cons (.refl _) (.cons (.refl _) (.cons BS (.cons (.refl _) (.cons (.refl _) (.cons ?_ .nil)))))));refine .l (fun h=>by cases h) ?_;simp only[lO,Fact.kids,List.map,A9];exact CU _
 | [x],_,b=>by
   have hx0: [x][Int.toNat 0]? =some x:=rfl;refine fN kZ ?_;have hs:=Sn
   conv=>whnf
   repeat'((first|clear U K|apply st|(apply zk;intro K U)|refine zY ?_|refine zs fun Z hs=>?_|refine sl1 fun b=>?_|(refine zd (fun hc=>?_) (fun hc=>?_)<;>try exact⟨⟩)|refine zo fun nn hnn Z hs=>?_|fail)<;>conv=>whnf)
   all_goals try(exfalso;simp at hc;done)
   all_goals try(exfalso;rename_i h;simp at h;done)
   all_goals try(exfalso;rename_i h _ _ _ _ _ _;simp at h;done)
   all_goals try(exfalso;simp at hx;done)
   all_goals try(exfalso;simp at hc;omega)
   all_goals try exact AF rfl
   all_goals
    refine AY (.a (.cons (.refl _) (.cons (.refl _) (.cons BS (.cons (.refl _) (.cons (.refl _) (.cons ?_ .nil)))))));refine .l (fun h=>by cases h) ?_;simp only[lO,Fact.kids,List.map,A9];exact CU _
 | x ::y::r,hl,b=>by
   have hx0:(x::y::r)[Int.toNat 0]? =some x:=rfl;have c1:=qh op (y::r) (by simp at hl ⊢;omega);refine fN kZ ?_;have hs:=Sn
   conv=>whnf
   repeat'((first|clear U K|apply st|(apply zk;intro K U)|refine zY ?_|refine rk ?_ ?_|exact fun s e=>by cases e;rfl|refine zs fun Z hs=>?_|refine Pure.use (c1 _) ?_|refine sl1 fun b=>?_|(refine zd (fun hc=>?_) (fun hc=>?_)<;>try exact⟨⟩)|refine zo fun nn hnn Z hs=>?_|fail)<;>conv=>whnf)
   all_goals try(exfalso;simp at hc;done)
   all_goals try(exfalso;rename_i h;simp at h;done)
   all_goals try(exfalso;rename_i h _ _ _ _ _ _;simp at h;done)
   all_goals try(exfalso;simp at hx;done)
   all_goals try(exfalso;simp at hc;omega)
   all_goals try exact AF rfl
   all_goals
    refine AY (.a (.cons (.refl _) (.cons (.refl _) (.cons BS (.cons (.refl _) (.cons (.refl _) (.cons ?_ .nil)))))));refine .l (fun h=>by cases h) ?_;simp only[lO,Fact.kids,List.map,A9];exact CU _
def T5 (f:Fact):B2 f.op<=2:=by
 unfold B2
 repeat' split
 all_goals omega
def oN (f:Fact):arity f=true->Pure zP 117 [.a (xF f)] (.a (xF f)):=by
 induction f using Fact.ind with
 | h f ih=>
   intro har;rw[FU,A7,Cd,DT]at har;have hk2:=T5 f;have hM:=Mx;have c1:=Qh f.path false;refine wU kZ ?_;have hs:=Sn
   conv=>whnf
   repeat'((first|clear U K|apply st|(apply zk;intro K U)|refine zY ?_|refine zs fun Z hs=>?_|refine zC ?_|refine zo fun nn hnn Z hs=>?_|fail)<;>conv=>whnf)
   rename_i n2 _ _ _ _ _ _ _ _ _;refine Ba f.kids.length (fun k (_:V)=>[(15,eI (Au k))]) (fun k v=>[.box nn [eI f.op,eI f.arg,.l (iL f.path) false,eI f.cls,eI f.n,v],.box n2 [.i .i64 0,.i .i64 0,.l [] true,.i .i64 0,.i .i64 0,.l [] true],.own v 6 (facts (f.kids.take k))]) (fun _ _=>True) (.l [] true) rfl trivial (Ce hs 6) ?_;clear hs;rintro k v Z hk - hs;rcases Aw f.kids hk with⟨x,hx,hlt⟩|hke
   .have hck:Au k=k:=AW (by omega)
    have hst:=AO hx;have c2:=ih x (BY hx) (har.2 x (BY hx));have hzl:(f.kids.take k).length<=2:=by rw[Ib];omega
    generalize f.kids.take k=zl at *;have hll:zl.length<AZ/\(zl.length+1)*80<=140737488355328:=by omega
    conv=>whnf
    repeat'((first|clear U K|apply st|(apply zk;intro K U)|refine zY ?_|refine rk ?_ ?_|exact fun s e=>by cases e;rfl|refine zs fun Z hs=>?_|refine oz fun v Z hs hsl=>?_|refine zC ?_|refine zo fun nn hnn Z hs=>?_|fail)<;>conv=>whnf)
    exact⟨hlt,_,rfl,trivial,by rw[hst];exact hs.less (HU _ _)⟩
   .rw[Ak hke]at hs
    refine zz ?_;(repeat clear U K);repeat intro K U
    have o1:=F8 hs 2 rfl;refine FN hs 1 rfl rfl rfl (by simp[o1]) (by decide) fun Z hs=>?_
    clear o1;refine zz ?_;(repeat clear U K);repeat intro K U
    exact AY (.a (.cons (.refl _) (.cons (.refl _) (.cons (.refl _) (.cons (.refl _) (.cons (.refl _) (.cons (hs.Ic 2 rfl) .nil)))))))
def fh (p:Prog) (gen:Int) (x:Fact) (h:(BQ p).isSome=true):Pure zP 74 [.a (On p gen),.a (xF x)] (.t [.a (xF (if Bv (AG p) x then x else Js)),eI (if Bv (AG p) x then 0 else 3)]):=by
 have c1:=PR p;rw[h,if_pos rfl]at c1;have c2:=RM (Jr h) x;cases h4:Bv (AG p) x<;>rw[h4]at c2
 .rw[if_neg (by decide)]at c2
  refine pg kZ ?_;have hs:=Sn
  conv=>whnf
  repeat'((first|clear U K|apply st|(apply zk;intro K U)|refine zY ?_|refine zs fun Z hs=>?_|refine zC ?_|(refine zb (fun hc=>?_) (fun hc=>?_)<;>try exact⟨⟩)|refine zo fun nn hnn Z hs=>?_|fail)<;>conv=>whnf)
  all_goals exact AY (.t (.cons Hi (.cons (.refl _) .nil)))
 .rw[if_pos rfl]at c2
  have hn:=h4;simp only[Bv,A7]at hn;have c3:=oN x (Am x hn.2.2);refine pg kZ ?_;have hs:=Sn;exact zW
def dZ (p:Prog) (gen:Int) (l:List Int) (f:Bool):Pure zP 71 [.a (On p gen),.rp [.l (iL l) f]] (.b (G5 p gen l)):=by
 have c1:=xn p gen l f;refine y7 kZ ?_;have hs:=Sn;exact zW
def AAD (p:Prog) (gen:Int) (l:List Int) (f:Bool):Pure zP 26 [.a (A3 p),eI gen,.l (iL l) f] (.t [.a (xF (Ze p gen l).1),eI (Ze p gen l).2]):=by
 refine Pure.fit (by kernel_rfl) fun hf=>?_
 have hP:=H6 hf.1;have⟨p1,p2,p3,p4⟩:=F0 hf.1;have hlM:=Nc hf.2.2.1;have hM:=Mx;have c1:=Jy p gen 71 [.rp [.l (iL l) f]] (G5 p gen l) fun _=>dZ p gen l f
 rw[Ze];cases h1:B9 p gen
 .rw[(DA h1 _).1,(DA h1 _).2]at c1
  rw[if_neg (by decide)];refine ZY kZ ?_;have hs:=Sn
  conv=>whnf
  repeat'((first|clear U K|apply st|(apply zk;intro K U)|refine zY ?_|refine zs fun Z hs=>?_|refine zC ?_|(refine zb (fun hc=>?_) (fun hc=>?_)<;>try exact⟨⟩)|refine zo fun nn hnn Z hs=>?_|fail)<;>conv=>whnf)
  all_goals exact AY (.t (.cons Hi (.cons (.refl _) .nil)))
 rw[if_pos rfl];cases h2:G5 p gen l<;>rw[h2]at c1
 .rw[HA.1,HA.2]at c1
  rw[if_neg (by decide)];refine ZY kZ ?_;have hs:=Sn
  conv=>whnf
  repeat'((first|clear U K|apply st|(apply zk;intro K U)|refine zY ?_|refine zs fun Z hs=>?_|refine zC ?_|(refine zb (fun hc=>?_) (fun hc=>?_)<;>try exact⟨⟩)|refine zo fun nn hnn Z hs=>?_|fail)<;>conv=>whnf)
  all_goals exact AY (.t (.cons Hi (.cons (.refl _) .nil)))
 rw[(C6 h1).1,(C6 h1).2]at c1;rw[if_pos rfl];by_cases h3:(Bo p gen).length<=8
 .rw [if_pos h3]at c1 ⊢
  rw[B9,A7]at h1;have h16:=(look_ok h1.1).many;have c4:=fh p gen (K9 p gen l) h1.1;have c3:=qh 6 ((Bo p gen).map (Tr p l)) (by rw[Bh];omega);rw[<-K9]at c3;have hmm:=gM (p:=p) (gen:=gen);have hv:(if Bv (AG p) (K9 p gen l)then(K9 p gen l,(0:Int))else(Js,3))=(if Bv (AG p) (K9 p gen l)then K9 p gen l else Js,if Bv (AG p) (K9 p gen l)then 0 else 3):=by split<;>rfl
  rw[hv];clear h1 h2 hv;generalize K9 p gen l=xs at *;refine ZY kZ ?_;have hs:=Sn
  conv=>whnf
  repeat'((first|apply st|(refine dz ?_;intro K U)|(apply si;intro A B hA hB)|(refine hA _ _ ?_;clear hB B hA A)|(apply U;clear U K)|refine⟨rfl,?_⟩|refine⟨kZ,?_⟩|refine ld ?_|refine ZL fun Z hs=>?_|refine c1.use ?_|refine qS ?_|(constructor<;>intro hc<;>(try rw[hc])<;>(replace hc:=bp hc)<;>(try simp(disch:=omega) only[Bh,wrap64,AW]at hc)<;>try(exfalso;omega))|(intro nn hnn;generalize hg:Bz _ nn _=Z;refine bT hg fun hs=>?_;clear hg)|fail)<;>conv=>whnf)
  rename_i n6 _ _ _ _ _;refine Ba (Bo p gen).length (fun k v=>[(10,v),(28,eI (Au k))]) (fun k v=>[.box nn (On p gen),.box n6 [.i .i64 0,.i .i64 0,.l [] true,.i .i64 0,.i .i64 0,.l [] true],.own v 6 (facts (((Bo p gen).take k).map (Tr p l)))]) (fun _ _=>True) (.l [] true) rfl trivial (Ce hs 6) ?_;clear hs;rintro k v Z hk - hs;rcases Aw (Bo p gen) hk with⟨x,hx,hlt⟩|hke
  .have hck:Au k=k:=AW (by omega)
   have hst:((Bo p gen).take (k+1)).map (Tr p l)=((Bo p gen).take k).map (Tr p l)++[Tr p l x]:=by rw[AO hx,ND];rfl
   have hmx:=hmm x (BY hx);have hxP:=Br hmx;have hxr:=hmx;simp only[BG,A7,CF]at hxr;have c2:=xx (BK p x).fact;have c5:=CP l f x;have hzl:(((Bo p gen).take k).map (Tr p l)).length<=8:=by rw[Bh,Ib];omega
   generalize ((Bo p gen).take k).map (Tr p l)=zl at *;have hll:zl.length<AZ/\(zl.length+1)*80<=140737488355328:=by omega
   rw[Tr]at hst;generalize BK p x=mx at *;cases hct:l.contains x<;>rw[hct]at c5 hst
   .rw[if_neg (by decide)]at hst
    conv=>whnf
    repeat'((first|clear U K|apply st|(apply zk;intro K U)|refine zY ?_|refine zs fun Z hs=>?_|refine oz fun v Z hs hsl=>?_|refine zC ?_|refine zo fun nn hnn Z hs=>?_|fail)<;>conv=>whnf)
    exact⟨hlt,_,rfl,trivial,by rw[hst];exact hs.less (HU _ _)⟩
   .rw[if_pos rfl]at hst
    conv=>whnf
    repeat'((first|clear U K|apply st|(apply zk;intro K U)|refine zY ?_|refine zs fun Z hs=>?_|refine oz fun v Z hs hsl=>?_|refine zC ?_|refine zo fun nn hnn Z hs=>?_|fail)<;>conv=>whnf)
    exact⟨hlt,_,rfl,trivial,by rw[hst];exact hs.less (HU _ _)⟩
  .rw[Ak hke]at hs
   conv=>whnf
   repeat'((first|(refine dz ?_;intro K U)|(apply si;intro A B hA hB)|(refine hA _ _ ?_;clear hB B hA A)|(apply U;clear U K)|refine⟨rfl,?_⟩|fail)<;>conv=>whnf)
   refine qS ?_
   conv=>whnf
   repeat'((first|apply st|(refine dz ?_;intro K U)|(apply U;clear U K)|(refine qT (fun hc=>?_)<;>(try rw[hc])<;>clear hc)|clear U K)<;>conv=>whnf)
   refine fI hs 2 rfl (fun Z2 h=> .cons (.refl _) (.cons (.refl _) (.cons h .nil))) fun Z hs=>?_
   conv=>whnf
   repeat'((first|clear U K|apply st|(apply zk;intro K U)|refine zY ?_|refine rk ?_ ?_|exact fun s e=>by cases e;rfl|refine zs fun Z hs=>?_|refine Pure.use (c3 _) ?_|refine c4.use ?_|fail)<;>conv=>whnf)
   all_goals exact AF rfl
 .rw[if_neg h3]at c1 ⊢
  refine ZY kZ ?_;have hs:=Sn
  conv=>whnf
  repeat'((first|clear U K|apply st|(apply zk;intro K U)|refine zY ?_|refine zs fun Z hs=>?_|refine zC ?_|(refine zb (fun hc=>?_) (fun hc=>?_)<;>try exact⟨⟩)|refine zo fun nn hnn Z hs=>?_|fail)<;>conv=>whnf)
  all_goals exact AY (.t (.cons Hi (.cons (.refl _) .nil)))
end Go.Gl
namespace Go.Gl
open Go.Proofs
def XS {b sz:Nat} {Z:AD} {ys:List (List V)} {f:Bool} {K:V->AD->Prop} (h:AI b Z sz (.l [] true) (.l ys f) fun v' Z'=>(ys≠[]->(Bd v').isSome=true)->K v' Z'):AI b Z sz (.l [] true) (.l ys f) K:=by
 obtain⟨h1,h2,h3⟩:=h;exact⟨h1,h2,h3.1,h3.2.1,fun e=>h3.2.2.1 e fun hn=>absurd e hn,fun e=>⟨(h3.2.2.2 e).1,fun n cap hn hc=>(h3.2.2.2 e).2 n cap hn hc fun _=>rfl⟩⟩
attribute [local irreducible] As Af AV AQ AI AU AP AR AJ AT AM AN Ag Ar Sat AS Ap AX W
def wk (f:Fact) (l:List Fact):Fact:= .mk f.op f.arg f.path f.cls f.n l
def bQ:List Fact->List (Int->Fact×Int)->Int->List Fact×Int
 | k::ks,g::gs,n=>if 0<=n then((g n).1::(bQ ks gs (g n).2).1,(bQ ks gs (g n).2).2)else(k::ks,n)
 | ks,_,n=>(ks,n)
def ptG (x:Fact) (f:Fact) (l:List (Int->Fact×Int)) (n:Int):Fact×Int:=if n=0 then(x,-1)else(wk f (bQ f.kids l (n - 1)).1,(bQ f.kids l (n - 1)).2)
def Xi (x f:Fact):Int->Fact×Int:=f.Fv (ptG x)
def fj (x f:Fact) (n:Int):Xi x f n=if n=0 then(x,-1)else(wk f (bQ f.kids (f.kids.map (Xi x)) (n - 1)).1,(bQ f.kids (f.kids.map (Xi x)) (n - 1)).2):=congrFun (Fact.CT (ptG x) f) n
end Go.Gl
namespace Go.Gl
open Go.Proofs
attribute [local irreducible] As Af AV AQ AI AU AP AR AJ AT AM AN Ag Ar Sat AS Ap AX W
def wm (a:List Fact) (f:Bool) (hl:a.length<=1000000):BL zP 254 [.l (facts a) f] [] fun r post=> ∃v,r= .ret v/\post= [.own v 6 (facts a)]/\(a≠[]->(Bd v).isSome=true):=by
 intro Z hs;have hM:=Mx;refine uI kZ ?_
 conv=>whnf
 repeat'((first|(apply sq;intro K U)|(apply si;intro A B hA hB)|(refine hA _ _ ?_;clear hB B hA A)|(apply U;clear U K)|fail)<;>conv=>whnf)
 refine⟨fun e t=>?_,fun _=>?_⟩
 .have hxe:a= []:=List.map_eq_nil_iff.1 e
  subst hxe
  conv=>whnf
  repeat'((first|apply st|(apply sq;intro K U)|(apply si;intro A B hA hB)|(refine hA _ _ ?_;clear hB B hA A)|(apply U;clear U K)|(constructor<;>intro hc<;>(try rw[hc])<;>(replace hc:=bp hc))|clear U K)<;>conv=>whnf)
  .exact AH ⟨_,⟨_,rfl,rfl,fun h=>absurd rfl h⟩,CM hs 6⟩
  .replace hs:=CM hs 6
   refine EH hs 0 (xs:=[]) (ys:=[]) rfl (by simp) GD fun v Z hs=>?_
   conv=>whnf
   repeat'((first|apply st|(refine hA _ _ ?_;clear hB B hA A)|(apply U;clear U K)|fail)<;>conv=>whnf)
   exact AH ⟨_,⟨_,rfl,rfl,fun h=>absurd rfl h⟩,hs⟩
 .conv=>whnf
  repeat'((first|apply st|(apply sq;intro K U)|(apply si;intro A B hA hB)|(refine hA _ _ ?_;clear hB B hA A)|(apply U;clear U K)|fail)<;>conv=>whnf)
  replace hs:=CM hs 6;refine XS (EH hs 0 (xs:=[]) (ys:=a) rfl (by simp;omega) GD fun v Z hs hv=>?_)
  conv=>whnf
  repeat'((first|apply st|(refine hA _ _ ?_;clear hB B hA A)|(apply U;clear U K)|fail)<;>conv=>whnf)
  exact AH ⟨_,⟨_,rfl,rfl,fun h=>hv fun e=>h (List.map_eq_nil_iff.1 e)⟩,hs⟩
def dn:List Fact->List (Int->Fact)->Int->Int->List Fact
 | k::ks,g::gs,n,m=>g (n - m)::dn ks gs n (m+CA k)
 | _,_,_,_=>[]
def mP (gs:List (Int->Fact)) (n m:Int):dn [] gs n m= []:=by cases gs<;>rfl
def sbG (y:Fact) (f:Fact) (l:List (Int->Fact)) (n:Int):Fact:=if n=0 then y else wk f (dn f.kids l n 1)
def Lv (y f:Fact):Int->Fact:=f.Fv (sbG y)
def LU (y f:Fact) (n:Int):Lv y f n=if n=0 then y else wk f (dn f.kids (f.kids.map (Lv y)) n 1):=congrFun (Fact.CT (sbG y) f) n
def a8 {f:Fact} (har:f.kids.length<=2): ∀k,1+((f.kids.take k).map CA).sum<=CA f:=fun k=>by
 rw[ET];have:((f.kids.take k).map CA).sum+((f.kids.drop k).map CA).sum=(f.kids.map CA).sum:=by rw[<-List.sum_append,<-ND,List.take_append_drop]
 omega
def putP (y f:Fact):arity f=true->CA f<=1000-> ∀n:Int,(CA f:Int) - 3000<=n->n<=1000->Pure zP 208 [.a (xF f),eI n,.a (xF y)] (.t [.a (xF (Lv y f n)),eI (CA f)]):=by
 induction f using Fact.ind with
 | h f ih=>
   intro har hcn;rw[FU,A7,Cd,DT]at har;have hk2:=T5 f;have hM:=Mx
   have main: ∀n:Int,n≠0->(CA f:Int) - 3000<=n->n<=1000->Pure zP 208 [.a (xF f),eI n,.a (xF y)] (.t [.a (xF (Lv y f n)),eI (CA f)]):=by
    intro n hz h0 hn;rw[LU,if_neg hz];refine gb kZ ?_;have hs:=Sn
    conv=>whnf
    repeat'((first|apply st|(apply sq;intro K U)|(apply si;intro A B hA hB)|(refine hA _ _ ?_;clear hB B hA A)|(apply U;clear U K)|refine⟨rfl,?_⟩|refine ld ?_|(constructor<;>intro hc<;>(try rw[hc])<;>(replace hc:=bp hc)<;>try(exfalso;omega))|(intro nn hnn;generalize hg:Bz _ nn _=Z;refine bT hg fun hs=>?_;clear hg)|fail)<;>conv=>whnf)
    rename_i n3 _ _ _;refine(wm f.kids false (by omega)).use (rest:=_) hs ?_;clear hs;rintro r post Z ⟨v,rfl,rfl,hvn⟩ hs;replace hs:=Sat.front (j:=2) (hs.perm NF) rfl
    conv=>whnf
    repeat'((first|apply st|(apply sq;intro K U)|(apply si;intro A B hA hB)|(refine hA _ _ ?_;clear hB B hA A)|(apply U;clear U K)|refine lo ?_|refine ld ?_|refine xO fun Z hs=>?_|fail)<;>conv=>whnf)
    refine Ba f.kids.length (fun k (x:List Fact×Int)=>[(10,eI x.2),(32,eI (Au k))]) (fun k x=>[.own v 6 (facts (x.1++f.kids.drop k)),.box nn [.i .i64 0,.i .i64 0,.l [] true,.i .i64 0,.i .i64 0,.l [] true],.box n3 [eI f.op,eI f.arg,.l (iL f.path) false,eI f.cls,eI f.n,v]]) (fun k x=>x.1.length=k/\x.2=1+(((f.kids.take k).map CA).sum:Nat)/\dn f.kids (f.kids.map (Lv y)) n 1=x.1++dn (f.kids.drop k) ((f.kids.drop k).map (Lv y)) n x.2) ([],1) rfl ⟨rfl,rfl,rfl⟩ hs ?_;clear hs;rintro k ⟨zs,m⟩ Z hk ⟨hzl,hm,hn1⟩ hs;dsimp only at hzl hm hn1 hs;dsimp only;have hck:Au k=k:=AW (by omega);have hsum:=a8 (f:=f) (by omega) k;rcases Aw f.kids hk with⟨x,hx,hlt⟩|hke
    .have hsum2:=a8 (f:=f) (by omega) (k+1)
     have hm2:(1:Int)+(((f.kids.take (k+1)).map CA).sum:Nat)=m+CA x:=by
      rw[AO hx,ND,List.sum_append,hm];simp;omega
     rw[drop_cons hx,Cn,dn]at hn1;have hcx:CA x<=CA f:=by omega
     have hwn:IntKind.i64.wrap (n - m)=n - m:=wrap64 (by omega) (by omega);have hwm:IntKind.i64.wrap (m+(CA x:Int))=m+CA x:=wrap64 (by omega) (by omega)
     have c1:Pure zP 208 [.a (xF x),eI (IntKind.i64.wrap (n - m)),.a (xF y)] (.t [.a (xF (Lv y x (n - m))),eI (CA x)]):=by
      rw[hwn];exact ih x (BY hx) (har.2 x (BY hx)) (by omega) (n - m) (by omega) (by omega)
     have hv:=hvn (by intro e;rw[e]at hlt;simp at hlt);have hct:(Au k).toNat=k:=by rw[hck];rfl
     have hyk:(zs++f.kids.drop k)[(Au k).toNat]? =some x:=by rw[hct,List.getElem?_append_right (by omega),hzl,Nat.sub_self,drop_cons hx];rfl
     have hwl:(zs++f.kids.drop k).length<=2:=by rw[Kt,lB];omega
     have hwk:(Au k).toNat<(zs++f.kids.drop k).length:=by rw[hct,Kt,lB];omega
     have hwt:(zs++f.kids.drop k).set (Au k).toNat (Lv y x (n - m))=(zs++[Lv y x (n - m)])++f.kids.drop (k+1):=by rw[hct,List.set_append_right _ _ (by omega),hzl,Nat.sub_self,drop_cons hx,NJ];rfl
     generalize zs++f.kids.drop k=ws at *;generalize hq:Lv y x (n - m)=q at *;clear hwn
     conv=>whnf
     repeat'((first|apply st|(apply sq;intro K U)|(apply si;intro A B hA hB)|(refine hA _ _ ?_;clear hB B hA A)|(apply U;clear U K)|refine⟨rfl,?_⟩|refine⟨kZ,?_⟩|refine ld ?_|refine ZL fun Z hs=>?_|refine oi ?_|refine xr ?_|(refine qU (fun hc=>?_)<;>(try rw[hc])<;>clear hc)|refine c1.use ?_|(intro nn hnn;generalize hg:Bz _ nn _=Z;refine bT hg fun hs=>?_;clear hg)|fail)<;>conv=>whnf)
     refine oset (enc:=EY) (xs:=ws) (y:=q) (fun Z hs=>?_) (he:=(A9 q).symm) (h1:=hwk)
     conv=>whnf
     repeat'((first|(apply si;intro A B hA hB)|(refine hA _ _ ?_;clear hB B hA A)|(apply U;clear U K)|refine⟨rfl,?_⟩|clear U K)<;>conv=>whnf)
     all_goals exact⟨hlt,(zs++[q],m+CA x),by rw[hwm];rfl,⟨by simp[hzl],hm2.symm,by rw[hn1,NJ];rfl⟩,by dsimp only;rw[<-hwt];exact hs.less ((HU _ _).trans (HU _ _))⟩
    .rw[Ad hke,List.map_nil,mP,EU]at hn1
     rw[Ad hke,EU]at hs
     have hmf:m=CA f:=by
      rw[hm,hke,List.take_of_length_le (G0 _),ET];omega
     conv=>whnf
     repeat'((first|apply st|(apply sq;intro K U)|(apply si;intro A B hA hB)|(refine hA _ _ ?_;clear hB B hA A)|(apply U;clear U K)|refine⟨rfl,?_⟩|refine⟨kZ,?_⟩|refine ld ?_|(refine qT (fun hc=>?_)<;>(try rw[hc])<;>clear hc)|clear U K)<;>conv=>whnf)
     have o1:=F8 hs 0 rfl;refine FN hs 1 rfl rfl rfl (by simp[o1]) (by decide) fun Z hs=>?_
     clear o1
     conv=>whnf
     repeat'((first|apply st|(refine hA _ _ ?_;clear hB B hA A)|(apply U;clear U K)|refine⟨kZ,?_⟩|refine ld ?_|fail)<;>conv=>whnf)
     rw[hn1,<-hmf];exact AY (.t (.cons (.a (.cons (.refl _) (.cons (.refl _) (.cons (.refl _) (.cons (.refl _) (.cons (.refl _) (.cons (hs.Ic 0 rfl) .nil))))))) (.cons (.refl _) .nil)))
   intro n h0 hn;by_cases hz:n=0
   .subst hz
    have c1:=main (-1) (by omega) (by omega) (by omega);rw[LU,if_pos rfl];refine gb kZ ?_;have hs:=Sn
    conv=>whnf
    repeat'((first|apply st|(apply sq;intro K U)|(apply si;intro A B hA hB)|(refine hA _ _ ?_;clear hB B hA A)|(apply U;clear U K)|refine⟨rfl,?_⟩|refine⟨kZ,?_⟩|refine ld ?_|refine ZL fun Z hs=>?_|refine c1.use ?_|(constructor<;>intro hc<;>(try rw[hc])<;>(replace hc:=bp hc)<;>(try simp(disch:=omega) only[Bh,wrap64,AW]at hc)<;>try(exfalso;omega))|(intro nn hnn;generalize hg:Bz _ nn _=Z;refine bT hg fun hs=>?_;clear hg)|clear U K)<;>conv=>whnf)
    all_goals exact AF rfl
   .exact main n hz h0 hn
end Go.Gl
namespace Go.Gl
def C8 (l:List Fact):Int:=((l.map CA).sum:Nat)
def FT:C8 []=0:=rfl
def DK (k:Fact) (l:List Fact):C8 (k::l)=CA k+C8 l:=by simp[C8]
def Ec (l:List Fact):0<=C8 l:=by unfold C8;omega
def D6 (f:Fact):(CA f:Int)=1+C8 f.kids:=by rw[ET];simp[C8]
def Zi (f:Fact):wk f f.kids=f:=by cases f;rfl
def Up (f:Fact):1<=CA f:=by rw[ET];omega
def UM {y:Fact}: ∀(l:List Fact) (n m:Int),(∀k∈l,∀j:Int,j<0\/(CA k:Int)<=j->Lv y k j=k)->n<m\/m+C8 l<=n->dn l (l.map (Lv y)) n m=l
 | [],n,m,_,_=>rfl
 | k::l,n,m,hk,h=>by
   rw[DK]at h;have:=Ec l;rw[Cn,dn,hk k (.head _) (n - m) (by omega),UM l n (m+CA k) (fun x hx=>hk x (.tail _ hx)) (by omega)]
def Tw {y:Fact} (f:Fact): ∀n:Int,n<0\/(CA f:Int)<=n->Lv y f n=f:=by
 induction f using Fact.ind with
 | h f ih=>
   intro n hn;have h1:=Up f;rw[D6]at hn;rw[LU,if_neg (by have:=Ec f.kids;omega),UM f.kids n 1 (fun k hk j hj=>ih k hk j hj) (by omega),Zi]
def place: ∀(l:List Fact) (j:Int),0<=j->j<C8 l-> ∃l1 k l2,l=l1++k::l2/\C8 l1<=j/\j<C8 l1+CA k
 | [],j,h0,h=>by rw[FT]at h;omega
 | k ::l,j,h0,h=>by
   by_cases hj:j<CA k
   .exact⟨[],k,l,rfl,by rw[FT];exact h0,by rw[FT];omega⟩
   .rw[DK]at h
    obtain⟨l1,x,l2,rfl,h1,h2⟩:=place l (j - CA k) (by omega) (by omega);exact⟨k::l1,x,l2,rfl,by rw[DK];omega,by rw[DK];omega⟩
def X6 {y:Fact} (k:Fact) (l2:List Fact): ∀(l1:List Fact) (n m:Int),m+C8 l1<=n->n<m+C8 l1+CA k->dn (l1++k::l2) ((l1++k::l2).map (Lv y)) n m=l1++Lv y k (n - m - C8 l1)::l2
 | [],n,m,h1,h2=>by
   rw[FT]at *;rw[List.nil_append,Cn,dn,UM l2 n (m+CA k) (fun x _=>Tw x) (by omega),Int.sub_zero];rfl
 | a::l1,n,m,h1,h2=>by
   rw[DK]at *;have:=Ec l1;rw[List.cons_append,Cn,dn,Tw a (n - m) (by omega),X6 k l2 l1 n (m+CA a) (by omega) (by omega),show n - (m+CA a) - C8 l1=n - m - (CA a+C8 l1) by omega];rfl
def cT (l:List Fact) (o:Fact):R0 (l.map GX) o (-1)=(o,-1):=by
 cases l with
 | nil=>rfl
 | cons k l=>rw[Cn,R0,if_neg (by decide)]
def WL: ∀(l:List Fact) (o:Fact) (j:Int),(∀k∈l,∀n:Int,(CA k:Int)<=n->(GX k n).2=n - CA k)->C8 l<=j->(R0 (l.map GX) o j).2=j - C8 l
 | [],o,j,_,_=>by rw[FT,Int.sub_zero];rfl
 | k::l,o,j,hk,h=>by
   rw[DK]at *;have:=Ec l;rw[Cn,R0,if_pos (by omega),hk k (.head _) j (by omega),WL l _ _ (fun x hx=>hk x (.tail _ hx)) (by omega)];omega
def mu (f:Fact): ∀n:Int,(CA f:Int)<=n->(GX f n).2=n - CA f:=by
 induction f using Fact.ind with
 | h f ih=>
   intro n hn;have h1:=Up f;rw[D6]at *;have:=Ec f.kids;rw[KM,if_neg (by omega),WL f.kids f (n - 1) ih (by omega)];omega
def UU (k:Fact) (l2:List Fact): ∀(l1:List Fact) (o:Fact) (j:Int),C8 l1<=j->(GX k (j - C8 l1)).2= -1->R0 ((l1++k::l2).map GX) o j=GX k (j - C8 l1)
 | [],o,j,h0,h=>by
   rw[FT]at *;rw[Int.sub_zero]at *;rw[List.nil_append,Cn,R0,if_pos h0,h,cT];exact Prod.ext rfl h.symm
 | a::l1,o,j,h0,h=>by
   rw[DK]at *;have:=Ec l1;rw[List.cons_append,Cn,R0,if_pos (by omega),mu a j (by omega),UU k l2 l1 _ (j - CA a) (by omega) (by rw[<-h];congr 2;omega)];congr 1;omega
def rn (f:Fact): ∀n:Int,0<=n->n<CA f->(GX f n).2= -1:=by
 induction f using Fact.ind with
 | h f ih=>
   intro n h0 hn;rw[D6]at hn;rw[KM];split
   .rfl
   .obtain⟨l1,k,l2,he,h1,h2⟩:=place f.kids (n - 1) (by omega) (by omega)
    have hk:=ih k (by rw[he];simp) (n - 1 - C8 l1) (by omega) (by omega);rw[he,UU k l2 l1 f (n - 1) h1 hk];exact hk
def jO {x:Fact} (l:List Fact):bQ l (l.map (Xi x)) (-1)=(l,-1):=by
 cases l with
 | nil=>rfl
 | cons k l=>rw[Cn,bQ,if_neg (by decide)]
def Zx {x:Fact}: ∀(l:List Fact) (j:Int),(∀k∈l,∀n:Int,(CA k:Int)<=n->Xi x k n=(k,n - CA k))->C8 l<=j->bQ l (l.map (Xi x)) j=(l,j - C8 l)
 | [],j,_,_=>by rw[FT,Int.sub_zero];rfl
 | k::l,j,hk,h=>by
   rw[DK]at *;have:=Ec l;rw[Cn,bQ,if_pos (by omega),hk k (.head _) j (by omega),Zx l _ (fun x hx=>hk x (.tail _ hx)) (by dsimp only;omega)];exact Prod.ext rfl (by dsimp only;omega)
def rX {x:Fact} (f:Fact): ∀n:Int,(CA f:Int)<=n->Xi x f n=(f,n - CA f):=by
 induction f using Fact.ind with
 | h f ih=>
   intro n hn;have h1:=Up f;rw[D6]at *;have:=Ec f.kids;rw[fj,if_neg (by omega),Zx f.kids (n - 1) ih (by omega)];exact Prod.ext (Zi f) (by dsimp only;omega)
def fk {x:Fact} (k:Fact) (l2:List Fact): ∀(l1:List Fact) (j:Int),C8 l1<=j->(Xi x k (j - C8 l1)).2= -1->bQ (l1++k::l2) ((l1++k::l2).map (Xi x)) j=(l1++(Xi x k (j - C8 l1)).1::l2,-1)
 | [],j,h0,h=>by
   rw[FT]at *;rw[Int.sub_zero]at *;rw[List.nil_append,Cn,bQ,if_pos h0,h,jO];rfl
 | a::l1,j,h0,h=>by
   rw[DK]at *;have:=Ec l1;have e:j - CA a - C8 l1=j - (CA a+C8 l1):=by omega
   rw[List.cons_append,Cn,bQ,if_pos (by omega),rX a j (by omega),fk k l2 l1 (j - CA a) (by omega) (by rw[e];exact h),e];rfl
def e9 {x:Fact} (f:Fact): ∀n:Int,0<=n->n<CA f->Xi x f n=(Lv x f n,-1):=by
 induction f using Fact.ind with
 | h f ih=>
   intro n h0 hn;rw[D6]at hn;rw[fj,LU];split
   .rfl
   .obtain⟨l1,k,l2,he,h1,h2⟩:=place f.kids (n - 1) (by omega) (by omega)
    have hk:=ih k (by rw[he];simp) (n - 1 - C8 l1) (by omega) (by omega);rw[he,fk k l2 l1 (n - 1) h1 (by rw[hk]),X6 k l2 l1 n 1 (by omega) (by omega),hk]
end Go.Gl
namespace Go.Gl
open Go.Proofs
attribute [local irreducible] As Af AV AQ AI AU AP AR AJ AT AM AN Ag Ar Sat AS Ap AX W
section
variable {S:Type}
def dx:List (S->Bool×S)->S->Bool×S
 | [],s=>(false,s)
 | g::r,s=>if(g s).1 then g s else dx r (g s).2
def vsG (stp:Fact->S->Bool×S) (f:Fact) (l:List (S->Bool×S)) (s:S):Bool×S:=if(stp f s).1 then stp f s else dx l (stp f s).2
def Rq (stp:Fact->S->Bool×S) (f:Fact):S->Bool×S:=f.Fv (vsG stp)
def X2 (stp:Fact->S->Bool×S) (f:Fact) (s:S):Rq stp f s=if(stp f s).1 then stp f s else dx (f.kids.map (Rq stp)) (stp f s).2:=congrFun (Fact.CT (vsG stp) f) s
def Vq (stp:Fact->S->Bool×S): ∀(xs:List Fact) (k:Nat) (s:S),dx (xs.map (Rq stp)) s=(decide ((Bc (Rq stp) xs k s).1≥0),(Bc (Rq stp) xs k s).2)
 | [],_,_=>rfl
 | y ::r,k,s=>by
   rw[Cn,dx,Bc];cases h:(Rq stp y s).1
   .rw[if_neg (by decide),if_neg (by decide)]
    exact Vq stp r (k+1) _
   .rw[if_pos rfl,if_pos rfl]
    dsimp only;rw[decide_eq_true (by omega),<-h]
end
abbrev SN:=Int×Fact
def xQ (C:Fact->Prop) (y:Fact) (s:SN):Prop:=C y/\ -1<=s.1/\s.1+(CA y:Int)<=900
def rG {stp:Fact->SN->Bool×SN} (h1: ∀y s,(stp y s).2.1=s.1+1) (f:Fact): ∀s,s.1<=(Rq stp f s).2.1/\(Rq stp f s).2.1<=s.1+CA f:=by
 induction f using Fact.ind with
 | h f ih=>
   intro s;rw[X2,ET];have h2:=h1 f s
   have hl: ∀(l:List Fact),(∀k∈l,k∈f.kids)-> ∀s:SN,s.1<=(dx (l.map (Rq stp)) s).2.1/\(dx (l.map (Rq stp)) s).2.1<=s.1+((l.map CA).sum:Nat):=fun l=>by
    induction l with
    | nil=>exact fun _ s=>⟨Int.le_refl _,by simp[dx]⟩
    | cons k r ih2=>
      intro hm s;have h3:=ih k (hm k (.head _)) s;rw[Cn,dx,Cn,List.sum_cons];split
      .exact⟨h3.1,by omega⟩
      .have h4:=ih2 (fun x hx=>hm x (.tail _ hx)) (Rq stp k s).2
       exact⟨by omega,by omega⟩
   split
   .exact⟨by omega,by omega⟩
   .have:=hl f.kids (fun _ h=>h) (stp f s).2
    exact⟨by omega,by omega⟩
def WJ {stp:Fact->SN->Bool×SN} (h1: ∀y s,(stp y s).2.1=s.1+1) {C:Fact->Prop}: ∀(l:List Fact) (s:SN),(∀k∈l,C k)-> -1<=s.1->s.1+((l.map CA).sum:Nat)<=900->Tc (Rq stp) (xQ C) l s
 | [],_,_,_,_=>trivial
 | k::r,s,hc,h0,hs=>by
   rw[Cn,List.sum_cons]at hs;have hb:=rG h1 k s;exact⟨⟨hc k (.head _),h0,by omega⟩,WJ h1 r _ (fun x hx=>hc x (.tail _ hx)) (by omega) (by omega)⟩
def Z6 {S:Type} {stp:Fact->S->Bool×S} {D:Fact->S->Prop} {l:List Fact}: ∀ {xs:List Fact} {s:S},Tc stp D xs s->(∀y∈xs,y∈l)->Tc stp (fun y s=>y∈l/\D y s) xs s
 | [],_,_,_=>trivial
 | y::r,_,h,hm=>⟨⟨hm y (.head _),h.1⟩,Z6 h.2 fun z hz=>hm z (.tail _ hz)⟩
def j8 {g:FuncId} {fi ca:List V} {H:SN->List At} {stp:Fact->SN->Bool×SN} {C:Fact->Prop} (h1: ∀y s,(stp y s).2.1=s.1+1) (hC: ∀y,C y->y.kids.length<=2/\ ∀k∈y.kids,C k)
    (hx:Cq zP (.f (.func g) fi ca) (fun y=> .a (xF y)) H stp (xQ C)) (f:Fact): ∀s,xQ C f s->BL zP 206 [.a (xF f),.f (.func g) fi ca] (H s) fun r post=>r= .ret (.b (Rq stp f s).1)/\post=H (Rq stp f s).2:=by
 induction f using Fact.ind with
 | h f ih=>
   intro s ⟨hc,hs0,hs9⟩ Z hs;have hM:=Mx;obtain⟨hk2,hkc⟩:=hC f hc;have hst: ∀k∈f.kids,True:=fun _ _=>trivial
   have hcl:Cq zP (.f (.func 253) [] [.rp [.f (.func g) fi ca]]) (fun y=> .a (xF y)) H (fun y s=>Rq stp y s) (fun y s=>y∈f.kids/\xQ C y s):=by
    rintro y s ⟨hy,hd⟩ Z hs;refine A6 ?_;show As zP 253 ([]++[.a (xF y)]++[.rp [.f (.func g) fi ca]]) Z _;refine uJ kZ ?_;refine zz ?_;(repeat clear U K);repeat intro K U
    refine(ih y hy s hd).use (rest:=[]) (by simpa using hs) ?_;clear hs;rintro r post Z ⟨rfl,rfl⟩ hs;refine zz ?_;(repeat clear U K);repeat intro K U
    exact Aj hs (by simp) (.refl _) fun Z' hs'=>⟨rfl,hs'⟩
   have hres:=X2 stp f s;have h2:=h1 f s;rw[ET]at hs9
   have hokS:(stp f s).1=false->Tc (Rq stp) (fun y s=>y∈f.kids/\xQ C y s) f.kids (stp f s).2:=fun _=>by
    have:=WJ h1 f.kids (stp f s).2 hkc (by omega) (by omega);exact Z6 this fun y hy=>hy
   refine u3 kZ ?_;refine zz ?_;(repeat clear U K);repeat intro K U
   refine hx.use ⟨hc,hs0,by rw[ET];exact hs9⟩ hs ?_;clear hs;intro Z hs;cases hr:(stp f s).1
   .rw[hr,if_neg (by decide),Vq stp f.kids 0]at hres
    refine zz ?_;(repeat clear U K);repeat intro K U
    refine(JS 253 [] [.rp [.f (.func g) fi ca]] H _ _ hcl f.kids false (stp f s).2 (by omega) (hokS hr)).use (rest:=[]) (by simpa using hs) ?_;clear hs;rintro r post Z ⟨rfl,rfl⟩ hs;refine zz ?_;(repeat clear U K);repeat intro K U
    rw[hres];exact Aj hs (by simp) (.refl _) fun Z' hs'=>⟨_,⟨rfl,rfl⟩,hs'⟩
   .rw[hr,if_pos rfl]at hres
    refine zz ?_;(repeat clear U K);repeat intro K U
    rw[hres];exact Aj hs (List.Sublist.refl _) (.refl _) fun Z' hs'=>⟨_,⟨by rw[hr];rfl,rfl⟩,hs'⟩
end Go.Gl
namespace Go.Gl
def GG (a:Int->Nat) (f:Fact):Nat:=f.Fv fun f l=>a f.op+l.sum
def FL (a:Int->Nat) (f:Fact):GG a f=a f.op+(f.kids.map (GG a)).sum:=Fact.CT _ f
def sM (a:Int->Nat) (f:Fact) (l:List Fact):GG a (wk f l)=a f.op+(l.map (GG a)).sum:=FL a (wk f l)
def X7 {f:Fact} {n:Int} {l1 l2:List Fact} {k:Fact} (he:f.kids=l1++k::l2) (hz:n≠0) (h1:C8 l1<=n - 1) (h2:n - 1<C8 l1+CA k):GX f n=GX k (n - 1 - C8 l1):=by
 rw[KM,if_neg hz,he,UU k l2 l1 f (n - 1) h1 (rn k _ (by omega) (by omega))]
def pC {y f:Fact} {n:Int} {l1 l2:List Fact} {k:Fact} (he:f.kids=l1++k::l2) (hz:n≠0) (h1:C8 l1<=n - 1) (h2:n - 1<C8 l1+CA k):Lv y f n=wk f (l1++Lv y k (n - 1 - C8 l1)::l2):=by
 rw[LU,if_neg hz,he,X6 k l2 l1 n 1 (by omega) (by omega)]
def Vb (a:Int->Nat) (y f:Fact): ∀n:Int,0<=n->n<CA f->GG a (Lv y f n)+GG a (GX f n).1=GG a f+GG a y:=by
 induction f using Fact.ind with
 | h f ih=>
   intro n h0 hn;rw[D6]at hn;by_cases hz:n=0
   .subst hz
    rw[LU,if_pos rfl,KM,if_pos rfl];exact Nat.add_comm _ _
   .obtain⟨l1,k,l2,he,h1,h2⟩:=place f.kids (n - 1) (by omega) (by omega)
    have hk:=ih k (by rw[he];simp) (n - 1 - C8 l1) (by omega) (by omega);rw[X7 he hz h1 h2,pC he hz h1 h2,sM,FL a f,he];simp only[ND,Cn,List.sum_append,List.sum_cons];omega
def X5 {P : Fact->Bool} (hP: ∀f,P f=true-> ∀k∈f.kids,P k=true) (hw: ∀f l,P f=true->l.length=f.kids.length->(∀k∈l,P k=true)->P (wk f l)=true) {y:Fact} (hy:P y=true) (f:Fact):P f=true-> ∀n,P (Lv y f n)=true:=by
 induction f using Fact.ind with
 | h f ih=>
   intro hf n;by_cases hz:n=0
   .rw[LU,if_pos hz];exact hy
   .by_cases hi:0<=n/\n<CA f
    .obtain⟨h0,hn⟩:=hi
     rw[D6]at hn;obtain⟨l1,k,l2,he,h1,h2⟩:=place f.kids (n - 1) (by omega) (by omega);rw[pC he hz h1 h2];refine hw f _ hf (by rw[he];simp) fun x hx=>?_
     rcases Du.1 hx with hx|hx
     .exact hP f hf x (by rw[he];exact NK _ hx)
     .rcases Ff.1 hx with rfl|hx
      .exact ih k (by rw[he];simp) (hP f hf k (by rw[he];simp)) _
      .exact hP f hf x (by rw[he];exact Lu _ (.tail _ hx))
    .rw[Tw f n (by omega)];exact hf
def UT {P:Fact->Bool} (hP: ∀f,P f=true-> ∀k∈f.kids,P k=true) (f:Fact):P f=true-> ∀n:Int,0<=n->n<CA f->P (GX f n).1=true:=by
 induction f using Fact.ind with
 | h f ih=>
   intro hf n h0 hn;rw[D6]at hn;by_cases hz:n=0
   .rw[KM,if_pos hz];exact hf
   .obtain⟨l1,k,l2,he,h1,h2⟩:=place f.kids (n - 1) (by omega) (by omega)
    rw[X7 he hz h1 h2];exact ih k (by rw[he];simp) (hP f hf k (by rw[he];simp)) _ (by omega) (by omega)
def Pd (f:Fact):List Fact:=f.Fv fun f l=>f::l.flatten
def UQ (f:Fact):Pd f=f::(f.kids.map Pd).flatten:=Fact.CT _ f
def QG: ∀l:List Fact,(∀k∈l,(Pd k).length=CA k)->((l.map Pd).flatten.length:Int)=C8 l
 | [],_=>rfl
 | k::l,h=>by
   rw[Cn,List.flatten_cons,Kt,DK,h k (.head _)];have:=QG l fun x hx=>h x (.tail _ hx)
   omega
def QH (f:Fact):(Pd f).length=CA f:=by
 induction f using Fact.ind with
 | h f ih=>
   have:=QG f.kids ih;have h2:=D6 f;rw[UQ,JU];omega
def mb (f:Fact): ∀k:Nat,k<CA f->(Pd f)[k]? =some (GX f k).1:=by
 induction f using Fact.ind with
 | h f ih=>
   intro n hn;have hc:=D6 f;rw[UQ];cases n with
   | zero=>rw[KM];rfl
   | succ n=>
     obtain⟨l1,k,l2,he,h1,h2⟩:=place f.kids n (by omega) (by omega);rw[qI,X7 he (by omega) (by omega) (by omega),he,ND,List.flatten_append];have hl:=QG l1 fun x _=>QH x
     rw[List.getElem?_append_right (by omega),Cn,List.flatten_cons,Xm (by rw[QH];omega),ih k (by rw[he];simp) _ (by omega)];congr 3;omega
section
variable {S:Type}
def Xn (stp:Fact->S->Bool×S):List Fact->S->Bool×S
 | [],s=>(false,s)
 | x::r,s=>if(stp x s).1 then stp x s else Xn stp r (stp x s).2
def Qr (stp:Fact->S->Bool×S): ∀(a b:List Fact) (s:S),Xn stp (a++b) s=if(Xn stp a s).1 then Xn stp a s else Xn stp b (Xn stp a s).2
 | [],_,_=>rfl
 | x ::a,b,s=>by
   rw[List.cons_append,Xn,Xn];cases h:(stp x s).1
   .simp only[Jc,if_false]
    exact Qr stp a b _
   .simp[h]
def rF (stp:Fact->S->Bool×S) (f:Fact): ∀s,Rq stp f s=Xn stp (Pd f) s:=by
 induction f using Fact.ind with
 | h f ih=>
   have hl: ∀(l:List Fact),(∀k∈l,k∈f.kids)-> ∀s,dx (l.map (Rq stp)) s=Xn stp (l.map Pd).flatten s:=fun l=>by
    induction l with
    | nil=>exact fun _ _=>rfl
    | cons k r ih2=>
      intro hm s;rw[Cn,dx,Cn,List.flatten_cons,Qr,ih k (hm k (.head _)),ih2 fun x hx=>hm x (.tail _ hx)]
   intro s;rw[X2,UQ,Xn,hl f.kids fun _ h=>h]
end
end Go.Gl
namespace Go.Gl
open Go.Proofs
attribute [local irreducible] As Af AV AQ AI AU AP AR AJ AT AM AN Ag Ar Sat AS Ap AX W
abbrev Cv:Fact:=Fact.mk 1 0 [] 0 0 []
def Fg:Fact:=Ca Cv
def K8 (x:Fact):List Fact:=(if CR x Cv then []else if CR x Fg then [Cv]else [Cv,Fg])++x.kids
def Xt (w:AE) (f g:Fact):Bool:=NQ w f g&&NQ w g f
def Px (w:AE) (f:Fact) (n:Int):Option Fact:=((K8 (GX f n).1).map fun y=>(Xi y f n).1).find? (Xt w f)
def Pk (w:AE) (f:Fact):List Nat->Option Fact
 | []=>none
 | n::r=>(Px w f n).or (Pk w f r)
def FE (w:AE) (f:Fact):Option Fact:=Pk w f (List.range (CA f))
def rL (w:AE) (f:Fact):Prop:=An w f=true/\lv f<=12/\arity f=true/\B1 f 24=CA f/\CA f<=24/\ ∀n:Nat,n<CA f->(GX f n).1.kids.length<=2/\ ∀y∈K8 (GX f n).1,An w (Xi y f n).1=true/\lv (Xi y f n).1<=12
end Go.Gl
