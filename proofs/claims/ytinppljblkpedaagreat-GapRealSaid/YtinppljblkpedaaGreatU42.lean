import Derived.Test.YtinppljblkpedaaGreatU14
import Derived.Test.YtinppljblkpedaaGreatU20
import Derived.Test.YtinppljblkpedaaGreatU25
import Derived.Test.YtinppljblkpedaaGreatU27
import Derived.Test.YtinppljblkpedaaGreatU41
set_option linter.all false
set_option linter.defProp false
set_option maxHeartbeats 8000000
noncomputable section
namespace Go.Gl
open Go.Proofs
attribute [local irreducible] As Ag AY AQ AL AX AP AR AK AW AM AN Ai Ap Sat AT An AZ W
def x9 (a:List Fact) (f:Bool) (hl:a.length<=1000000):BL zP 323 [.l (facts a) f] [] fun r post=> ∃v,r= .ret v/\post= [.own v 6 (facts a)]/\(a≠[]->(Bi v).isSome=true):=by
 intro Z hs;have hM:=Mx;refine vC kZ ?_
 conv=>whnf
 repeat'((first|(apply sq;intro K U)|(apply si;intro A B hA hB)|(refine hA _ _ ?_;clear hB B hA A)|(apply U;clear U K)|fail)<;>conv=>whnf)
 refine⟨fun e t=>?_,fun _=>?_⟩
 .have hxe:a= []:=List.map_eq_nil_iff.1 e
  subst hxe
  conv=>whnf
  repeat'((first|apply st|(apply sq;intro K U)|(apply si;intro A B hA hB)|(refine hA _ _ ?_;clear hB B hA A)|(apply U;clear U K)|(constructor<;>intro hc<;>(try rw[hc])<;>(replace hc:=bp hc))|clear U K)<;>conv=>whnf)
  .exact AJ ⟨_,⟨_,rfl,rfl,fun h=>absurd rfl h⟩,Ch hs 6⟩
  .replace hs:=Ch hs 6
   refine JI hs 0 (xs:=[]) (ys:=[]) rfl (by simp) Iv fun v Z hs=>?_
   conv=>whnf
   repeat'((first|apply st|(refine hA _ _ ?_;clear hB B hA A)|(apply U;clear U K)|fail)<;>conv=>whnf)
   exact AJ ⟨_,⟨_,rfl,rfl,fun h=>absurd rfl h⟩,hs⟩
 .conv=>whnf
  repeat'((first|apply st|(apply sq;intro K U)|(apply si;intro A B hA hB)|(refine hA _ _ ?_;clear hB B hA A)|(apply U;clear U K)|fail)<;>conv=>whnf)
  replace hs:=Ch hs 6;refine Xf (JI hs 0 (xs:=[]) (ys:=a) rfl (by simp;omega) Iv fun v Z hs hv=>?_)
  conv=>whnf
  repeat'((first|apply st|(refine hA _ _ ?_;clear hB B hA A)|(apply U;clear U K)|fail)<;>conv=>whnf)
  exact AJ ⟨_,⟨_,rfl,rfl,fun h=>hv fun e=>h (List.map_eq_nil_iff.1 e)⟩,hs⟩
def fE:List Fact->List (Int->Fact)->Int->Int->List Fact
 | k::ks,g::gs,n,m=>g (n - m)::fE ks gs n (m+CC k)
 | _,_,_,_=>[]
def nv (gs:List (Int->Fact)) (n m:Int):fE [] gs n m= []:=by cases gs<;>rfl
def sbG (y:Fact) (f:Fact) (l:List (Int->Fact)) (n:Int):Fact:=if n=0 then y else wk f (fE f.kids l n 1)
def MD (y f:Fact):Int->Fact:=f.Fe (sbG y)
def Ld (y f:Fact) (n:Int):MD y f n=if n=0 then y else wk f (fE f.kids (f.kids.map (MD y)) n 1):=congrFun (Fact.CJ (sbG y) f) n
def ba {f:Fact} (har:f.kids.length<=2): ∀k,1+((f.kids.take k).map CC).sum<=CC f:=fun k=>by
 rw[EU];have:((f.kids.take k).map CC).sum+((f.kids.drop k).map CC).sum=(f.kids.map CC).sum:=by rw[<-List.sum_append,<-LX,List.take_append_drop]
 omega
def putP (y f:Fact):arity f=true->CC f<=1000-> ∀n:Int,(CC f:Int) - 3000<=n->n<=1000->Pure zP 265 [.a (xF f),eI n,.a (xF y)] (.t [.a (xF (MD y f n)),eI (CC f)]):=by
 induction f using Fact.ind with
 | h f ih=>
   intro har hcn;rw[FM,A4,CF,Cu]at har;have hk2:=T8 f;have hM:=Mx
   have main: ∀n:Int,n≠0->(CC f:Int) - 3000<=n->n<=1000->Pure zP 265 [.a (xF f),eI n,.a (xF y)] (.t [.a (xF (MD y f n)),eI (CC f)]):=by
    intro n hz h0 hn;rw[Ld,if_neg hz];refine ik kZ ?_;have hs:=Sn
    conv=>whnf
    repeat'((first|apply st|(apply sq;intro K U)|(apply si;intro A B hA hB)|(refine hA _ _ ?_;clear hB B hA A)|(apply U;clear U K)|refine⟨rfl,?_⟩|refine ld ?_|(constructor<;>intro hc<;>(try rw[hc])<;>(replace hc:=bp hc)<;>try(exfalso;omega))|(intro nn hnn;generalize hg:BZ _ nn _=Z;refine GF hg fun hs=>?_;clear hg)|fail)<;>conv=>whnf)
    rename_i n3 _ _ _;refine(x9 f.kids false (by omega)).use (rest:=_) hs ?_;clear hs;rintro r post Z ⟨v,rfl,rfl,hvn⟩ hs;replace hs:=Sat.front (j:=2) (hs.perm HP) rfl
    conv=>whnf
    repeat'((first|apply st|(apply sq;intro K U)|(apply si;intro A B hA hB)|(refine hA _ _ ?_;clear hB B hA A)|(apply U;clear U K)|refine lo ?_|refine ld ?_|refine MA fun Z hs=>?_|fail)<;>conv=>whnf)
    refine B4 f.kids.length (fun k (x:List Fact×Int)=>[(10,eI x.2),(32,eI (A7 k))]) (fun k x=>[.own v 6 (facts (x.1++f.kids.drop k)),.box nn [.i .i64 0,.i .i64 0,.l [] true,.i .i64 0,.i .i64 0,.l [] true],.box n3 [eI f.op,eI f.arg,.l (iL f.path) false,eI f.cls,eI f.n,v]]) (fun k x=>x.1.length=k/\x.2=1+(((f.kids.take k).map CC).sum:Nat)/\fE f.kids (f.kids.map (MD y)) n 1=x.1++fE (f.kids.drop k) ((f.kids.drop k).map (MD y)) n x.2) ([],1) rfl ⟨rfl,rfl,rfl⟩ hs ?_;clear hs;rintro k ⟨zs,m⟩ Z hk ⟨hzl,hm,hn1⟩ hs;dsimp only at hzl hm hn1 hs;dsimp only;have hck:A7 k=k:=AS (by omega);have hsum:=ba (f:=f) (by omega) k;rcases A9 f.kids hk with⟨x,hx,hlt⟩|hke
    .have hsum2:=ba (f:=f) (by omega) (k+1)
     have hm2:(1:Int)+(((f.kids.take (k+1)).map CC).sum:Nat)=m+CC x:=by
      rw[AU hx,LX,List.sum_append,hm];simp;omega
     rw[drop_cons hx,CK,fE]at hn1;have hcx:CC x<=CC f:=by omega
     have hwn:IntKind.i64.wrap (n - m)=n - m:=wrap64 (by omega) (by omega);have hwm:IntKind.i64.wrap (m+(CC x:Int))=m+CC x:=wrap64 (by omega) (by omega)
     have c1:Pure zP 265 [.a (xF x),eI (IntKind.i64.wrap (n - m)),.a (xF y)] (.t [.a (xF (MD y x (n - m))),eI (CC x)]):=by
      rw[hwn];exact ih x (B6 hx) (har.2 x (B6 hx)) (by omega) (n - m) (by omega) (by omega)
     have hv:=hvn (by intro e;rw[e]at hlt;simp at hlt);have hct:(A7 k).toNat=k:=by rw[hck];rfl
     have hyk:(zs++f.kids.drop k)[(A7 k).toNat]? =some x:=by rw[hct,List.getElem?_append_right (by omega),hzl,Nat.sub_self,drop_cons hx];rfl
     have hwl:(zs++f.kids.drop k).length<=2:=by rw[HQ,yN];omega
     have hwk:(A7 k).toNat<(zs++f.kids.drop k).length:=by rw[hct,HQ,yN];omega
     have hwt:(zs++f.kids.drop k).set (A7 k).toNat (MD y x (n - m))=(zs++[MD y x (n - m)])++f.kids.drop (k+1):=by rw[hct,List.set_append_right _ _ (by omega),hzl,Nat.sub_self,drop_cons hx,LC];rfl
     generalize zs++f.kids.drop k=ws at *;generalize hq:MD y x (n - m)=q at *;clear hwn
     conv=>whnf
     repeat'((first|apply st|(apply sq;intro K U)|(apply si;intro A B hA hB)|(refine hA _ _ ?_;clear hB B hA A)|(apply U;clear U K)|refine⟨rfl,?_⟩|refine⟨kZ,?_⟩|refine ld ?_|refine FX fun Z hs=>?_|refine oi ?_|refine cL ?_|(refine NT (fun hc=>?_)<;>(try rw[hc])<;>clear hc)|refine c1.use ?_|(intro nn hnn;generalize hg:BZ _ nn _=Z;refine GF hg fun hs=>?_;clear hg)|fail)<;>conv=>whnf)
     refine oset (enc:=EI) (xs:=ws) (y:=q) (fun Z hs=>?_) (he:=(BC q).symm) (h1:=hwk)
     conv=>whnf
     repeat'((first|(apply si;intro A B hA hB)|(refine hA _ _ ?_;clear hB B hA A)|(apply U;clear U K)|refine⟨rfl,?_⟩|clear U K)<;>conv=>whnf)
     all_goals exact⟨hlt,(zs++[q],m+CC x),by rw[hwm];rfl,⟨by simp[hzl],hm2.symm,by rw[hn1,LC];rfl⟩,by dsimp only;rw[<-hwt];exact hs.less ((Gg _ _).trans (Gg _ _))⟩
    .rw[Aj hke,List.map_nil,nv,D8]at hn1
     rw[Aj hke,D8]at hs
     have hmf:m=CC f:=by
      rw[hm,hke,List.take_of_length_le (Ft _),EU];omega
     conv=>whnf
     repeat'((first|apply st|(apply sq;intro K U)|(apply si;intro A B hA hB)|(refine hA _ _ ?_;clear hB B hA A)|(apply U;clear U K)|refine⟨rfl,?_⟩|refine⟨kZ,?_⟩|refine ld ?_|(refine SF (fun hc=>?_)<;>(try rw[hc])<;>clear hc)|clear U K)<;>conv=>whnf)
     have o1:=FZ hs 0 rfl;refine FF hs 1 rfl rfl rfl (by simp[o1]) (by decide) fun Z hs=>?_
     clear o1
     conv=>whnf
     repeat'((first|apply st|(refine hA _ _ ?_;clear hB B hA A)|(apply U;clear U K)|refine⟨kZ,?_⟩|refine ld ?_|fail)<;>conv=>whnf)
     rw[hn1,<-hmf];exact Af (.t (.cons (.a (.cons (.refl _) (.cons (.refl _) (.cons (.refl _) (.cons (.refl _) (.cons (.refl _) (.cons (hs.MB 0 rfl) .nil))))))) (.cons (.refl _) .nil)))
   intro n h0 hn;by_cases hz:n=0
   .subst hz
    have c1:=main (-1) (by omega) (by omega) (by omega);rw[Ld,if_pos rfl];refine ik kZ ?_;have hs:=Sn
    conv=>whnf
    repeat'((first|apply st|(apply sq;intro K U)|(apply si;intro A B hA hB)|(refine hA _ _ ?_;clear hB B hA A)|(apply U;clear U K)|refine⟨rfl,?_⟩|refine⟨kZ,?_⟩|refine ld ?_|refine FX fun Z hs=>?_|refine c1.use ?_|(constructor<;>intro hc<;>(try rw[hc])<;>(replace hc:=bp hc)<;>(try simp(disch:=omega) only[Bc,wrap64,AS]at hc)<;>try(exfalso;omega))|(intro nn hnn;generalize hg:BZ _ nn _=Z;refine GF hg fun hs=>?_;clear hg)|clear U K)<;>conv=>whnf)
    all_goals exact AG rfl
   .exact main n hz h0 hn
end Go.Gl
namespace Go.Gl
def DI (l:List Fact):Int:=((l.map CC).sum:Nat)
def FL:DI []=0:=rfl
def DR (k:Fact) (l:List Fact):DI (k::l)=CC k+DI l:=by simp[DI]
def Ec (l:List Fact):0<=DI l:=by unfold DI;omega
def D4 (f:Fact):(CC f:Int)=1+DI f.kids:=by rw[EU];simp[DI]
def Z0 (f:Fact):wk f f.kids=f:=by cases f;rfl
def Uo (f:Fact):1<=CC f:=by rw[EU];omega
def UO {y:Fact}: ∀(l:List Fact) (n m:Int),(∀k∈l,∀j:Int,j<0\/(CC k:Int)<=j->MD y k j=k)->n<m\/m+DI l<=n->fE l (l.map (MD y)) n m=l
 | [],n,m,_,_=>rfl
 | k::l,n,m,hk,h=>by
   rw[DR]at h;have:=Ec l;rw[CK,fE,hk k (.head _) (n - m) (by omega),UO l n (m+CC k) (fun x hx=>hk x (.tail _ hx)) (by omega)]
def Tx {y:Fact} (f:Fact): ∀n:Int,n<0\/(CC f:Int)<=n->MD y f n=f:=by
 induction f using Fact.ind with
 | h f ih=>
   intro n hn;have h1:=Uo f;rw[D4]at hn;rw[Ld,if_neg (by have:=Ec f.kids;omega),UO f.kids n 1 (fun k hk j hj=>ih k hk j hj) (by omega),Z0]
def place: ∀(l:List Fact) (j:Int),0<=j->j<DI l-> ∃l1 k l2,l=l1++k::l2/\DI l1<=j/\j<DI l1+CC k
 | [],j,h0,h=>by rw[FL]at h;omega
 | k ::l,j,h0,h=>by
   by_cases hj:j<CC k
   .exact⟨[],k,l,rfl,by rw[FL];exact h0,by rw[FL];omega⟩
   .rw[DR]at h
    obtain⟨l1,x,l2,rfl,h1,h2⟩:=place l (j - CC k) (by omega) (by omega);exact⟨k::l1,x,l2,rfl,by rw[DR];omega,by rw[DR];omega⟩
def YO {y:Fact} (k:Fact) (l2:List Fact): ∀(l1:List Fact) (n m:Int),m+DI l1<=n->n<m+DI l1+CC k->fE (l1++k::l2) ((l1++k::l2).map (MD y)) n m=l1++MD y k (n - m - DI l1)::l2
 | [],n,m,h1,h2=>by
   rw[FL]at *;rw[List.nil_append,CK,fE,UO l2 n (m+CC k) (fun x _=>Tx x) (by omega),Int.sub_zero];rfl
 | a::l1,n,m,h1,h2=>by
   rw[DR]at *;have:=Ec l1;rw[List.cons_append,CK,fE,Tx a (n - m) (by omega),YO k l2 l1 n (m+CC a) (by omega) (by omega),show n - (m+CC a) - DI l1=n - m - (CC a+DI l1) by omega];rfl
def db (l:List Fact) (o:Fact):R0 (l.map Gk) o (-1)=(o,-1):=by
 cases l with
 | nil=>rfl
 | cons k l=>rw[CK,R0,if_neg (by decide)]
def WV: ∀(l:List Fact) (o:Fact) (j:Int),(∀k∈l,∀n:Int,(CC k:Int)<=n->(Gk k n).2=n - CC k)->DI l<=j->(R0 (l.map Gk) o j).2=j - DI l
 | [],o,j,_,_=>by rw[FL,Int.sub_zero];rfl
 | k::l,o,j,hk,h=>by
   rw[DR]at *;have:=Ec l;rw[CK,R0,if_pos (by omega),hk k (.head _) j (by omega),WV l _ _ (fun x hx=>hk x (.tail _ hx)) (by omega)];omega
def oX (f:Fact): ∀n:Int,(CC f:Int)<=n->(Gk f n).2=n - CC f:=by
 induction f using Fact.ind with
 | h f ih=>
   intro n hn;have h1:=Uo f;rw[D4]at *;have:=Ec f.kids;rw[Ke,if_neg (by omega),WV f.kids f (n - 1) ih (by omega)];omega
def UZ (k:Fact) (l2:List Fact): ∀(l1:List Fact) (o:Fact) (j:Int),DI l1<=j->(Gk k (j - DI l1)).2= -1->R0 ((l1++k::l2).map Gk) o j=Gk k (j - DI l1)
 | [],o,j,h0,h=>by
   rw[FL]at *;rw[Int.sub_zero]at *;rw[List.nil_append,CK,R0,if_pos h0,h,db];exact Prod.ext rfl h.symm
 | a::l1,o,j,h0,h=>by
   rw[DR]at *;have:=Ec l1;rw[List.cons_append,CK,R0,if_pos (by omega),oX a j (by omega),UZ k l2 l1 _ (j - CC a) (by omega) (by rw[<-h];congr 2;omega)];congr 1;omega
def tM (f:Fact): ∀n:Int,0<=n->n<CC f->(Gk f n).2= -1:=by
 induction f using Fact.ind with
 | h f ih=>
   intro n h0 hn;rw[D4]at hn;rw[Ke];split
   .rfl
   .obtain⟨l1,k,l2,he,h1,h2⟩:=place f.kids (n - 1) (by omega) (by omega)
    have hk:=ih k (by rw[he];simp) (n - 1 - DI l1) (by omega) (by omega);rw[he,UZ k l2 l1 f (n - 1) h1 hk];exact hk
def kU {x:Fact} (l:List Fact):cB l (l.map (Xw x)) (-1)=(l,-1):=by
 cases l with
 | nil=>rfl
 | cons k l=>rw[CK,cB,if_neg (by decide)]
def aJ {x:Fact}: ∀(l:List Fact) (j:Int),(∀k∈l,∀n:Int,(CC k:Int)<=n->Xw x k n=(k,n - CC k))->DI l<=j->cB l (l.map (Xw x)) j=(l,j - DI l)
 | [],j,_,_=>by rw[FL,Int.sub_zero];rfl
 | k::l,j,hk,h=>by
   rw[DR]at *;have:=Ec l;rw[CK,cB,if_pos (by omega),hk k (.head _) j (by omega),aJ l _ (fun x hx=>hk x (.tail _ hx)) (by dsimp only;omega)];exact Prod.ext rfl (by dsimp only;omega)
def s9 {x:Fact} (f:Fact): ∀n:Int,(CC f:Int)<=n->Xw x f n=(f,n - CC f):=by
 induction f using Fact.ind with
 | h f ih=>
   intro n hn;have h1:=Uo f;rw[D4]at *;have:=Ec f.kids;rw[gx,if_neg (by omega),aJ f.kids (n - 1) ih (by omega)];exact Prod.ext (Z0 f) (by dsimp only;omega)
def gy {x:Fact} (k:Fact) (l2:List Fact): ∀(l1:List Fact) (j:Int),DI l1<=j->(Xw x k (j - DI l1)).2= -1->cB (l1++k::l2) ((l1++k::l2).map (Xw x)) j=(l1++(Xw x k (j - DI l1)).1::l2,-1)
 | [],j,h0,h=>by
   rw[FL]at *;rw[Int.sub_zero]at *;rw[List.nil_append,CK,cB,if_pos h0,h,kU];rfl
 | a::l1,j,h0,h=>by
   rw[DR]at *;have:=Ec l1;have e:j - CC a - DI l1=j - (CC a+DI l1):=by omega
   rw[List.cons_append,CK,cB,if_pos (by omega),s9 a j (by omega),gy k l2 l1 (j - CC a) (by omega) (by rw[e];exact h),e];rfl
def gD {x:Fact} (f:Fact): ∀n:Int,0<=n->n<CC f->Xw x f n=(MD x f n,-1):=by
 induction f using Fact.ind with
 | h f ih=>
   intro n h0 hn;rw[D4]at hn;rw[gx,Ld];split
   .rfl
   .obtain⟨l1,k,l2,he,h1,h2⟩:=place f.kids (n - 1) (by omega) (by omega)
    have hk:=ih k (by rw[he];simp) (n - 1 - DI l1) (by omega) (by omega);rw[he,gy k l2 l1 (n - 1) h1 (by rw[hk]),YO k l2 l1 n 1 (by omega) (by omega),hk]
end Go.Gl
namespace Go.Gl
open Go.Proofs
attribute [local irreducible] As Ag AY AQ AL AX AP AR AK AW AM AN Ai Ap Sat AT An AZ W
section
variable {S:Type}
def fM:List (S->Bool×S)->S->Bool×S
 | [],s=>(false,s)
 | g::r,s=>if(g s).1 then g s else fM r (g s).2
def vsG (stp:Fact->S->Bool×S) (f:Fact) (l:List (S->Bool×S)) (s:S):Bool×S:=if(stp f s).1 then stp f s else fM l (stp f s).2
def Rr (stp:Fact->S->Bool×S) (f:Fact):S->Bool×S:=f.Fe (vsG stp)
def YH (stp:Fact->S->Bool×S) (f:Fact) (s:S):Rr stp f s=if(stp f s).1 then stp f s else fM (f.kids.map (Rr stp)) (stp f s).2:=congrFun (Fact.CJ (vsG stp) f) s
def Vw (stp:Fact->S->Bool×S): ∀(xs:List Fact) (k:Nat) (s:S),fM (xs.map (Rr stp)) s=(decide ((Bf (Rr stp) xs k s).1≥0),(Bf (Rr stp) xs k s).2)
 | [],_,_=>rfl
 | y ::r,k,s=>by
   rw[CK,fM,Bf];cases h:(Rr stp y s).1
   .rw[if_neg (by decide),if_neg (by decide)]
    exact Vw stp r (k+1) _
   .rw[if_pos rfl,if_pos rfl]
    dsimp only;rw[decide_eq_true (by omega),<-h]
end
abbrev SN:=Int×Fact
def yP (C:Fact->Prop) (y:Fact) (s:SN):Prop:=C y/\ -1<=s.1/\s.1+(CC y:Int)<=900
def sc {stp:Fact->SN->Bool×SN} (h1: ∀y s,(stp y s).2.1=s.1+1) (f:Fact): ∀s,s.1<=(Rr stp f s).2.1/\(Rr stp f s).2.1<=s.1+CC f:=by
 induction f using Fact.ind with
 | h f ih=>
   intro s;rw[YH,EU];have h2:=h1 f s
   have hl: ∀(l:List Fact),(∀k∈l,k∈f.kids)-> ∀s:SN,s.1<=(fM (l.map (Rr stp)) s).2.1/\(fM (l.map (Rr stp)) s).2.1<=s.1+((l.map CC).sum:Nat):=fun l=>by
    induction l with
    | nil=>exact fun _ s=>⟨Int.le_refl _,by simp[fM]⟩
    | cons k r ih2=>
      intro hm s;have h3:=ih k (hm k (.head _)) s;rw[CK,fM,CK,List.sum_cons];split
      .exact⟨h3.1,by omega⟩
      .have h4:=ih2 (fun x hx=>hm x (.tail _ hx)) (Rr stp k s).2
       exact⟨by omega,by omega⟩
   split
   .exact⟨by omega,by omega⟩
   .have:=hl f.kids (fun _ h=>h) (stp f s).2
    exact⟨by omega,by omega⟩
def WS {stp:Fact->SN->Bool×SN} (h1: ∀y s,(stp y s).2.1=s.1+1) {C:Fact->Prop}: ∀(l:List Fact) (s:SN),(∀k∈l,C k)-> -1<=s.1->s.1+((l.map CC).sum:Nat)<=900->Tc (Rr stp) (yP C) l s
 | [],_,_,_,_=>trivial
 | k::r,s,hc,h0,hs=>by
   rw[CK,List.sum_cons]at hs;have hb:=sc h1 k s;exact⟨⟨hc k (.head _),h0,by omega⟩,WS h1 r _ (fun x hx=>hc x (.tail _ hx)) (by omega) (by omega)⟩
def aU {S:Type} {stp:Fact->S->Bool×S} {D:Fact->S->Prop} {l:List Fact}: ∀ {xs:List Fact} {s:S},Tc stp D xs s->(∀y∈xs,y∈l)->Tc stp (fun y s=>y∈l/\D y s) xs s
 | [],_,_,_=>trivial
 | y::r,_,h,hm=>⟨⟨hm y (.head _),h.1⟩,aU h.2 fun z hz=>hm z (.tail _ hz)⟩
def ln {g:FuncId} {fi ca:List V} {H:SN->List At} {stp:Fact->SN->Bool×SN} {C:Fact->Prop} (h1: ∀y s,(stp y s).2.1=s.1+1) (hC: ∀y,C y->y.kids.length<=2/\ ∀k∈y.kids,C k)
    (hx:Cw zP (.f (.func g) fi ca) (fun y=> .a (xF y)) H stp (yP C)) (f:Fact): ∀s,yP C f s->BL zP 263 [.a (xF f),.f (.func g) fi ca] (H s) fun r post=>r= .ret (.b (Rr stp f s).1)/\post=H (Rr stp f s).2:=by
 induction f using Fact.ind with
 | h f ih=>
   intro s ⟨hc,hs0,hs9⟩ Z hs;have hM:=Mx;obtain⟨hk2,hkc⟩:=hC f hc;have hst: ∀k∈f.kids,True:=fun _ _=>trivial
   have hcl:Cw zP (.f (.func 322) [] [.rp [.f (.func g) fi ca]]) (fun y=> .a (xF y)) H (fun y s=>Rr stp y s) (fun y s=>y∈f.kids/\yP C y s):=by
    rintro y s ⟨hy,hd⟩ Z hs;refine A0 ?_;show As zP 322 ([]++[.a (xF y)]++[.rp [.f (.func g) fi ca]]) Z _;refine vD kZ ?_;refine zz ?_;(repeat clear U K);repeat intro K U
    refine(ih y hy s hd).use (rest:=[]) (by simpa using hs) ?_;clear hs;rintro r post Z ⟨rfl,rfl⟩ hs;refine zz ?_;(repeat clear U K);repeat intro K U
    exact Au hs (by simp) (.refl _) fun Z' hs'=>⟨rfl,hs'⟩
   have hres:=YH stp f s;have h2:=h1 f s;rw[EU]at hs9
   have hokS:(stp f s).1=false->Tc (Rr stp) (fun y s=>y∈f.kids/\yP C y s) f.kids (stp f s).2:=fun _=>by
    have:=WS h1 f.kids (stp f s).2 hkc (by omega) (by omega);exact aU this fun y hy=>hy
   refine vw kZ ?_;refine zz ?_;(repeat clear U K);repeat intro K U
   refine hx.use ⟨hc,hs0,by rw[EU];exact hs9⟩ hs ?_;clear hs;intro Z hs;cases hr:(stp f s).1
   .rw[hr,if_neg (by decide),Vw stp f.kids 0]at hres
    refine zz ?_;(repeat clear U K);repeat intro K U
    refine(JW 322 [] [.rp [.f (.func g) fi ca]] H _ _ hcl f.kids false (stp f s).2 (by omega) (hokS hr)).use (rest:=[]) (by simpa using hs) ?_;clear hs;rintro r post Z ⟨rfl,rfl⟩ hs;refine zz ?_;(repeat clear U K);repeat intro K U
    rw[hres];exact Au hs (by simp) (.refl _) fun Z' hs'=>⟨_,⟨rfl,rfl⟩,hs'⟩
   .rw[hr,if_pos rfl]at hres
    refine zz ?_;(repeat clear U K);repeat intro K U
    rw[hres];exact Au hs (List.Sublist.refl _) (.refl _) fun Z' hs'=>⟨_,⟨by rw[hr];rfl,rfl⟩,hs'⟩
end Go.Gl
namespace Go.Gl
def GL (a:Int->Nat) (f:Fact):Nat:=f.Fe fun f l=>a f.op+l.sum
def FD (a:Int->Nat) (f:Fact):GL a f=a f.op+(f.kids.map (GL a)).sum:=Fact.CJ _ f
def th (a:Int->Nat) (f:Fact) (l:List Fact):GL a (wk f l)=a f.op+(l.map (GL a)).sum:=FD a (wk f l)
def YP {f:Fact} {n:Int} {l1 l2:List Fact} {k:Fact} (he:f.kids=l1++k::l2) (hz:n≠0) (h1:DI l1<=n - 1) (h2:n - 1<DI l1+CC k):Gk f n=Gk k (n - 1 - DI l1):=by
 rw[Ke,if_neg hz,he,UZ k l2 l1 f (n - 1) h1 (tM k _ (by omega) (by omega))]
def qh {y f:Fact} {n:Int} {l1 l2:List Fact} {k:Fact} (he:f.kids=l1++k::l2) (hz:n≠0) (h1:DI l1<=n - 1) (h2:n - 1<DI l1+CC k):MD y f n=wk f (l1++MD y k (n - 1 - DI l1)::l2):=by
 rw[Ld,if_neg hz,he,YO k l2 l1 n 1 (by omega) (by omega)]
def Vf (a:Int->Nat) (y f:Fact): ∀n:Int,0<=n->n<CC f->GL a (MD y f n)+GL a (Gk f n).1=GL a f+GL a y:=by
 induction f using Fact.ind with
 | h f ih=>
   intro n h0 hn;rw[D4]at hn;by_cases hz:n=0
   .subst hz
    rw[Ld,if_pos rfl,Ke,if_pos rfl];exact Nat.add_comm _ _
   .obtain⟨l1,k,l2,he,h1,h2⟩:=place f.kids (n - 1) (by omega) (by omega)
    have hk:=ih k (by rw[he];simp) (n - 1 - DI l1) (by omega) (by omega);rw[YP he hz h1 h2,qh he hz h1 h2,th,FD a f,he];simp only[LX,CK,List.sum_append,List.sum_cons];omega
def YN {P : Fact->Bool} (hP: ∀f,P f=true-> ∀k∈f.kids,P k=true) (hw: ∀f l,P f=true->l.length=f.kids.length->(∀k∈l,P k=true)->P (wk f l)=true) {y:Fact} (hy:P y=true) (f:Fact):P f=true-> ∀n,P (MD y f n)=true:=by
 induction f using Fact.ind with
 | h f ih=>
   intro hf n;by_cases hz:n=0
   .rw[Ld,if_pos hz];exact hy
   .by_cases hi:0<=n/\n<CC f
    .obtain⟨h0,hn⟩:=hi
     rw[D4]at hn;obtain⟨l1,k,l2,he,h1,h2⟩:=place f.kids (n - 1) (by omega) (by omega);rw[qh he hz h1 h2];refine hw f _ hf (by rw[he];simp) fun x hx=>?_
     rcases Dn.1 hx with hx|hx
     .exact hP f hf x (by rw[he];exact NS _ hx)
     .rcases Ep.1 hx with rfl|hx
      .exact ih k (by rw[he];simp) (hP f hf k (by rw[he];simp)) _
      .exact hP f hf x (by rw[he];exact NR _ (.tail _ hx))
    .rw[Tx f n (by omega)];exact hf
def UY {P:Fact->Bool} (hP: ∀f,P f=true-> ∀k∈f.kids,P k=true) (f:Fact):P f=true-> ∀n:Int,0<=n->n<CC f->P (Gk f n).1=true:=by
 induction f using Fact.ind with
 | h f ih=>
   intro hf n h0 hn;rw[D4]at hn;by_cases hz:n=0
   .rw[Ke,if_pos hz];exact hf
   .obtain⟨l1,k,l2,he,h1,h2⟩:=place f.kids (n - 1) (by omega) (by omega)
    rw[YP he hz h1 h2];exact ih k (by rw[he];simp) (hP f hf k (by rw[he];simp)) _ (by omega) (by omega)
def Ph (f:Fact):List Fact:=f.Fe fun f l=>f::l.flatten
def UT (f:Fact):Ph f=f::(f.kids.map Ph).flatten:=Fact.CJ _ f
def QN: ∀l:List Fact,(∀k∈l,(Ph k).length=CC k)->((l.map Ph).flatten.length:Int)=DI l
 | [],_=>rfl
 | k::l,h=>by
   rw[CK,List.flatten_cons,HQ,DR,h k (.head _)];have:=QN l fun x hx=>h x (.tail _ hx)
   omega
def QO (f:Fact):(Ph f).length=CC f:=by
 induction f using Fact.ind with
 | h f ih=>
   have:=QN f.kids ih;have h2:=D4 f;rw[UT,HH];omega
def oJ (f:Fact): ∀k:Nat,k<CC f->(Ph f)[k]? =some (Gk f k).1:=by
 induction f using Fact.ind with
 | h f ih=>
   intro n hn;have hc:=D4 f;rw[UT];cases n with
   | zero=>rw[Ke];rfl
   | succ n=>
     obtain⟨l1,k,l2,he,h1,h2⟩:=place f.kids n (by omega) (by omega);rw[qW,YP he (by omega) (by omega) (by omega),he,LX,List.flatten_append];have hl:=QN l1 fun x _=>QO x
     rw[List.getElem?_append_right (by omega),CK,List.flatten_cons,X1 (by rw[QO];omega),ih k (by rw[he];simp) _ (by omega)];congr 3;omega
section
variable {S:Type}
def X2 (stp:Fact->S->Bool×S):List Fact->S->Bool×S
 | [],s=>(false,s)
 | x::r,s=>if(stp x s).1 then stp x s else X2 stp r (stp x s).2
def Qu (stp:Fact->S->Bool×S): ∀(a b:List Fact) (s:S),X2 stp (a++b) s=if(X2 stp a s).1 then X2 stp a s else X2 stp b (X2 stp a s).2
 | [],_,_=>rfl
 | x ::a,b,s=>by
   rw[List.cons_append,X2,X2];cases h:(stp x s).1
   .simp only[JX,if_false]
    exact Qu stp a b _
   .simp[h]
def sb (stp:Fact->S->Bool×S) (f:Fact): ∀s,Rr stp f s=X2 stp (Ph f) s:=by
 induction f using Fact.ind with
 | h f ih=>
   have hl: ∀(l:List Fact),(∀k∈l,k∈f.kids)-> ∀s,fM (l.map (Rr stp)) s=X2 stp (l.map Ph).flatten s:=fun l=>by
    induction l with
    | nil=>exact fun _ _=>rfl
    | cons k r ih2=>
      intro hm s;rw[CK,fM,CK,List.flatten_cons,Qu,ih k (hm k (.head _)),ih2 fun x hx=>hm x (.tail _ hx)]
   intro s;rw[YH,UT,X2,hl f.kids fun _ h=>h]
end
end Go.Gl
namespace Go.Gl
open Go.Proofs
attribute [local irreducible] As Ag AY AQ AL AX AP AR AK AW AM AN Ai Ap Sat AT An AZ W
def Fb:Fact:=Ca C6
def LO (x:Fact):List Fact:=(if CW x C6 then []else if CW x Fb then [C6]else [C6,Fb])++x.kids
def YA (w:AF) (f g:Fact):Bool:=O0 w f g&&O0 w g f
def P3 (w:AF) (f:Fact) (n:Int):Option Fact:=((LO (Gk f n).1).map fun y=>(Xw y f n).1).find? (YA w f)
def Pt (w:AF) (f:Fact):List Nat->Option Fact
 | []=>none
 | n::r=>(P3 w f n).or (Pt w f r)
def E6 (w:AF) (f:Fact):Option Fact:=Pt w f (List.range (CC f))
def sg (w:AF) (f:Fact):Prop:=Ae w f=true/\lv f<=12/\arity f=true/\B5 f 24=CC f/\CC f<=24/\ ∀n:Nat,n<CC f->(Gk f n).1.kids.length<=2/\ ∀y∈LO (Gk f n).1,Ae w (Xw y f n).1=true/\lv (Xw y f n).1<=12
def uM (xs ys:List Fact) (a b:Bool) (hxl:xs.length<=Ab) (hyl:ys.length<=Ab) (ih: ∀x∈xs,∀y,Pure zP 210 [.a (xF x),.a (xF y)] (.b (CW x y))) :
    Pure zP 277 [.l (facts xs) a,.l (facts ys) b,.f (.func 210) [] []] (.b (xs.length==ys.length&&Jn (xs.map CW) ys)):=by
 have hM:=Mx;refine ig kZ ?_;have hs:=Sn;by_cases hl:xs.length=ys.length
 .have he:(xs.length==ys.length&&Jn (xs.map CW) ys)=Jn (xs.map CW) ys:=by rw[CF.2 hl,Cc]
  rw[he]
  conv=>whnf
  repeat'((first|apply st|(apply sq;intro K U)|(apply si;intro A B hA hB)|(refine hA _ _ ?_;clear hB B hA A)|(apply U;clear U K)|refine⟨rfl,?_⟩|(constructor<;>intro hc<;>(try rw[hc])<;>(replace hc:=bp hc)<;>(try simp(disch:=omega) only[Bc,wrap64,AS]at hc)<;>try(exfalso;omega))|fail)<;>conv=>whnf)
  refine B4 xs.length (fun k (_:Unit)=>[(17,eI (A7 k))]) (fun _ _=>[]) (fun k _=>Jn (xs.map CW) ys=Jn ((xs.drop k).map CW) (ys.drop k)) () rfl rfl hs ?_;clear hs;rintro k - Z hk hn hs;have hck:A7 k=k:=AS (by omega);rcases A9 xs hk with⟨x,hx,hlt⟩|hke
  .obtain⟨y,hy⟩: ∃y,ys[k]? =some y:=⟨_,Cd (by omega)⟩
   have hy2:ys[(A7 k).toNat]? =some y:=by rw[hck];exact hy
   have c1:=ih x (B6 hx) y;rw[drop_cons hx,drop_cons hy,CK,Jn]at hn;cases hxy:CW x y<;>rw[hxy]at c1 hn
   .conv=>whnf
    repeat'((first|apply st|(apply sq;intro K U)|(apply si;intro A B hA hB)|(refine hA _ _ ?_;clear hB B hA A)|(apply U;clear U K)|refine⟨rfl,?_⟩|refine⟨kZ,?_⟩|refine rb ?_|refine ld ?_|refine FX fun Z hs=>?_|refine Zg ?_|(refine NT (fun hc=>?_)<;>(try rw[hc])<;>clear hc)|refine A0 (c1.use ?_)|(intro nn hnn;generalize hg:BZ _ nn _=Z;refine GF hg fun hs=>?_;clear hg)|clear U K)<;>conv=>whnf)
    all_goals exact AG (by rw[hn];rfl)
   .conv=>whnf
    repeat'((first|apply st|(apply sq;intro K U)|(apply si;intro A B hA hB)|(refine hA _ _ ?_;clear hB B hA A)|(apply U;clear U K)|refine⟨rfl,?_⟩|refine⟨kZ,?_⟩|refine rb ?_|refine ld ?_|refine FX fun Z hs=>?_|refine SG ?_|(refine NT (fun hc=>?_)<;>(try rw[hc])<;>clear hc)|refine A0 (c1.use ?_)|(intro nn hnn;generalize hg:BZ _ nn _=Z;refine GF hg fun hs=>?_;clear hg)|clear U K)<;>conv=>whnf)
    all_goals exact⟨hlt,(),rfl,by rw[hn];rfl,hs.less (Oq _)⟩
  .rw[Aj hke,Aj (show k=ys.length by omega)]at hn
   conv=>whnf
   repeat'((first|apply st|(apply sq;intro K U)|(apply si;intro A B hA hB)|(refine hA _ _ ?_;clear hB B hA A)|(apply U;clear U K)|refine⟨rfl,?_⟩|(refine SF (fun hc=>?_)<;>(try rw[hc])<;>clear hc)|clear U K)<;>conv=>whnf)
   all_goals exact AG (by rw[hn];rfl)
 .have he:(xs.length==ys.length&&Jn (xs.map CW) ys)=false:=by rw[beq_eq_false_iff_ne.2 hl,Bool.false_and]
  rw[he]
  conv=>whnf
  repeat'((first|apply st|(apply sq;intro K U)|(apply si;intro A B hA hB)|(refine hA _ _ ?_;clear hB B hA A)|(apply U;clear U K)|refine⟨rfl,?_⟩|(constructor<;>intro hc<;>(try rw[hc])<;>(replace hc:=bp hc)<;>(try simp(disch:=omega) only[Bc,wrap64,AS]at hc)<;>try(exfalso;omega))|clear U K)<;>conv=>whnf)
  all_goals try(exfalso;omega)
  all_goals exact AG rfl
def zG (f g:Fact):Pure zP 210 [.a (xF f),.a (xF g)] (.b (CW f g)):=by
 induction f using Fact.ind generalizing g with
 | h f ih=>
   refine Pure.fit (by kernel_rfl) fun hf=>?_
   have⟨h2,h3,h4⟩:=JL hf.1;have⟨g2,g3,g4⟩:=JL hf.2.1;have c2:=fun a b=>uM f.kids g.kids a b h2 g2 fun x hx y=>ih x hx y
   rw[J5];refine iv kZ ?_;have hs:=Sn
   conv=>whnf
   repeat'((first|apply st|(apply sq;intro K U)|(apply si;intro A B hA hB)|(refine hA _ _ ?_;clear hB B hA A)|(apply U;clear U K)|refine⟨rfl,?_⟩|refine Pure.use (UP _ _ _ _) ?_|refine Pure.use (c2 _ _) ?_|(constructor<;>intro hc<;>(try rw[hc])<;>(replace hc:=bp hc))|fail)<;>conv=>whnf)
   all_goals exact AG (by simp[*])
def IG (x:Fact):List Fact:=(if x.op=1 then []else if CW x Fb then [C6]else [C6,Fb])++x.kids
def NV (w:AF) (f x:Fact) (s:SN):Bool×SN:=match((IG x).map fun y=>MD y f (s.1+1)).find? (YA w f)with|some g=>(true,(s.1+1,g))|none=>(false,(s.1+1,s.2))
def sf (w:AF) (f x:Fact) (s:SN):(NV w f x s).2.1=s.1+1:=by
 rw[NV];split<;>rfl
def nD (w:AF) (f x:Fact):Prop:=x.kids.length<=2/\ ∀y∈IG x,arity y=true/\ ∀n,Ae w (MD y f n)=true/\lv (MD y f n)<=40
abbrev stH (n1 n2 n3 n6:Nat) (s:SN):List At:=[.box n1 [eI s.1],.box n2 (xF C6),.box n3 (xF Fb),.box n6 (xF s.2)]
def nj (w : AF) (hw:BR w) (f:Fact) (hnf:Ae w f=true) (hlf:lv f<=12) (har:arity f=true) (hcf:CC f<=100) (n1 n2 n3 n6:Nat) :
    Cw zP (.f (.func 264) [] [.p n1 0,.p n2 0,.p n3 0,.rp (xF f),.rp [.rp (wC w (Ah w.parents))],.p n6 0]) (fun y=> .a (xF y)) (stH n1 n2 n3 n6) (NV w f) (yP (nD w f)):=by
 rintro x ⟨n,o⟩ ⟨⟨hk2,hal⟩,hn0,hn9⟩ Z hs;dsimp only at hn0 hn9;have hcx:1<=CC x:=by rw[EU];omega
 have hM:=Mx;refine A0 ?_;show As zP 264 ([]++[.a (xF x)]++_) Z _;have c5:=zG x Fb;have hwn:IntKind.i64.wrap (n+1)=n+1:=wrap64 (by omega) (by omega);refine vt kZ ?_;replace hs:Sat Z [.box n1 [eI n],.box n2 (xF C6),.box n3 (xF Fb),.box n6 (xF o),.own (.l [] true) 6 (facts [])]:=EY hs 6
 have hcl:(IG x).length<=4:=by
  rw[IG,HQ]
  have:(if x.op=1 then []else if CW x Fb then [C6]else [C6,Fb]:List Fact).length<=2:=by
   split
   .simp
   .split<;>simp
  omega
 have hst: ∀g,((IG x).map fun y=>MD y f (n+1)).find? (YA w f)=g->NV w f x (n,o)=match g with|some g=>(true,(n+1,g))|none=>(false,(n+1,o)):=fun g e=>by rw[NV,e]
 by_cases hx1:x.op=1<;>cases hx2:CW x Fb<;>rw[hx2]at c5
 all_goals
  conv=>whnf
  repeat'((first|apply st|(apply sq;intro K U)|(apply si;intro A B hA hB)|(refine hA _ _ ?_;clear hB B hA A)|(apply U;clear U K)|refine⟨rfl,?_⟩|refine⟨kZ,?_⟩|refine ld ?_|refine MA fun Z hs=>?_|refine yZ fun v Z hs hsl=>?_|refine Zg ?_|refine SG ?_|(refine JI hs 4 (ys:=x.kids) (enc:=EI) rfl ⟨by simp only[HQ,HH,List.length_nil]<;>omega,by simp only[HQ,HH,List.length_nil]<;>omega⟩ Iv fun v Z hs=>?_)|refine c5.use ?_|(constructor<;>intro hc<;>(try rw[hc])<;>(replace hc:=bp hc)<;>try(exfalso;omega))|fail)<;>conv=>whnf)
  rw[hwn]at hs
  replace hs:Sat Z [.box n1 [eI (n+1)],.box n2 (xF C6),.box n3 (xF Fb),.box n6 (xF o),.own v 6 (facts (IG x))]:=by
   first|rw[IG,if_pos hx1]|rw[IG,if_neg hx1,hx2]
   exact hs
  clear c5 hx1 hx2;generalize IG x=L at *
  conv=>whnf
  repeat'((first|apply st|(refine hA _ _ ?_;clear hB B hA A)|(apply U;clear U K)|refine lo ?_|fail)<;>conv=>whnf)
  refine B4 L.length (fun j (_:Unit)=>[(36,eI (A7 j))]) (fun _ _=>[.box n1 [eI (n+1)],.box n2 (xF C6),.box n3 (xF Fb),.box n6 (xF o),.own v 6 (facts L)]) (fun j _=>(L.map fun y=>MD y f (n+1)).find? (YA w f)=((L.drop j).map fun y=>MD y f (n+1)).find? (YA w f)) () rfl rfl hs ?_;clear hs;rintro j - Z hj hn hs;have hcj:A7 j=j:=AS (by omega);rcases A9 L hj with⟨y,hy,hjl⟩|hje
  .rw [drop_cons hy,CK,List.find?_cons]at hn
   obtain⟨hya,hgn⟩:=hal y (B6 hy);obtain⟨hg1,hg2⟩:=hgn (n+1);have c6:=putP y f har (by omega) (n+1) (by omega) (by omega);have hyj:L[(A7 j).toNat]? =some y:=by rw[hcj];exact hy
   generalize MD y f (n+1)=g at *;have c7:=Ly w hw f g hnf hg1 (by omega);have c8:=Ly w hw g f hg1 hnf (by omega);rw[YA]at hn;cases hi1:O0 w f g<;>rw[hi1]at c7 hn
   .conv=>whnf
    repeat'((first|apply st|(apply sq;intro K U)|(apply si;intro A B hA hB)|(refine hA _ _ ?_;clear hB B hA A)|(apply U;clear U K)|refine⟨rfl,?_⟩|refine⟨kZ,?_⟩|refine ld ?_|refine FX fun Z hs=>?_|refine oi ?_|refine cL ?_|(refine NT (fun hc=>?_)<;>(try rw[hc])<;>clear hc)|refine c6.use ?_|refine c7.use ?_|(intro nn hnn;generalize hg:BZ _ nn _=Z;refine GF hg fun hs=>?_;clear hg)|clear U K)<;>conv=>whnf)
    all_goals exact⟨hjl,(),rfl,hn,hs.less ((Gg _ _).trans (Gg _ _))⟩
   .cases hi2:O0 w g f<;>rw[hi2]at c8 hn
    .conv=>whnf
     repeat'((first|apply st|(apply sq;intro K U)|(apply si;intro A B hA hB)|(refine hA _ _ ?_;clear hB B hA A)|(apply U;clear U K)|refine⟨rfl,?_⟩|refine⟨kZ,?_⟩|refine ld ?_|refine FX fun Z hs=>?_|refine oi ?_|refine cL ?_|refine SG ?_|(refine NT (fun hc=>?_)<;>(try rw[hc])<;>clear hc)|refine c6.use ?_|refine c7.use ?_|refine c8.use ?_|(intro nn hnn;generalize hg:BZ _ nn _=Z;refine GF hg fun hs=>?_;clear hg)|clear U K)<;>conv=>whnf)
     all_goals exact⟨hjl,(),rfl,hn,hs.less ((Gg _ _).trans (Gg _ _))⟩
    .conv=>whnf
     repeat'((first|apply st|(apply sq;intro K U)|(apply si;intro A B hA hB)|(refine hA _ _ ?_;clear hB B hA A)|(apply U;clear U K)|refine⟨rfl,?_⟩|refine⟨kZ,?_⟩|refine ld ?_|refine FX fun Z hs=>?_|refine oi ?_|refine cL ?_|refine Zg ?_|(refine NT (fun hc=>?_)<;>(try rw[hc])<;>clear hc)|refine c6.use ?_|refine c7.use ?_|refine c8.use ?_|(intro nn hnn;generalize hg:BZ _ nn _=Z;refine GF hg fun hs=>?_;clear hg)|clear U K)<;>conv=>whnf)
     rw[hst _ hn];exact Au hs (.cons _ (.cons _ (.cons₂ _ (.cons₂ _ (.cons₂ _ (.cons₂ _ (.cons _ .slnil))))))) (.refl _) fun Z' hs'=>⟨rfl,hs'⟩
  .rw[hje,List.drop_of_length_le (Ft _),List.map_nil,List.find?_nil]at hn
   conv=>whnf
   repeat'((first|apply st|(apply sq;intro K U)|(apply si;intro A B hA hB)|(refine hA _ _ ?_;clear hB B hA A)|(apply U;clear U K)|refine⟨rfl,?_⟩|(refine SF (fun hc=>?_)<;>(try rw[hc])<;>clear hc)|clear U K)<;>conv=>whnf)
   rw[hst _ hn];exact Au hs (.cons₂ _ (.cons₂ _ (.cons₂ _ (.cons₂ _ (.cons _ .slnil))))) (.refl _) fun Z' hs'=>⟨rfl,hs'⟩
end Go.Gl
namespace Go.Gl
def Le (op:Int):Bool:=op==2||(op==3||op==4)
def VE (op:Int):Nat:=if op=5 then 0 else if op=6\/op=7 then 0 else 1
def aN (op:Int):Nat:=if Le op then 2 else 1
def aM (op:Int):Nat:=if Le op then 3 else 1
def P9 (f:Fact):CC f=GL (fun _=>1) f:=by
 induction f using Fact.ind with
 | h f ih=>
   rw[EU,FD,List.map_congr_left ih]
def OM (f:Fact):arity f=true->lv f=GL VE f:=by
 induction f using Fact.ind with
 | h f ih=>
   intro har;have h2:=har;rw[FM,A4,CF,Cu]at h2;rw[Js,Ze,FD,VE];by_cases h5:f.op=5
   .obtain⟨a,ha,hb⟩:=ED har h5
    rw[if_pos h5,if_pos h5,ha];simpa using ih a (by rw[ha];exact .head _) hb
   .rw[if_neg h5,if_neg h5]
    by_cases h6:f.op=6\/f.op=7
    .obtain⟨a,b,ha,hb,hc⟩:=EC har h6
     rw[if_pos h6,if_pos h6,ha];have e1:=ih a (by rw[ha];exact .head _) hb;have e2:=ih b (by rw[ha];exact .tail _ (.head _)) hc;simp[e1,e2]
    .rw[if_neg h6,if_neg h6]
     have:f.kids= []:=Xv.1 (by rw[h2.1,Bp,if_neg h5,if_neg h6]);rw[this];rfl
def Vg {a b:Int->Nat} {c:Nat} (h: ∀o,a o<=c*b o) (f:Fact):GL a f<=c*GL b f:=by
 induction f using Fact.ind with
 | h f ih=>
   rw[FD,FD,Nat.mul_add]
   have hl: ∀l:List Fact,(∀k∈l,GL a k<=c*GL b k)->(l.map (GL a)).sum<=c*(l.map (GL b)).sum:=fun l=>by
    induction l with
    | nil=>exact fun _=>by simp
    | cons k r ih2=>
      intro hk;have h1:=hk k (.head _);have h2:=ih2 fun x hx=>hk x (.tail _ hx)
      simp only[CK,List.sum_cons,Nat.mul_add];omega
   have:=hl f.kids ih;have:=h f.op;omega
def Nd (a:Int->Nat) {f k:Fact} (h:k∈f.kids):a f.op+GL a k<=GL a f:=by
 obtain⟨l1,l2,he⟩:=List.append_of_mem h;rw[FD a f,he];simp only[LX,CK,List.sum_append,List.sum_cons];omega
def De {w:AF} {f:Fact} (h:Ae w f=true): ∀k∈f.kids,Ae w k=true:=by
 rw[BS,A4,Cu]at h;exact h.2
def QT {w:AF} {f:Fact} {l:List Fact} (h:Ae w f=true) (hl:l.length=f.kids.length) (hk: ∀k∈l,Ae w k=true):Ae w (wk f l)=true:=by
 rw[BS,A4,Cu]at *;refine⟨?_,hk⟩;have:=h.1;cases f;simp only[CE,PY,Be,wk,Fact.op,Fact.arg,Fact.path,Fact.cls,Fact.n,Fact.kids]at *;rw[hl];exact this
def PH {w : AF} {x:Fact} (h:Ae w x=true):x.op=1/\x=C6\/Le x.op=true\/(x.op=5\/x.op=6\/x.op=7)/\x.arg=0/\x.path= []/\x.cls=0/\x.n=0:=by
 rw[BS,A4]at h;have h1:=h.1;rw[CE,A4]at h1;obtain⟨hop,h1⟩:=h1;cases x with
 | mk o a p c n k=>
   by_cases h2:o=2
   .right;left;simp[Le,Fact.op,h2]
   .by_cases h3:o=3\/o=4
    .right;left;rcases h3 with h3|h3<;>simp[Le,Fact.op,h3]
    .rw[PY,if_neg (show¬(Fact.mk o a p c n k).op=2 from h2),if_neg (show¬((Fact.mk o a p c n k).op=3\/(Fact.mk o a p c n k).op=4) from h3)]at hop
     simp only[Be,Fact.op,Fact.arg,Fact.path,Fact.cls,Fact.n,Fact.kids,A4,B7,EW,CF]at *;obtain⟨e2,-,-,-,e6⟩:=h1
     have e7:a=0/\p= []/\c=0/\n=0:=by
      rcases e6 with e6|⟨q1,q2,q3,q4⟩
      .omega
      .exact⟨q1,Xv.1 q2,q3,q4⟩
     obtain⟨rfl,rfl,rfl,rfl⟩:=e7;rcases hop with((rfl|rfl)|rfl)|rfl
     .left
      have:k= []:=Xv.1 (by rw[e2];rfl);exact⟨rfl,by rw[this]⟩
     .exact .inr (.inr ⟨.inl rfl,rfl,rfl,rfl,rfl⟩)
     .exact .inr (.inr ⟨.inr (.inl rfl),rfl,rfl,rfl,rfl⟩)
     .exact .inr (.inr ⟨.inr (.inr rfl),rfl,rfl,rfl,rfl⟩)
def bg {w:AF} {x:Fact} (h:Ae w x=true):IG x=LO x:=by
 have e:(x.op=1)↔CW x C6=true:=by
  rw[Ev];constructor
  .intro h1
   rcases PH h with⟨_,h2⟩|h2|⟨h2,_⟩
   .exact h2
   .simp[Le]at h2;omega
   .omega
  .rintro rfl;rfl
 rw[IG,LO];by_cases h1:x.op=1
 .rw[if_pos h1,if_pos (e.1 h1)]
 .rw[if_neg h1,if_neg fun h2=>h1 (e.2 h2)]
def Ns (w:AF):Ae w C6=true:=by
 rw[BS];simp[CE,PY,Bp,EH,Be,Fact.op,Fact.arg,Fact.path,Fact.cls,Fact.n,Fact.kids]
def lB (w:AF):Ae w Fb=true:=by
 rw[BS,Fb,Ca];simp[CE,PY,Bp,EH,Be,Fact.op,Fact.arg,Fact.path,Fact.cls,Fact.n,Fact.kids];exact Ns w
def OD {w:AF} {x:Fact} (h:Ae w x=true): ∀y∈LO x,Ae w y=true:=fun y hy=>by
 rw[LO]at hy;rcases Dn.1 hy with hy|hy
 .split at hy
  .cases hy
  .split at hy
   .simp at hy;subst hy;exact Ns w
   .simp at hy
    rcases hy with rfl|rfl
    .exact Ns w
    .exact lB w
 .exact De h y hy
end Go.Gl
