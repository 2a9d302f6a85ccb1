import Derived.Test.YtcfkfhaedllcpaaGreatV11
import Derived.Test.YtcfkfhaedllcpaaGreatV24
import Derived.Test.YtcfkfhaedllcpaaGreatV25
import Derived.Test.YtcfkfhaedllcpaaGreatV32
import Derived.Test.YtcfkfhaedllcpaaGreatV34
import Derived.Test.YtcfkfhaedllcpaaGreatV35
import Derived.Test.YtcfkfhaedllcpaaGreatV36
set_option linter.all false
set_option linter.defProp false
set_option maxHeartbeats 8000000
noncomputable section
namespace Go.Gl
open Go.Proofs
def kg {l:List (Int×Int)} {x:Int×Int} {fl:Bool} {K:V->Prop} (hx:l.getLast? =some x) (hl:l.length<=60) (h:K (.rp (pI x))):AR 2 none (.l (pP l) fl) (.i .i64 (IntKind.i64.wrap (((pP l).length:Nat) - 1))) K:=by
 have hne:l≠[]:=fun e=>by rw[e]at hx;cases hx
 have h0:0<l.length:=List.length_pos_iff.2 hne;rw[BL,wrap64 (by omega) (by omega)];refine RZ (enc:=pI) (l.length - 1) (x:=x) ?_ (by omega) rfl h;rw[List.getLast?_eq_getElem?]at hx;exact hx
def Xn {x:Int×Int} {r:List (Int×Int)} {fl:Bool} {Z:AE} {K:V->AE->Prop} (h:K (.l (pP r) fl) Z):AQ Z 2 (.l (pP (x::r)) fl) (some (.i .i64 1)) none none K:=by
 refine⟨fun e he=>?_,?_⟩
 .obtain⟨y,_,rfl⟩:=Mt.1 he
  rfl
 .simp only[N2,BL,JD]
  refine⟨by omega,by omega,by omega,?_⟩;have e1:((((r.length+1:Nat):Int)).toNat)=(List.map pI (x::r)).length:=by simp
  rw[e1,List.take_length];simpa using h
def fg {x:Int×Int} {r:List (Int×Int)} {fl:Bool} {k:IntKind} {K:V->Prop} (h:K (.rp (pI x))):AR 2 none (.l (pP (x::r)) fl) (.i k 0) K:=RZ (enc:=pI) 0 (x:=x) rfl rfl rfl h
attribute [local irreducible] A6 Ar Ah AR AI Ae AQ AT AK Ad AN AO Ay A7 Sat AY A5 Ai W
def GY (v:Int×Int):Pure zP 101 [.a (pI v)] (eI (EL v)):=by
 obtain⟨k,x⟩:=v;refine wV kZ ?_;have hs:=Sn
 conv=>whnf
 repeat'((first|apply st|(apply sq;intro K U)|(apply si;intro A B hA hB)|(refine hA _ _ ?_;clear hB B hA A)|(apply U;clear U K)|refine⟨rfl,?_⟩|(constructor<;>intro hc<;>(try rw[hc])<;>(replace hc:=bp hc)<;>(try simp(disch:=omega) only[BL,wrap64,AM]at hc))|clear U K)<;>conv=>whnf)
 all_goals exact AF (by simp[EL, *])
def Tj (n:Int):Pure zP 103 [eI n] (.a (pI (1,ES n))):=by
 refine wT kZ ?_;have hs:=Sn
 conv=>whnf
 repeat'((first|apply st|(apply sq;intro K U)|(apply si;intro A B hA hB)|(refine hA _ _ ?_;clear hB B hA A)|(apply U;clear U K)|refine⟨rfl,?_⟩|refine⟨kZ,?_⟩|refine ld ?_|refine Gk fun Z hs=>?_|(intro nn hnn;generalize hg:BV _ nn _=Z;refine G5 hg fun hs=>?_;clear hg)|fail)<;>conv=>whnf)
 have e:(if 1000000000<(if -1000000000 > n then -1000000000 else n)then 1000000000 else(if -1000000000 > n then -1000000000 else n))=ES n:=by
  simp only[ES];omega
 rw[e];exact AF rfl
def dL (v:Int×Int):Pure zP 54 [.a (pI v)] (.b (I5 40 v)):=by
 obtain⟨k,x⟩:=v;refine yq kZ ?_;have hs:=Sn
 conv=>whnf
 repeat'((first|apply st|(apply sq;intro K U)|(apply si;intro A B hA hB)|(refine hA _ _ ?_;clear hB B hA A)|(apply U;clear U K)|refine⟨rfl,?_⟩|(constructor<;>intro hc<;>(try rw[hc])<;>(replace hc:=bp hc)<;>(try simp(disch:=omega) only[BL,wrap64,AM]at hc))|clear U K)<;>conv=>whnf)
 all_goals exact AF (by simp[I5, *]<;>omega)
def x3 (v:Int×Int):Pure zP 53 [.a (pI v)] (.b (!I5 40 v)):=by
 have c1:=dL v;refine yr kZ ?_;have hs:=Sn
 conv=>whnf
 repeat'((first|apply st|(apply sq;intro K U)|(apply si;intro A B hA hB)|(refine hA _ _ ?_;clear hB B hA A)|(apply U;clear U K)|refine⟨kZ,?_⟩|refine c1.use ?_|fail)<;>conv=>whnf)
 all_goals exact AF rfl
def dW (f:Int) (v:Int×Int):Pure zP 57 [eI f,.a (pI v)] (.b (B2 f v)):=by
 have c1:=GY v;rw[B2];generalize EL v=n at *;refine yn kZ ?_;have hs:=Sn
 conv=>whnf
 repeat'((first|apply st|(apply sq;intro K U)|(apply si;intro A B hA hB)|(refine hA _ _ ?_;clear hB B hA A)|(apply U;clear U K)|refine⟨rfl,?_⟩|refine⟨kZ,?_⟩|refine Gn ?_|refine c1.use ?_|(constructor<;>intro hc<;>(try rw[hc])<;>(replace hc:=bp hc)<;>try(exfalso;omega))|fail)<;>conv=>whnf)
 all_goals first|(exfalso;cases hc;done)|(exact AF (by simp[*];done))|(refine AF ?_;simp_all;done)|trace_state
def Yn (f:Int) (v:Int×Int):Pure zP 56 [.a (pI v),.rp [eI f]] (.b (B2 f v)):=by
 have c1:=dW f v;refine yo kZ ?_;have hs:=Sn
 conv=>whnf
 repeat'((first|apply st|(apply sq;intro K U)|(apply si;intro A B hA hB)|(refine hA _ _ ?_;clear hB B hA A)|(apply U;clear U K)|refine⟨kZ,?_⟩|refine c1.use ?_|fail)<;>conv=>whnf)
 all_goals exact AF rfl
def WG (l:List (Int×Int)) (fl:Bool) {g:FuncId} {cap:List V} {q:Int×Int->Bool} (hg: ∀v,Pure zP g (.a (pI v)::cap) (.b (q v))) :
    Pure zP 55 [.l (pP l) fl,.f (.func g) [] cap] (eI (Et q 0 l)):=by
 refine Pure.fit (by kernel_rfl) fun hf=>?_
 have hl:l.length<=AX:=by
  have:=hf.1;simp only[Ex,BL]at this;exact this.1
 have hM:=Mx;refine yp kZ ?_;have hs:=Sn
 conv=>whnf
 repeat'((first|apply st|(apply sq;intro K U)|(apply si;intro A B hA hB)|(refine hA _ _ ?_;clear hB B hA A)|(apply U;clear U K)|fail)<;>conv=>whnf)
 refine By l.length (fun k (_:Unit)=>[(8,eI (A9 k))]) (fun _ _=>[]) (fun k _=>Et q 0 l=Et q k (l.drop k)) () rfl rfl hs ?_;clear hs;rintro k - Z hk hn hs;have hck:A9 k=k:=AM (by omega);rcases A3 l hk with⟨x,hx,hlt⟩|hke
 .have c1:Pure zP g ([]++[.a (pI x)]++cap) (.b (q x)):=hg x
  rw[drop_cons hx,Et]at hn;cases hv:q x<;>rw[hv]at c1 hn
  .conv=>whnf
   repeat'((first|apply st|(apply sq;intro K U)|(apply si;intro A B hA hB)|(refine hA _ _ ?_;clear hB B hA A)|(apply U;clear U K)|refine⟨rfl,?_⟩|refine⟨kZ,?_⟩|refine ix ?_|(refine OY (fun hc=>?_)<;>(try rw[hc])<;>clear hc)|refine Bh (c1.use ?_)|clear U K)<;>conv=>whnf)
   exact⟨hlt,(),rfl,by rw[hn,if_neg (by decide)],hs⟩
  .conv=>whnf
   repeat'((first|apply st|(apply sq;intro K U)|(apply si;intro A B hA hB)|(refine hA _ _ ?_;clear hB B hA A)|(apply U;clear U K)|refine⟨rfl,?_⟩|refine⟨kZ,?_⟩|refine ix ?_|(refine OY (fun hc=>?_)<;>(try rw[hc])<;>clear hc)|refine Bh (c1.use ?_)|clear U K)<;>conv=>whnf)
   exact AF (by rw[hn,if_pos rfl,hck])
 .conv=>whnf
  repeat'((first|apply st|(apply sq;intro K U)|(apply si;intro A B hA hB)|(refine hA _ _ ?_;clear hB B hA A)|(apply U;clear U K)|refine⟨rfl,?_⟩|(refine XQ (fun hc=>?_)<;>(try rw[hc])<;>clear hc)|clear U K)<;>conv=>whnf)
  exact AF (by rw[hn,Al hke];rfl)
def XJ (l:List (Int×Int)) (fl:Bool) {g:FuncId} {cap:List V} {q:Int×Int->Bool} (hg: ∀v,Pure zP g (.a (pI v)::cap) (.b (q v))) :
    Pure zP 52 [.l (pP l) fl,.f (.func g) [] cap] (.b (l.any q)):=by
 have c1:=WG l fl hg;refine yu kZ ?_;have hs:=Sn
 conv=>whnf
 repeat'((first|apply st|(apply sq;intro K U)|(apply si;intro A B hA hB)|(refine hA _ _ ?_;clear hB B hA A)|(apply U;clear U K)|refine⟨rfl,?_⟩|refine c1.use ?_|fail)<;>conv=>whnf)
 have:=P0 (q:=q) l 0;cases ha:l.any q
 .exact AF (by simp[this.1.1 ha])
 .exact AF (by simpa using this.2.1 ha)
def wm (a b:Int) (h1:Lb a) (h2:Lb b):Pure zP 102 [eI a,eI b] (eI (ES (a+b))):=by
 have c1:=Tj (a+b);have hw:IntKind.i64.wrap (a+b)=a+b:=by unfold Lb at h1 h2;exact wrap64 (by omega) (by omega)
 rw[<-hw]at c1;refine wU kZ ?_;have hs:=Sn
 conv=>whnf
 repeat'((first|apply st|(apply sq;intro K U)|(apply si;intro A B hA hB)|(refine hA _ _ ?_;clear hB B hA A)|(apply U;clear U K)|refine⟨rfl,?_⟩|refine c1.use ?_|fail)<;>conv=>whnf)
 rw[hw];exact AF rfl
def sB (a b:Int):Pure zP 104 [eI a,eI b] (eI (min a b)):=by
 refine wS kZ ?_;have hs:=Sn
 conv=>whnf
 repeat'((first|apply st|(apply sq;intro K U)|(apply si;intro A B hA hB)|(refine hA _ _ ?_;clear hB B hA A)|(apply U;clear U K)|refine⟨rfl,?_⟩|fail)<;>conv=>whnf)
 exact AF (congrArg (V.i _) (by omega))
def sC (a b:Int):Pure zP 105 [eI a,eI b] (eI (max a b)):=by
 refine wR kZ ?_;have hs:=Sn
 conv=>whnf
 repeat'((first|apply st|(apply sq;intro K U)|(apply si;intro A B hA hB)|(refine hA _ _ ?_;clear hB B hA A)|(apply U;clear U K)|refine⟨rfl,?_⟩|fail)<;>conv=>whnf)
 exact AF (congrArg (V.i _) (by omega))
def nD (f:Int) (hf:f=1\/f=5\/f=6) (l:List (Int×Int)) (x:Int×Int) (hx:l.getLast? =some x) (fl:Bool) (hl:l.length<=60):Pure zP 58 [eI f,.l (pP l) fl] (.a (pI x)):=by
 rcases hf with rfl|rfl|rfl<;>refine ZQ kZ ?_<;>have hs:=Sn
 all_goals
  conv=>whnf
  repeat'((first|apply st|(apply sq;intro K U)|(apply si;intro A B hA hB)|(refine hA _ _ ?_;clear hB B hA A)|(apply U;clear U K)|refine⟨rfl,?_⟩|refine⟨kZ,?_⟩|refine eQ ?_|refine ld ?_|refine Gk fun Z hs=>?_|refine Uy ?_|refine kg hx hl ?_|(intro nn hnn;generalize hg:BV _ nn _=Z;refine G5 hg fun hs=>?_;clear hg)|clear U K)<;>conv=>whnf)
  exact AF rfl
def l9 (x:Int×Int) (r:List (Int×Int)) (hx0:Lb (EL x)) (hr: ∀v∈r,Lb (EL v)) (fl:Bool) (hl:r.length<=60):Pure zP 58 [eI 2,.l (pP (x::r)) fl] (.a (pI (1,JG 2 x r))):=by
 have hM:=Mx;refine ZQ kZ ?_;have hs:=Sn
 conv=>whnf
 repeat'((first|apply st|(apply sq;intro K U)|(apply si;intro A B hA hB)|(refine hA _ _ ?_;clear hB B hA A)|(apply U;clear U K)|refine⟨kZ,?_⟩|refine eQ ?_|refine ld ?_|refine Gk fun Z hs=>?_|refine Xn ?_|refine fg ?_|refine Pure.use (GY _) ?_|(intro nn hnn;generalize hg:BV _ nn _=Z;refine G5 hg fun hs=>?_;clear hg)|fail)<;>conv=>whnf)
 rename_i nA _ _ _ _ _;refine By r.length (fun k (n:Int)=>[(7,eI n),(29,eI (A9 k))]) (fun _ _=>[.box nA [eI 0,eI 0]]) (fun k n=>n=JG 2 x (r.take k)) (EL x) rfl rfl (hs.less (LW _ _)) ?_;clear hs;rintro k n Z hk hn hs;have hn2:Lb n:=hn ▸ Pa _ hx0 fun v hv=>hr v (List.mem_of_mem_take hv)
 rcases A3 r hk with⟨y,hy,hlt⟩|hke
 .have hv:=hr _ (Bz hy)
  conv=>whnf
  repeat'((first|apply st|(apply sq;intro K U)|(apply si;intro A B hA hB)|(refine hA _ _ ?_;clear hB B hA A)|(apply U;clear U K)|refine⟨rfl,?_⟩|refine⟨kZ,?_⟩|refine ix ?_|refine ld ?_|refine Gk fun Z hs=>?_|(refine OY (fun hc=>?_)<;>(try rw[hc])<;>clear hc)|refine Pure.use (GY _) ?_|refine Bh (Pure.use (P:=_) (wm _ _ hn2 hv) ?_)|(intro nn hnn;generalize hg:BV _ nn _=Z;refine G5 hg fun hs=>?_;clear hg)|clear U K)<;>conv=>whnf)
  refine⟨hlt,_,rfl,?_,hs.less (LW _ _)⟩;rw[AL hy,JG,List.foldl_append,<-JG,<-hn];rfl
 .conv=>whnf
  repeat'((first|apply st|(apply sq;intro K U)|(apply si;intro A B hA hB)|(refine hA _ _ ?_;clear hB B hA A)|(apply U;clear U K)|refine⟨rfl,?_⟩|refine⟨kZ,?_⟩|refine ld ?_|refine Gk fun Z hs=>?_|(refine XQ (fun hc=>?_)<;>(try rw[hc])<;>clear hc)|refine Pure.use (Tj _) ?_|clear U K)<;>conv=>whnf)
  rw[Ap hke]at hn;have hfn:ES n=n:=QC hn2;refine AF ?_;rw[<-hn,hfn];rfl
def l8 (x:Int×Int) (r:List (Int×Int)) (hx0:Lb (EL x)) (hr: ∀v∈r,Lb (EL v)) (fl:Bool) (hl:r.length<=60):Pure zP 58 [eI 3,.l (pP (x::r)) fl] (.a (pI (1,JG 3 x r))):=by
 have hM:=Mx;refine ZQ kZ ?_;have hs:=Sn
 conv=>whnf
 repeat'((first|apply st|(apply sq;intro K U)|(apply si;intro A B hA hB)|(refine hA _ _ ?_;clear hB B hA A)|(apply U;clear U K)|refine⟨kZ,?_⟩|refine eQ ?_|refine ld ?_|refine Gk fun Z hs=>?_|refine Xn ?_|refine fg ?_|refine Pure.use (GY _) ?_|(intro nn hnn;generalize hg:BV _ nn _=Z;refine G5 hg fun hs=>?_;clear hg)|fail)<;>conv=>whnf)
 rename_i nA _ _ _ _ _;refine By r.length (fun k (n:Int)=>[(7,eI n),(29,eI (A9 k))]) (fun _ _=>[.box nA [eI 0,eI 0]]) (fun k n=>n=JG 3 x (r.take k)) (EL x) rfl rfl (hs.less (LW _ _)) ?_;clear hs;rintro k n Z hk hn hs;have hn2:Lb n:=hn ▸ Pa _ hx0 fun v hv=>hr v (List.mem_of_mem_take hv)
 rcases A3 r hk with⟨y,hy,hlt⟩|hke
 .have hv:=hr _ (Bz hy)
  conv=>whnf
  repeat'((first|apply st|(apply sq;intro K U)|(apply si;intro A B hA hB)|(refine hA _ _ ?_;clear hB B hA A)|(apply U;clear U K)|refine⟨rfl,?_⟩|refine⟨kZ,?_⟩|refine ix ?_|refine ld ?_|refine Gk fun Z hs=>?_|(refine OY (fun hc=>?_)<;>(try rw[hc])<;>clear hc)|refine Pure.use (GY _) ?_|refine Bh (Pure.use (P:=_) (sB _ _) ?_)|(intro nn hnn;generalize hg:BV _ nn _=Z;refine G5 hg fun hs=>?_;clear hg)|clear U K)<;>conv=>whnf)
  refine⟨hlt,_,rfl,?_,hs.less (LW _ _)⟩;rw[AL hy,JG,List.foldl_append,<-JG,<-hn];rfl
 .conv=>whnf
  repeat'((first|apply st|(apply sq;intro K U)|(apply si;intro A B hA hB)|(refine hA _ _ ?_;clear hB B hA A)|(apply U;clear U K)|refine⟨rfl,?_⟩|refine⟨kZ,?_⟩|refine ld ?_|refine Gk fun Z hs=>?_|(refine XQ (fun hc=>?_)<;>(try rw[hc])<;>clear hc)|refine Pure.use (Tj _) ?_|clear U K)<;>conv=>whnf)
  rw[Ap hke]at hn;have hfn:ES n=n:=QC hn2;refine AF ?_;rw[<-hn,hfn];rfl
def l7 (x:Int×Int) (r:List (Int×Int)) (hx0:Lb (EL x)) (hr: ∀v∈r,Lb (EL v)) (fl:Bool) (hl:r.length<=60):Pure zP 58 [eI 4,.l (pP (x::r)) fl] (.a (pI (1,JG 4 x r))):=by
 have hM:=Mx;refine ZQ kZ ?_;have hs:=Sn
 conv=>whnf
 repeat'((first|apply st|(apply sq;intro K U)|(apply si;intro A B hA hB)|(refine hA _ _ ?_;clear hB B hA A)|(apply U;clear U K)|refine⟨kZ,?_⟩|refine eQ ?_|refine ld ?_|refine Gk fun Z hs=>?_|refine Xn ?_|refine fg ?_|refine Pure.use (GY _) ?_|(intro nn hnn;generalize hg:BV _ nn _=Z;refine G5 hg fun hs=>?_;clear hg)|fail)<;>conv=>whnf)
 rename_i nA _ _ _ _ _;refine By r.length (fun k (n:Int)=>[(7,eI n),(29,eI (A9 k))]) (fun _ _=>[.box nA [eI 0,eI 0]]) (fun k n=>n=JG 4 x (r.take k)) (EL x) rfl rfl (hs.less (LW _ _)) ?_;clear hs;rintro k n Z hk hn hs;have hn2:Lb n:=hn ▸ Pa _ hx0 fun v hv=>hr v (List.mem_of_mem_take hv)
 rcases A3 r hk with⟨y,hy,hlt⟩|hke
 .have hv:=hr _ (Bz hy)
  conv=>whnf
  repeat'((first|apply st|(apply sq;intro K U)|(apply si;intro A B hA hB)|(refine hA _ _ ?_;clear hB B hA A)|(apply U;clear U K)|refine⟨rfl,?_⟩|refine⟨kZ,?_⟩|refine ix ?_|refine ld ?_|refine Gk fun Z hs=>?_|(refine OY (fun hc=>?_)<;>(try rw[hc])<;>clear hc)|refine Pure.use (GY _) ?_|refine Bh (Pure.use (P:=_) (sC _ _) ?_)|(intro nn hnn;generalize hg:BV _ nn _=Z;refine G5 hg fun hs=>?_;clear hg)|clear U K)<;>conv=>whnf)
  refine⟨hlt,_,rfl,?_,hs.less (LW _ _)⟩;rw[AL hy,JG,List.foldl_append,<-JG,<-hn];rfl
 .conv=>whnf
  repeat'((first|apply st|(apply sq;intro K U)|(apply si;intro A B hA hB)|(refine hA _ _ ?_;clear hB B hA A)|(apply U;clear U K)|refine⟨rfl,?_⟩|refine⟨kZ,?_⟩|refine ld ?_|refine Gk fun Z hs=>?_|(refine XQ (fun hc=>?_)<;>(try rw[hc])<;>clear hc)|refine Pure.use (Tj _) ?_|clear U K)<;>conv=>whnf)
  rw[Ap hke]at hn;have hfn:ES n=n:=QC hn2;refine AF ?_;rw[<-hn,hfn];rfl
def n8 (f:Int) (h1:C1 f=true) (l:List (Int×Int)) (hne:l≠[]) (hv: ∀v∈l,I5 40 v=true) (fl:Bool) (hl:l.length<=60):Pure zP 58 [eI f,.l (pP l) fl] (.a (pI (Ln f l))):=by
 obtain⟨x,r,rfl⟩:=List.exists_cons_of_ne_nil hne;rw[C1,BD,CD,CD]at h1;have hrl:r.length<=60:=by rw[JD]at hl;omega
 have hx0:=ZL (hv x (.head _));have hr: ∀v∈r,Lb (EL v):=fun v hm=>ZL (hv v (.tail _ hm))
 by_cases hf:f=2\/f=3\/f=4
 .rw[Ln,if_pos hf]
  rcases hf with rfl|rfl|rfl
  .exact l9 x r hx0 hr fl hrl
  .exact l8 x r hx0 hr fl hrl
  .exact l7 x r hx0 hr fl hrl
 .obtain⟨y,hy⟩: ∃y,(x::r).getLast? =some y:=⟨_,List.getLast?_eq_some_getLast (by simp)⟩
  rw[Ln,if_neg hf,hy,Option.getD_some];exact nD f (by omega) _ y hy fl hl
end Go.Gl
namespace Go.Gl
open Go.Proofs
attribute [local irreducible] A6 Ar Ah AR AI Ae AQ AT AK Ad AN AO Ay A7 Sat AY A5 Ai W
attribute [local irreducible] Fz
end Go.Gl
namespace Go.Gl
open Go.Proofs
attribute [local irreducible] A6 Ar Ah AR AI Ae AQ AT AK Ad AN AO Ay A7 Sat AY A5 Ai W
def yY {q:RN} (h:Eu (.a (JK q))):q.Cf.length<=AX/\q.Bv.length<=AX/\q.cls.length<=AX:=by
 simp only[JK,GV,C9,Ex,BL]at h;exact⟨h.1.1,h.2.1.1,h.2.2.1.1⟩
def sN (q:RN):Pure zP 11 [.a (JK q)] (.b (!Ew q)):=by
 refine Pure.fit (by kernel_rfl) fun hf=>?_
 have⟨p1,p2,p3⟩:=yY hf.1;have hM:=Mx;have e1:((q.Cf.map Ta).length:Int)=q.Cf.length:=by simp
 have e2:((q.Bv.map VB).length:Int)=q.Bv.length:=by simp
 have e3:((iL q.cls).length:Int)=q.cls.length:=by simp
 cases h:Ew q
 .have hn: ¬(q.Cf.length<=60/\q.Bv.length<=60/\q.cls.length<=60):=fun hc=>by
   have:Ew q=true:=by simpa[Ew]using hc
   rw[this]at h;cases h
  refine pq kZ ?_;have hs:=Sn
  conv=>whnf
  repeat'((first|apply st|(apply sq;intro K U)|(apply si;intro A B hA hB)|(refine hA _ _ ?_;clear hB B hA A)|(apply U;clear U K)|refine⟨rfl,?_⟩|(constructor<;>intro hc<;>(try rw[hc])<;>(replace hc:=bp hc)<;>(try simp(disch:=omega) only[BL,wrap64,AM]at hc))|fail)<;>conv=>whnf)
  all_goals first
   | exact AF rfl
   | (exfalso;omega)
   | exact AF (by rw[decide_eq_true (by omega)];rfl)
 .have⟨h1,h2,h3⟩:=GD h
  refine pq kZ ?_;have hs:=Sn
  conv=>whnf
  repeat'((first|apply st|(apply sq;intro K U)|(apply si;intro A B hA hB)|(refine hA _ _ ?_;clear hB B hA A)|(apply U;clear U K)|refine⟨rfl,?_⟩|(constructor<;>intro hc<;>(try rw[hc])<;>(replace hc:=bp hc)<;>(try simp(disch:=omega) only[BL,wrap64,AM]at hc)<;>try(exfalso;omega))|fail)<;>conv=>whnf)
  all_goals first
   | exact AF rfl
   | (exfalso;omega)
   | exact AF (by rw[decide_eq_false (by omega)];rfl)
abbrev fdV (x:(Int×Int)×Int×Int):V:= .t [.a (pI x.1),eI x.2.1,eI x.2.2]
def ow (f:Int) (l:List (Int×Int)) (fl:Bool) (hl:l.length<=60):Pure zP 15 [eI f,.l (pP l) fl] (.t [.a (pI (PT f l).1),eI (PT f l).2.1,eI (PT f l).2.2]):=by
 have hM:=Mx;have e0:((pP l).length:Int)=l.length:=by simp
 have c1:=Z8 f;have c2:=XJ l fl (cap:=[]) x3;have hany:(l.any fun v=> !I5 40 v)= !l.all (I5 40):=by rw[List.all_eq_not_any_not,Bool.not_not]
 rw[hany]at c2;rw[PT];cases h1:C1 f<;>rw[h1]at c1
 .rw[Bool.false_and,if_neg (by decide)]
  refine Vc kZ ?_;have hs:=Sn
  conv=>whnf
  repeat'((first|apply st|(apply sq;intro K U)|(apply si;intro A B hA hB)|(refine hA _ _ ?_;clear hB B hA A)|(apply U;clear U K)|refine⟨kZ,?_⟩|refine ld ?_|refine Gk fun Z hs=>?_|refine Od ?_|refine c1.use ?_|(intro nn hnn;generalize hg:BV _ nn _=Z;refine G5 hg fun hs=>?_;clear hg)|clear U K)<;>conv=>whnf)
  all_goals first|exact AF rfl|(refine AF ?_;rw[e,e0];rfl)|(refine AF ?_;rw[hw];rfl)|(exfalso;simp at hc;done)|(exfalso;omega)|trace_state
 cases h2:l.all (I5 40)<;>rw[h2]at c2
 .rw[Bool.and_false,if_neg (by decide)]
  refine Vc kZ ?_;have hs:=Sn
  conv=>whnf
  repeat'((first|apply st|(apply sq;intro K U)|(apply si;intro A B hA hB)|(refine hA _ _ ?_;clear hB B hA A)|(apply U;clear U K)|refine⟨kZ,?_⟩|refine ld ?_|refine Gk fun Z hs=>?_|refine Uy ?_|refine Gn ?_|refine c1.use ?_|refine c2.use ?_|(intro nn hnn;generalize hg:BV _ nn _=Z;refine G5 hg fun hs=>?_;clear hg)|clear U K)<;>conv=>whnf)
  all_goals first|exact AF rfl|(refine AF ?_;rw[e,e0];rfl)|(refine AF ?_;rw[hw];rfl)|(exfalso;simp at hc;done)|(exfalso;omega)|trace_state
 rw[Bool.and_self,if_pos rfl];by_cases hz:l= []
 .subst hz
  refine Vc kZ ?_;have hs:=Sn
  conv=>whnf
  repeat'((first|apply st|(apply sq;intro K U)|(apply si;intro A B hA hB)|(refine hA _ _ ?_;clear hB B hA A)|(apply U;clear U K)|refine⟨rfl,?_⟩|refine⟨kZ,?_⟩|refine ld ?_|refine Gk fun Z hs=>?_|refine Rp ?_|refine Gn ?_|refine c1.use ?_|refine c2.use ?_|(constructor<;>intro hc<;>(try rw[hc])<;>(replace hc:=bp hc)<;>(try simp(disch:=omega) only[BL,wrap64,AM]at hc))|(intro nn hnn;generalize hg:BV _ nn _=Z;refine G5 hg fun hs=>?_;clear hg)|clear U K)<;>conv=>whnf)
  all_goals first|exact AF rfl|(refine AF ?_;rw[e,e0];rfl)|(refine AF ?_;rw[hw];rfl)|(exfalso;simp at hc;done)|(exfalso;omega)|trace_state
 rw[if_neg (by simpa using hz)];have hpos:=List.length_pos_iff.2 hz;have hv:=Er.1 h2;have c3:=WG l fl (cap:=[.rp [eI f]]) (Yn f);have hn:=jQ (f:=f) hz;have hlt:=Xu (q:=B2 f) l 0
 have hneg:Et (B2 f) 0 l<0->Et (B2 f) 0 l= -1:=fun h=>by
  have:=P0 (q:=B2 f) l 0;cases ha:l.any (B2 f)with
  | true=>have:=this.2.1 ha;omega
  | false=>exact this.1.1 ha
 have hcall: ∀(N:Nat) (g:Bool),N=DZ f l->Pure zP 58 [eI f,.l (pP (l.take N)) g] (.a (pI (Ln f (l.take (DZ f l))))):=fun N g hN=>by
  subst hN;refine n8 f h1 (l.take (DZ f l)) (fun h=>?_) (fun v hm=>hv v (List.mem_of_mem_take hm)) g (by rw[LY];omega);have h2:(l.take (DZ f l)).length=0:=by rw[h];rfl
  rw[LY]at h2;omega
 by_cases hi:Et (B2 f) 0 l<0
 .have e:DZ f l=l.length:=by unfold DZ;rw[if_pos hi]
  rw[hneg hi]at c3;have c4:=fun g=>hcall (((pP l).length:Nat):Int).toNat g (by rw[e,e0];exact JC _)
  refine Vc kZ ?_;have hs:=Sn
  conv=>whnf
  repeat'((first|apply st|(apply sq;intro K U)|(apply si;intro A B hA hB)|(refine hA _ _ ?_;clear hB B hA A)|(apply U;clear U K)|apply dr|refine⟨rfl,?_⟩|refine⟨kZ,?_⟩|refine lI ?_|refine ld ?_|refine Gk fun Z hs=>?_|refine Rp ?_|refine Gn ?_|refine c1.use ?_|refine c2.use ?_|refine c3.use ?_|refine Pure.use (c4 _) ?_|(constructor<;>intro hc<;>(try rw[hc])<;>(replace hc:=bp hc)<;>(try simp(disch:=omega) only[BL,wrap64,AM]at hc)<;>try(exfalso;omega))|(intro nn hnn;generalize hg:BV _ nn _=Z;refine G5 hg fun hs=>?_;clear hg)|fail)<;>conv=>whnf)
  all_goals first|exact AF rfl|(refine AF ?_;rw[e,e0];rfl)|(refine AF ?_;rw[hw];rfl)|(exfalso;simp at hc;done)|(exfalso;omega)|trace_state
 .have e:(DZ f l:Int)=Et (B2 f) 0 l+1:=by unfold DZ;rw[if_neg hi];omega
  have hlt:=hlt (by omega);have hw:IntKind.i64.wrap (Et (B2 f) 0 l+1)=DZ f l:=by rw[wrap64 (by omega) (by omega),e]
  have c4:=fun g=>hcall (IntKind.i64.wrap (Et (B2 f) 0 l+1)).toNat g (by rw[hw];exact JC _)
  refine Vc kZ ?_;have hs:=Sn
  conv=>whnf
  repeat'((first|apply st|(apply sq;intro K U)|(apply si;intro A B hA hB)|(refine hA _ _ ?_;clear hB B hA A)|(apply U;clear U K)|apply dr|refine⟨rfl,?_⟩|refine⟨kZ,?_⟩|refine lI ?_|refine ld ?_|refine Gk fun Z hs=>?_|refine Rp ?_|refine Gn ?_|refine c1.use ?_|refine c2.use ?_|refine c3.use ?_|refine Pure.use (c4 _) ?_|(constructor<;>intro hc<;>(try rw[hc])<;>(replace hc:=bp hc)<;>(try simp(disch:=omega) only[BL,wrap64,AM]at hc)<;>try(exfalso;omega))|(intro nn hnn;generalize hg:BV _ nn _=Z;refine G5 hg fun hs=>?_;clear hg)|fail)<;>conv=>whnf)
  all_goals first|exact AF rfl|(refine AF ?_;rw[e,e0];rfl)|(refine AF ?_;rw[hw];rfl)|(exfalso;simp at hc;done)|(exfalso;omega)|trace_state
def ou (f:Int) (l:List (Int×Int)) (fl:Bool) (hl:l.length<=60):Pure zP 16 [eI f,.l (pP l) fl] (fdV (PT f l)):=by
 have hM:=Mx;have e0:((pP l).length:Int)=l.length:=by simp
 have c1:=Z7 f;have c2:=qu l fl 40;rw[PT];cases h1:C1 f<;>rw[h1]at c1
 .rw[Bool.false_and,if_neg (by decide)]
  refine ZS kZ ?_;have hs:=Sn
  conv=>whnf
  repeat'((first|apply st|(apply sq;intro K U)|(apply si;intro A B hA hB)|(refine hA _ _ ?_;clear hB B hA A)|(apply U;clear U K)|refine⟨kZ,?_⟩|refine ld ?_|refine Gk fun Z hs=>?_|refine Od ?_|refine c1.use ?_|(intro nn hnn;generalize hg:BV _ nn _=Z;refine G5 hg fun hs=>?_;clear hg)|clear U K)<;>conv=>whnf)
  all_goals first|exact AF rfl|(refine AF ?_;rw[e,e0];rfl)|(refine AF ?_;rw[hw];rfl)|(exfalso;simp at hc;done)|(exfalso;omega)|trace_state
 cases h2:l.all (I5 40)<;>rw[h2]at c2
 .rw[Bool.and_false,if_neg (by decide)]
  refine ZS kZ ?_;have hs:=Sn
  conv=>whnf
  repeat'((first|apply st|(apply sq;intro K U)|(apply si;intro A B hA hB)|(refine hA _ _ ?_;clear hB B hA A)|(apply U;clear U K)|refine⟨kZ,?_⟩|refine ld ?_|refine Gk fun Z hs=>?_|refine Uy ?_|refine Gn ?_|refine c1.use ?_|refine c2.use ?_|(intro nn hnn;generalize hg:BV _ nn _=Z;refine G5 hg fun hs=>?_;clear hg)|clear U K)<;>conv=>whnf)
  all_goals first|exact AF rfl|(refine AF ?_;rw[e,e0];rfl)|(refine AF ?_;rw[hw];rfl)|(exfalso;simp at hc;done)|(exfalso;omega)|trace_state
 rw[Bool.and_self,if_pos rfl];by_cases hz:l= []
 .subst hz
  refine ZS kZ ?_;have hs:=Sn
  conv=>whnf
  repeat'((first|apply st|(apply sq;intro K U)|(apply si;intro A B hA hB)|(refine hA _ _ ?_;clear hB B hA A)|(apply U;clear U K)|refine⟨rfl,?_⟩|refine⟨kZ,?_⟩|refine ld ?_|refine Gk fun Z hs=>?_|refine Rp ?_|refine Gn ?_|refine c1.use ?_|refine c2.use ?_|(constructor<;>intro hc<;>(try rw[hc])<;>(replace hc:=bp hc)<;>(try simp(disch:=omega) only[BL,wrap64,AM]at hc))|(intro nn hnn;generalize hg:BV _ nn _=Z;refine G5 hg fun hs=>?_;clear hg)|clear U K)<;>conv=>whnf)
  all_goals first|exact AF rfl|(refine AF ?_;rw[e,e0];rfl)|(refine AF ?_;rw[hw];rfl)|(exfalso;simp at hc;done)|(exfalso;omega)|trace_state
 rw[if_neg (by simpa using hz)];have hpos:=List.length_pos_iff.2 hz;have c3:=dQ f h1 l hz (Er.1 h2) fl hl;refine ZS kZ ?_;have hs:=Sn
 conv=>whnf
 repeat'((first|apply st|(apply sq;intro K U)|(apply si;intro A B hA hB)|(refine hA _ _ ?_;clear hB B hA A)|(apply U;clear U K)|refine⟨rfl,?_⟩|refine⟨kZ,?_⟩|refine ld ?_|refine Gk fun Z hs=>?_|refine Rp ?_|refine Gn ?_|refine c1.use ?_|refine c2.use ?_|refine c3.use ?_|(constructor<;>intro hc<;>(try rw[hc])<;>(replace hc:=bp hc)<;>(try simp(disch:=omega) only[BL,wrap64,AM]at hc)<;>try(exfalso;omega))|(intro nn hnn;generalize hg:BV _ nn _=Z;refine G5 hg fun hs=>?_;clear hg)|fail)<;>conv=>whnf)
 all_goals first|exact AF rfl|(exfalso;omega)|trace_state
def Nc (p:Prog) (q:RN) (l:List Int) (f:Bool) (fold:Int) (TN:List (Int×Int)) (g:Bool) (c0:Pure zP 12 [] (.b true)) :
    Pure zP 3 [.a (BK p),.a (JK q),.l (iL l) f,eI fold,.l (pP TN) g] (.b true):=by
 refine Pure.fit (by kernel_rfl) fun hf=>?_
 have hM:=Mx;have hlM:=Pd hf.2.2.1
 have hvM:TN.length<=AX:=by
  have:=hf.2.2.2.2.1;simp only[Ex,BL]at this;exact this.1
 have e0:((iL l).length:Int)=l.length:=by simp
 have e1:((pP TN).length:Int)=TN.length:=by simp
 have c1:=sN q;by_cases hq:Ew q=true/\l.length<=60/\TN.length<=60
 rotate_left
 .cases h:Ew q<;>rw[h]at c1 hq
  .refine qi kZ ?_
   have hs:=Sn
   conv=>whnf
   repeat'((first|apply st|(apply sq;intro K U)|(apply si;intro A B hA hB)|(refine hA _ _ ?_;clear hB B hA A)|(apply U;clear U K)|refine⟨kZ,?_⟩|refine Od ?_|refine c1.use ?_|refine c0.use ?_|clear U K)<;>conv=>whnf)
   all_goals first
    | exact AF rfl
    | (exfalso;omega)
    | (exfalso;simp at hc;done)
  .replace hq: ¬(l.length<=60/\TN.length<=60):=fun hc=>hq ⟨rfl,hc⟩
   refine qi kZ ?_;have hs:=Sn
   conv=>whnf
   repeat'((first|apply st|(apply sq;intro K U)|(apply si;intro A B hA hB)|(refine hA _ _ ?_;clear hB B hA A)|(apply U;clear U K)|refine⟨rfl,?_⟩|refine⟨kZ,?_⟩|refine Gn ?_|refine c1.use ?_|refine c0.use ?_|(constructor<;>intro hc<;>(try rw[hc])<;>(replace hc:=bp hc)<;>(try simp(disch:=omega) only[BL,wrap64,AM]at hc))|clear U K)<;>conv=>whnf)
   all_goals first
    | exact AF rfl
    | (exfalso;omega)
    | (exfalso;simp at hc;done)
    | (exfalso;simp only[Bool.not_true,cond_false,decide_eq_false_iff_not]at *;omega)
 obtain⟨h,h60,v60⟩:=hq;rw[h]at c1;have c2:=y9 p q h l f h60;have c3:=y8 p q h l f h60;have c4:=ow fold TN g v60;have c5:=ou fold TN g v60;have c6:=IQ (PQ p q l).1.1 (PQ p q l).1.1 false false;rw[beq_self_eq_true]at c6;generalize PQ p q l=x at *;generalize PT fold TN=y at *;obtain⟨⟨xs,t⟩,e⟩:=x;obtain⟨⟨k,n⟩,m,e'⟩:=y;dsimp only at c2 c3 c4 c5 c6;refine qi kZ ?_;have hs:=Sn
 conv=>whnf
 repeat'((first|apply st|(apply sq;intro K U)|(apply si;intro A B hA hB)|(refine hA _ _ ?_;clear hB B hA A)|(apply U;clear U K)|refine⟨rfl,?_⟩|refine⟨kZ,?_⟩|refine ld ?_|refine Gk fun Z hs=>?_|refine Gn ?_|refine c1.use ?_|refine c0.use ?_|refine c2.use ?_|refine c3.use ?_|refine c4.use ?_|refine c5.use ?_|refine c6.use ?_|(constructor<;>intro hc<;>(try rw[hc])<;>(replace hc:=bp hc)<;>(try simp(disch:=omega) only[BL,wrap64,AM]at hc)<;>try(exfalso;omega))|(intro nn hnn;generalize hg:BV _ nn _=Z;refine G5 hg fun hs=>?_;clear hg)|clear U K)<;>conv=>whnf)
 all_goals first
  | exact AF rfl
  | (exfalso;omega)
  | (exfalso;simp at hc;done)
end Go.Gl
namespace Go.Gl
variable {P:Program} {F:Nat->Prop} {Z:AE} {pu:List FuncId} {fz:List Nat}
def Yx {f:FuncId} {fn:Func} {ac:AV} (hf:P.funcs[f]? =some fn) (hok:okF P f=true) (hb:fn.body.bind (res P fn.ntmps pu fz)=some (erase ac)) (hr:fn.results= #[])
    {args:List V} (hn:args.length<=fn.ntmps) {Z:AE} {Q:AE->Prop} (h:T P ac (M8 Q) (A2 0 args) Z):HA P f args none Z Q:=by
 refine⟨hok,fun F w cs u hR hv hu=>?_⟩;simp only at hu;subst hu;obtain⟨c,hc,hb⟩:=Option.bind_eq_some_iff.1 hb
 have he:CG (Hh F Z w) (A2 0 args) (cs++Array.replicate (fn.ntmps - cs.size) undef):=by
  intro k v hg;obtain⟨_,h2⟩:=FZ args 0 k v hg;simp only[Nat.sub_zero]at h2;obtain⟨d,h3,h4⟩:=BY.1 hv.2 k v h2;simp only[G3]at h3;refine⟨d,?_,h4⟩;rw[Array.getElem?_append_left (by have:=(ox.1 h3).1;exact this)];exact h3
 have hsz0:(cs++Array.replicate (fn.ntmps - cs.size) undef).size=fn.ntmps:=by
  simp only[Array.size_append,Array.size_replicate];have:=hv.1;omega
 have hW:=EI (r:=none) (a:={tmps:=cs++Array.replicate (fn.ntmps - cs.size) undef,defers:=[]}) hb h he hR hsz0 Cr.none;refine⟨trivial,fun c₀ fs hu0 hroom=>?_⟩
 let b:Frame:={(default:Frame)with fn:=f,kind:= .deferred,roundOf:=none}
 have henter:Frame.enter P f cs .deferred=b.atR {tmps:=cs++Array.replicate (fn.ntmps - cs.size) undef,defers:=[]} [.code c]:=by
  simp[Frame.enter,Frame.atR,hf,hc,b]
 have hcm:({c₀ with mode:= .returning}:Frame)=c₀:=by cases c₀;simp_all
 have hres0: ∀(tm:Array Value) (w:World),(results fn tm).run P w= .ok (.tuple #[]) w:=fun tm w=>by
  rw[IS,hr];simp
 have out: ∀(m0:Machine) (a2:Act) (w2:World) (todo:List Item) (Z2:AE),StepsIn (Machine.fenced P (wide none)) P m0 (lone {b.atR a2 todo with mode:= .returning} (c₀::fs) w2)->Q Z2->Rel F Z2 w2->Bw F Z w Z2 w2->
  Marks none w Z2 w2 [] a2.defers-> ∃e u'' w' fr,((∃v,e=Ending.returned v)/\settle u''= .returning/\ ∃Z',Q Z'/\Rel F Z' w'/\Bw F Z w Z' w')/\
   ComesIn (Machine.fenced P (wide none)) P m0 (lone fr ({c₀ with mode:=u''}::fs) w') e/\fr.kind= .deferred/\fr.fn=f/\fr.going P w' e:=fun m0 a2 w2 todo Z2 hs hq hR2 hA2 ⟨ms,hms,hnd,hD,_⟩=>by
  obtain⟨w',q1,q2,q3⟩:=Xl (P:=P) (cs:=c₀::fs) ms {b.atR a2 todo with mode:= .returning} w2 hnd hD (by simp) (by simpa[Frame.atR]using hms) hR2 hA2;exact⟨.returned (.tuple #[]),.returning,w',_,⟨⟨_,rfl⟩,rfl,Z2,hq,q2,q3⟩,(by rw[hcm];exact hs.trans q1),rfl,rfl,rfl,rfl,fn,hf,hres0 _ _⟩
 obtain⟨e,a2,w2,hq,harr⟩:=hW b [] (c₀::fs) rfl ⟨fn,hf⟩;rw[henter];obtain⟨ex,env,Z2,hq,hx,he2,hR2,hA2,hN2,hM2⟩:=hq;cases ex with
 | exit id=>exact hq.elim
 | Bd v=>exact hq.elim
 | normal=>
   simp only[Dc]at hx;subst hx;exact out _ a2 w2 [] Z2 (StepsIn.trans harr (.one (Fm rfl) (stepR_end rfl))) hq hR2 hA2 hM2
 | ret=>
   simp only[Dc]at hx;subst hx;obtain⟨todo,hs⟩:=harr.1 rfl;exact out _ a2 w2 todo Z2 hs hq hR2 hA2 hM2
end Go.Gl
