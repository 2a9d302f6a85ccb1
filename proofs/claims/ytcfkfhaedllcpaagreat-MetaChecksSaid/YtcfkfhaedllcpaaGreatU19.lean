import Derived.Test.YtcfkfhaedllcpaaGreatU13
import Derived.Test.YtcfkfhaedllcpaaGreatU14
import Derived.Test.YtcfkfhaedllcpaaGreatU18
set_option linter.all false
set_option linter.defProp false
set_option maxHeartbeats 8000000
noncomputable section
namespace Go.Gl
open Go.Proofs
attribute [local irreducible] BD A3 Au AS AL Ao AU AV AM An AP AT BF BM Sat Af BK Aw W
def Lv {w:Ap} (f:Fact):Gk w f=true->Mm f=true:=by
 induction f using Fact.ind with
 | h f ih=>
   intro h;rw[It]at h;simp only[Dj,Ba,JD,DG]at h;rw[Le];simp only[Ba,DG,List.all_map,JD,Function.comp_apply,id];exact⟨⟨h.1.2.2.1,h.1.2.2.2.1⟩,fun k hk=>ih k hk (h.2 k hk)⟩
def Mc (p:Prog) (m:MT):Bool:=decide (1<=m.kind)&&(decide (m.kind<=4)&&(decide (0<=m.gen)&&(decide (m.gen<(p.Bc.length:Int))&&(FZ (Ab p) m.fact&&decide (FH m.fact<=p.Bc.getD m.gen.toNat 0)))))
def runM (p:Prog):List MT->List Int->Option (List Int)
 | [],s=>some s
 | m::r,s=>if Mc p m then match Bp p (HZ m.kind) 12 m.node (p.Bc.getD m.gen.toNat 0) s with
   | none=>none
   | some s'=>runM p r s' else none
def CW (p:Prog):Bool:=Ar p&&(decide (p.Bc.length<=8)&&(decide (p.methods.length<=16)&&(decide (1<=p.nodes.length)&&(decide (p.nodes.length<=120)&&p.Bc.all fun g=>decide (1<=g)&&decide (g<=3)))))
def BI (p:Prog):Option (List Int):=if CW p then match runM p p.methods (List.replicate p.nodes.length (-1))with
 | none=>none
 | some s=>match Bp p false 12 p.main 0 s with
   | none=>none
   | some s=>if s.all fun n=>decide (0<=n)then some s else none else none
def Ha (p:Prog):Option (List Int)->Option (List Int)
 | none=>none
 | some s=>match Bp p false 12 p.main 0 s with
   | none=>none
   | some s=>if s.all fun n=>decide (0<=n)then some s else none
def J4 (p:Prog):V:=match BI p with
 | none=> .t [.l [] true,.b false]
 | some s=> .t [.l (iL s) false,.b true]
def Zt {p:Prog} (h:BI p=none):J4 p= .t [.l [] true,.b false]:=by simp only[J4,h]
def gz {p:Prog} (h:CW p=false):J4 p= .t [.l [] true,.b false]:=Zt (by unfold BI;rw[h];rfl)
def IS {p:Prog} {Z:AE} (h:BI p=none):A3 Z (.t [.l [] true,.b false]) fun r Z'=>r=R.ret (J4 p)/\Z'=emp:=by
 rw[Zt h];exact AF rfl
def K8 {p:Prog} {Z:AE} (h:CW p=false):A3 Z (.t [.l [] true,.b false]) fun r Z'=>r=R.ret (J4 p)/\Z'=emp:=by
 rw[gz h];exact AF rfl
def Sm {p:Prog} (h:CW p=true):BI p=Ha p (runM p p.methods (List.replicate p.nodes.length (-1))):=by
 unfold BI;rw[if_pos h];rfl
def Ce {p:Prog} {k:Nat} {x:MT} {s:List Int} (hx:p.methods[k]? =some x) (hn:BI p=Ha p (runM p (p.methods.drop k) s)) (hok:Mc p x=false):BI p=none:=by
 rw[hn,drop_cons hx,runM,if_neg (by simp[hok])];rfl
def Mw {p:Prog} {k:Nat} {x:MT} {s:List Int} (hx:p.methods[k]? =some x) (hn:BI p=Ha p (runM p (p.methods.drop k) s)) (hok:Mc p x=true) (hw:Bp p (HZ x.kind) 12 x.node (p.Bc.getD x.gen.toNat 0) s=none):BI p=none:=by
 rw[hn,drop_cons hx,runM,if_pos hok,hw];rfl
def Sa {p:Prog} {k:Nat} {x:MT} {s s':List Int} (hx:p.methods[k]? =some x) (hn:BI p=Ha p (runM p (p.methods.drop k) s)) (hok:Mc p x=true) (hw:Bp p (HZ x.kind) 12 x.node (p.Bc.getD x.gen.toNat 0) s=some s'):BI p=Ha p (runM p (p.methods.drop (k+1)) s'):=by
 rw[hn,drop_cons hx,runM,if_pos hok,hw]
def NB {p:Prog} (h:CW p=true) {k:Nat} {x:Int} (hx:p.Bc[k]? =some x):1<=x/\x<=3:=by
 simp only[CW,Ba,JD,DG]at h;exact h.2.2.2.2.2 x (Dx hx)
def cJ (p:Prog):Pure zP 71 [.a (A7 p)] (J4 p):=by
 refine Pure.fit (by kernel_rfl) fun hf=>?_
 have⟨p1,p2,p3,p4⟩:=D8 hf.1;have hM:=Mx;refine iN kZ ?_;have hs:=Sn
 conv=>whnf
 repeat'((first|apply st|(apply sq;intro K U)|(apply si;intro A B hA hB)|(refine hA _ _ ?_;clear hB B hA A)|(apply U;clear U K)|refine⟨rfl,?_⟩|refine⟨kZ,?_⟩|refine Pure.use (Ue _) ?_|(constructor<;>intro hc<;>(try rw[hc])<;>(replace hc:=bp hc)<;>(try simp(disch:=omega) only[BW,wrap64,AJ]at hc))|clear U K)<;>conv=>whnf)
 .exact K8 (by simp[CW];intros;omega)
 rotate_left
 .exact K8 (by simp[CW];intros;omega)
 .exact K8 (by simp[CW];intros;omega)
 .exact K8 (by simp[CW];intros;omega)
 .exact K8 (by simp[CW, *])
 have a1:p.Bc.length<=8:=by omega
 have a2:p.methods.length<=16:=by omega
 have a3:1<=p.nodes.length:=by omega
 have a4:p.nodes.length<=120:=by omega
 have hg:CW p=p.Bc.all fun g=>decide (1<=g)&&decide (g<=3):=by
  simp only[CW,a1,a2,a3,a4,decide_true,Fv];simp[*]
 refine Cc p.Bc.length (fun k (_:Unit)=>[(4,eI (BU k))]) (fun _ _=>[]) (fun k _=>CW p=(p.Bc.drop k).all fun g=>decide (1<=g)&&decide (g<=3)) () rfl (by simpa using hg) hs ?_;clear hs;rintro k - Z hk hn hs
 conv=>whnf
 repeat'((first|apply st|(apply sq;intro K U)|(apply si;intro A B hA hB)|(refine hA _ _ ?_;clear hB B hA A)|(apply U;clear U K)|refine⟨rfl,?_⟩|refine ix ?_|(refine fc (fun x hx hlt hc=>?_) (fun hk hc=>?_)<;>(try rw[hc])<;>clear hc)|(constructor<;>intro hc<;>(try rw[hc])<;>(replace hc:=bp hc))|clear U K)<;>conv=>whnf)
 .exact K8 (by rw[hn,drop_cons hx];simp;intros;omega)
 .exact⟨hlt,(),rfl,by rw[hn,drop_cons hx];simp[*],hs⟩
 .exact K8 (by rw[hn,drop_cons hx];simp;intros;omega)
 have hh:CW p=true:=by rw[hn,Ax hk];rfl
 have hP:=K7 hf.1;have hcB:Ar p=true:=by assumption
 have hsb:B3 0 p.AG=true:=by simp only[Ar,Ba]at hcB;exact hcB.2.1
 have hc10:p.AG.length<=1000:=by simp only[Ar,Ba,DG]at hcB;omega
 have hmS:BX p.AG<=AX:=by have:=(Eb _ _ hsb).1;simp only[Ar,Ba,DG]at hcB;omega
 have hL:=Sm hh;clear hn hg;refine Cc p.nodes.length (fun j v=>[(5,v),(6,eI (BU j))]) (fun j v=>[.own v 1 (iL (List.replicate j (-1)))]) (fun j v=>1<=j->(DI v).isSome=true) (.l [] true) rfl (fun h=>by omega) (Gg hs 1) ?_;clear hs;rintro j v Z hj hv hs
 conv=>whnf
 repeat'((first|apply st|(apply sq;intro K U)|(apply si;intro A B hA hB)|(refine hA _ _ ?_;clear hB B hA A)|(apply U;clear U K)|refine⟨rfl,?_⟩|refine⟨kZ,?_⟩|refine sn fun Z hs=>?_|refine aq fun v Z hs hsl=>?_|(refine fc (fun x hx hlt hc=>?_) (fun hk hc=>?_)<;>(try rw[hc])<;>clear hc)|refine Pure.use (SU _ (by assumption) (by omega) (by assumption)) ?_|(intro nn hnn;generalize hg:BO _ nn _=Z;refine al hg fun hs=>?_;clear hg)|clear U K)<;>conv=>whnf)
 .exact⟨hlt,_,rfl,fun _=>hsl,by rw[List.replicate_succ'];exact hs⟩
 have hsv:=hv (by omega);subst hk;refine Cc p.methods.length (fun k (s:List Int)=>[(8,eI (BU k))]) (fun _ s=>[.own v 1 (iL s),.box nn (BC (Ab p))]) (fun k s=>s.length=p.nodes.length/\BI p=Ha p (runM p (p.methods.drop k) s)) (List.replicate p.nodes.length (-1)) rfl ⟨by simp,hL⟩ hs ?_;clear hs;rintro k s Z hk ⟨hl,hn⟩ hs
 conv=>whnf
 repeat'((first|apply st|(apply sq;intro K U)|(apply si;intro A B hA hB)|(refine hA _ _ ?_;clear hB B hA A)|(apply U;clear U K)|apply dr|refine rk ?_ ?_|exact fun s e=>by cases e;rfl|refine⟨rfl,?_⟩|refine⟨kZ,?_⟩|refine ix ?_|refine iq fun x hx=>?_|refine ld ?_|refine sn fun Z hs=>?_|(refine fc (fun x hx hlt hc=>?_) (fun hk hc=>?_)<;>(try rw[hc])<;>clear hc)|refine Pure.use (W8 _ _) ?_|(constructor<;>intro hc<;>(try rw[hc])<;>(replace hc:=bp hc)<;>(try simp(disch:=omega) only[BW,wrap64,AJ]at hc))|(intro nn hnn;generalize hg:BO _ nn _=Z;refine al hg fun hs=>?_;clear hg)|clear U K)<;>conv=>whnf)
 rotate_left
 .exact IS (Ce hx hn (by simp[Mc, *]))
 .exact IS (Ce hx hn (by simp[Mc];intros;omega))
 .exact IS (Ce hx hn (by simp[Mc];intros;omega))
 .exact IS (Ce hx hn (by simp[Mc];intros;omega))
 .exact IS (Ce hx hn (by simp[Mc];intros;omega))
 .refine(VU p false 12 (JE _) p.main 0 1 s v rfl (by omega) (by omega) hl hsv).use hs ?_
  clear hs;rintro r post Z ⟨s2,hl2,rfl,⟨ho,rfl⟩|⟨ho,rfl⟩⟩ hs
  .conv=>whnf
   repeat'((first|apply st|(apply sq;intro K U)|(apply si;intro A B hA hB)|(refine hA _ _ ?_;clear hB B hA A)|(apply U;clear U K)|(constructor<;>intro hc<;>(try rw[hc])<;>(replace hc:=bp hc)<;>(try simp(disch:=omega) only[BW,wrap64,AJ]at hc))|clear U K)<;>conv=>whnf)
   .cases hc
   have hz:BI p=if s2.all fun n=>decide (0<=n)then some s2 else none:=by rw[hn,Ax hk,runM,Ha,ho]
   refine Cc s2.length (fun j (_:Unit)=>[(10,eI (BU j))]) (fun _ _=>[.own v 1 (iL s2),.box nn (BC (Ab p))]) (fun j _=>BI p=if(s2.drop j).all fun n=>decide (0<=n)then some s2 else none) () rfl hz hs ?_;clear hs;rintro j - Z hj hz hs
   conv=>whnf
   repeat'((first|apply st|(apply sq;intro K U)|(apply si;intro A B hA hB)|(refine hA _ _ ?_;clear hB B hA A)|(apply U;clear U K)|refine⟨rfl,?_⟩|refine oc ?_|refine ol fun x hx=>?_|(refine fc (fun x hx hlt hc=>?_) (fun hk hc=>?_)<;>(try rw[hc])<;>clear hc)|refine lo ?_|(constructor<;>intro hc<;>(try rw[hc])<;>(replace hc:=bp hc))|clear U K)<;>conv=>whnf)
   .exact IS (by rw[hz,drop_cons hx,NV,if_neg];simp;intros;omega)
   .exact⟨hlt,(),rfl,by rw[hz,drop_cons hx,NV];simp[*],hs⟩
   .have hz2:BI p=some s2:=by rw[hz,Ax (by assumption)];rfl
    simp only[J4,hz2];exact B1 (.t (.cons (hs.HR 0 rfl) (.cons (.refl _) .nil)))
  .conv=>whnf
   repeat'((first|apply st|(apply sq;intro K U)|(apply si;intro A B hA hB)|(refine hA _ _ ?_;clear hB B hA A)|(apply U;clear U K)|(constructor<;>intro hc<;>(try rw[hc])<;>(replace hc:=bp hc)<;>(try simp(disch:=omega) only[BW,wrap64,AJ]at hc))|clear U K)<;>conv=>whnf)
   .exact IS (by rw[hn,Ax hk,runM,Ha,ho])
   .cases hc
 rename MT=>m
 rename p.methods[k]? =some m=>hm
 refine(WW m.fact (Lv _ (by(have:FZ (Ab p) m.fact=true:=by assumption);simp only[FZ,Ba]at this;exact this.2.2))).use ?_
 conv=>whnf
 repeat'((first|apply st|(apply sq;intro K U)|(apply si;intro A B hA hB)|(refine hA _ _ ?_;clear hB B hA A)|(apply U;clear U K)|apply dr|refine rk ?_ ?_|exact fun s e=>by cases e;rfl|refine⟨rfl,?_⟩|refine⟨kZ,?_⟩|refine iq fun x hx=>?_|refine ld ?_|refine Pure.use (cE _) ?_|(constructor<;>intro hc<;>(try rw[hc])<;>(replace hc:=bp hc))|clear U K)<;>conv=>whnf)
 .exact IS (Ce hm hn (by simp[Mc,FD,hx];intros;omega))
 obtain⟨hx1,hx3⟩:=NB hh hx;have hgd:p.Bc.getD m.gen.toNat 0=x:=by rw[FD,hx];rfl
 rename p.Bc[m.gen.toNat]? =some _=>hx2
 have hxe:=Option.some.inj (hx.symm.trans hx2);subst hxe;have hok:Mc p m=true:=by simp only[Mc,hgd,Ba,DG];exact⟨by assumption,by omega,by assumption,by assumption,by assumption,by assumption⟩
 refine(VU p (HZ m.kind) 12 (JE _) m.node x 1 s v rfl (by omega) (by omega) hl hsv).use (rest:=[_,_]) hs ?_;clear hs;rintro r post Z ⟨s2,hl2,rfl,⟨ho,rfl⟩|⟨ho,rfl⟩⟩ hs
 .conv=>whnf
  repeat'((first|apply st|(apply sq;intro K U)|(apply si;intro A B hA hB)|(refine hA _ _ ?_;clear hB B hA A)|(apply U;clear U K)|apply dr|refine⟨rfl,?_⟩|(constructor<;>intro hc<;>(try rw[hc])<;>(replace hc:=bp hc)<;>(try simp(disch:=omega) only[BW,wrap64,AJ]at hc))|clear U K)<;>conv=>whnf)
  .cases hc
  .exact⟨by assumption,s2,rfl,⟨by omega,Sa hm hn hok (by rw[hgd];exact ho)⟩,hs.less (.cons₂ _ (.cons₂ _ (NW _)))⟩
 .conv=>whnf
  repeat'((first|apply st|(apply sq;intro K U)|(apply si;intro A B hA hB)|(refine hA _ _ ?_;clear hB B hA A)|(apply U;clear U K)|apply dr|refine⟨rfl,?_⟩|(constructor<;>intro hc<;>(try rw[hc])<;>(replace hc:=bp hc)<;>(try simp(disch:=omega) only[BW,wrap64,AJ]at hc))|clear U K)<;>conv=>whnf)
  .exact IS (Mw hm hn hok (by rw[hgd];exact ho))
  .cases hc
def Qw (p:Prog):Pure zP 21 [.a (A7 p)] (.b (BI p).isSome):=by
 refine iT kZ ?_;have h:=cJ p;unfold J4 at h;cases hl:BI p with
 | none=>
   rw[hl]at h
   conv=>whnf
   repeat'((first|clear U K|apply st|(apply zk;intro K U)|refine zn ?_|refine zC ?_|fail)<;>conv=>whnf)
   all_goals exact AF (by first|rfl|simp)
 | some s=>
   rw[hl]at h
   conv=>whnf
   repeat'((first|clear U K|apply st|(apply zk;intro K U)|refine zn ?_|refine zC ?_|fail)<;>conv=>whnf)
   all_goals exact AF (by first|rfl|simp)
def RT (xs ys:List Int) (f g:Bool):Pure zP 17 [.l (iL xs) f,.l (iL ys) g] (.b (xs==ys)):=by
 refine Pure.fit (by kernel_rfl) fun hf=>?_
 have hx:=PG hf.1;have hy:=PG hf.2.1;have hM:=Mx;refine iU kZ ?_;have hs:=Sn
 conv=>whnf
 repeat'((first|clear U K|apply st|(apply zk;intro K U)|refine zn ?_|(refine zd (fun hc=>?_) (fun hc=>?_)<;>try exact⟨⟩)|fail)<;>conv=>whnf)
 .exact AF (by(have:(xs==ys)=false:=by(simp;intro e;subst e;simp at hc));rw[this])
 have hl:xs.length=ys.length:=by omega
 refine Cc xs.length (fun k (_:Unit)=>[(13,eI (BU k))]) (fun _ _=>[]) (fun k _=>(xs==ys)=(xs.drop k==ys.drop k)) () rfl rfl Sat.nil ?_;clear hs;rintro k - Z hk hn hs;by_cases hlt:k<xs.length
 .obtain⟨y,hyk⟩: ∃y,ys[k]? =some y:=⟨_,D2 (by omega)⟩
  conv=>whnf
  repeat'((first|clear U K|apply st|(apply zk;intro K U)|refine zn ?_|(refine fc (fun x hx hlt hc=>?_) (fun hk hc=>?_)<;>(try rw[hc])<;>clear hc)|refine za (fun hc=>?_) fun hc=>?_|fail)<;>conv=>whnf)
  .exact AF (by rw[hn,drop_cons hx,drop_cons hyk];simp[hc])
  .exact⟨hlt,(),rfl,by rw[hn,drop_cons hx,drop_cons hyk,hc];simp,hs⟩
  .omega
 .conv=>whnf
  repeat'((first|clear U K|apply st|(apply zk;intro K U)|refine zn ?_|refine ze fun x hx=>?_|(refine fc (fun x hx hlt hc=>?_) (fun hk hc=>?_)<;>(try rw[hc])<;>clear hc)|(refine zb (fun hc=>?_) (fun hc=>?_)<;>try exact⟨⟩)|fail)<;>conv=>whnf)
  exact AF (by rw[hn,Ax hk,Ax (by omega)];rfl)
def t0:Int×Int×List Int:=(-1000000000,1000000000,[])
def Su {b:Nat} {Z:AE} {l:List At} (h:Sat Z l) (i j:Nat) {v u:V} {sz:Nat} {es ys:List (List V)} {K:V->AE->Prop} (hi:l[i]? =some (.own v sz es)) (hj:l[j]? =some (.own u sz ys)) (hl:es.length+ys.length<=AX/\(es.length+ys.length)*b<=140737488355328) (hys: ∀e∈ys,e.length=sz) (ho: ∀e∈ys,∀v∈e,Bm v=true)
    (hk: ∀v' Z',Sat Z' (l.set i (.own v' sz (es++ys)))->K v' Z'):AL b Z sz v u K:=by
 have hA:AL b Z sz v (.l ys true) K:=hAppend h i hi hl hys ho hk;rcases h.get hj with⟨rfl,hel⟩|⟨n,cap,rfl,hn⟩
 .exact hA
 .unfold AL at hA ⊢
  simp only[rowsOf]at hA ⊢;rw[hn];refine⟨rfl,JE _,?_⟩;rw[List.take_length];exact hA.2
def Yh {g:Fact} (h:CI g=true):g.op=2\/g.op=3\/g.op=4:=by
 simp only[CI,Ma,Mb]at h;omega
def Pc {p:Prog}: ∀ {ms:List MT} {s:List Int},(runM p ms s).isSome=true-> ∀m∈ms,Mc p m=true
 | [],_,_,_,h=>by cases h
 | m ::r,s,h,x,hx=>by
   rw[runM]at h;split at h
   .rename_i hok
    split at h
    .cases h
    .rcases HV.1 hx with rfl|hx
     .exact hok
     .exact Pc h x hx
   .cases h
def M6 {p:Prog} (h:(BI p).isSome=true):CW p=true/\ ∀m∈p.methods,Mc p m=true:=by
 unfold BI at h;split at h
 .rename_i hh
  refine⟨hh,?_⟩;split at h
  .cases h
  .rename_i s hs
   exact Pc (by rw[hs];rfl)
 .cases h
def Ni (p:Prog) (g:Int):Bool:=decide (0<=g)&&decide (g<(p.Bc.length:Int))
def iB (p:Prog) (g:Int):Pure zP 147 [.a (A7 p),eI g] (.b (Ni p g)):=by
 refine Pure.fit (by kernel_rfl) fun hf=>?_
 have⟨p1,p2,p3,p4⟩:=D8 hf.1;refine fE kZ ?_;have hs:=Sn
 conv=>whnf
 repeat'((first|clear U K|apply st|(apply zk;intro K U)|refine zY ?_|refine za (fun hc=>?_) fun hc=>?_|fail)<;>conv=>whnf)
 all_goals exact AF (by simp[Ni, *]<;>omega)
end Go.Gl
namespace Go.Gl
structure Kn where
 low:Int
 high:Int
 no:List Int
 qX:Nat
 qY:Nat
 whole:Bool
 o7:Bool
 AH:List Int
def k0:Kn:=⟨-1000000000,1000000000,[],0,0,false,false,[]⟩
end Go.Gl
namespace Go.Gl
structure KV where
 a:Int
 p:List Int
 b:Nat
 vn:V
 vs:V
 k:Kn
abbrev KV.is (e:KV) (a:Int) (p:List Int):Bool:=e.a==a&&e.p==p
def Vo {e:KV} {a:Int} {p:List Int}:e.is a p=true↔e.a=a/\e.p=p:=by simp[KV.is]
def Kk {e:KV} {a:Int} {p:List Int}:e.is a p=false↔ ¬(e.a=a/\e.p=p):=by rw[<-Vo,Bool.not_eq_true]
structure MU (kf:Int->List Int->Kn) (es:List KV):Prop where
 val: ∀e∈es,e.k=kf e.a e.p
 ir: ∀a p,(∀e∈es,e.is a p=false)->kf a p=k0
 one:es.Pairwise fun e e'=>e.is e'.a e'.p=false
 len: ∀e∈es,e.p.length<=2
def Mo (es:List KV):Prop:= ∀e∈es,∀s∈e.k.AH,∃e'∈es,e'.is e.a (e.p++[s])=true
def MU.congr {kf kf':Int->List Int->Kn} {es:List KV} (h:MU kf es) (e: ∀a p,kf a p=kf' a p):MU kf' es:=
 ⟨fun x hx=>(h.val x hx).trans (e _ _),fun a p hp=>(e a p).symm.trans (h.ir a p hp),h.one,h.len⟩
def MU.add {kf:Int->List Int->Kn} {es:List KV} (h:MU kf es) {a:Int} {p:List Int} (hp:p.length<=2) (hn: ∀e∈es,e.is a p=false) (b:Nat) (vn vs:V):MU kf (es++[⟨a,p,b,vn,vs,k0⟩]):=by
 refine⟨fun x hx=>?_,fun a' p' h'=>h.ir a' p' fun x hx=>h' x (On _ hx),?_,fun x hx=>?_⟩
 .rcases FC.1 hx with hx|hx
  .exact h.val x hx
  .rw[ME.1 hx];exact(h.ir a p hn).symm
 .rw[List.pairwise_append]
  exact⟨h.one,List.pairwise_singleton _ _,fun x hx y hy=>by rw[ME.1 hy];exact hn x hx⟩
 .rcases FC.1 hx with hx|hx
  .exact h.len x hx
  .rw[ME.1 hx];exact hp
def Mo.add {es:List KV} (h:Mo es) {a:Int} {p:List Int} (b:Nat) (vn vs:V):Mo (es++[⟨a,p,b,vn,vs,k0⟩]):=by
 intro e he s hs;rcases FC.1 he with he|he
 .obtain⟨e',h1,h2⟩:=h e he s hs
  exact⟨e',On _ h1,h2⟩
 .rw[ME.1 he]at hs
  cases hs
def ai (kf:Int->List Int->Kn) (a:Int) (p:List Int) (k:Kn):Int->List Int->Kn:=fun a' p'=>if a'=a/\p'=p then k else kf a' p'
def MU.change {kf:Int->List Int->Kn} {pre post:List KV} {e:KV} (h:MU kf (pre++e::post)) (b:Nat) (vn vs:V) (k:Kn):MU (ai kf e.a e.p k) (pre++⟨e.a,e.p,b,vn,vs,k⟩::post):=by
 have h1:=h.one;rw[List.pairwise_append,List.pairwise_cons]at h1;obtain⟨o1,⟨o2,o3⟩,o4⟩:=h1;refine⟨fun x hx=>?_,fun a p hp=>?_,?_,fun x hx=>?_⟩
 .rw [ai]
  rcases FC.1 hx with hx|hx
  .rw[if_neg]
   .exact h.val x (On _ hx)
   .have:=o4 x hx e (.head _)
    rw[Kk]at this;exact this
  .rcases HV.1 hx with rfl|hx
   .rw[if_pos ⟨rfl,rfl⟩]
   .rw[if_neg]
    .exact h.val x (TO _ (.tail _ hx))
    .have:=o2 x hx
     rw[Kk]at this;exact fun⟨q1,q2⟩=>this ⟨q1.symm,q2.symm⟩
 .have he:=Kk.1 (hp _ (TO _ (.head _)))
  rw[ai,if_neg (fun⟨q1,q2⟩=>he ⟨q1.symm,q2.symm⟩)];refine h.ir a p fun x hx=>?_
  rcases FC.1 hx with hx|hx
  .exact hp x (On _ hx)
  .rcases HV.1 hx with rfl|hx
   .exact Kk.2 he
   .exact hp x (TO _ (.tail _ hx))
 .rw[List.pairwise_append,List.pairwise_cons]
  refine⟨o1,⟨o2,o3⟩,fun x hx y hy=>?_⟩;rcases HV.1 hy with rfl|hy
  .exact o4 x hx e (.head _)
  .exact o4 x hx y (.tail _ hy)
 .rcases FC.1 hx with hx|hx
  .exact h.len x (On _ hx)
  .rcases HV.1 hx with rfl|hx
   .exact h.len e (TO _ (.head _))
   .exact h.len x (TO _ (.tail _ hx))
def Mo.change {pre post:List KV} {e:KV} (h:Mo (pre++e::post)) (b:Nat) (vn vs:V) (k:Kn) (hs: ∀s∈k.AH,s∈e.k.AH\/ ∃e'∈pre++e::post,e'.is e.a (e.p++[s])=true):Mo (pre++⟨e.a,e.p,b,vn,vs,k⟩::post):=by
 have mov: ∀ {a p},(∃e'∈pre++e::post,e'.is a p=true)-> ∃e'∈pre++(⟨e.a,e.p,b,vn,vs,k⟩:KV)::post,e'.is a p=true:=by
  rintro a p ⟨x,hx,h'⟩;rcases FC.1 hx with hx|hx
  .exact⟨x,On _ hx,h'⟩
  .rcases HV.1 hx with rfl|hx
   .exact⟨_,TO _ (.head _),h'⟩
   .exact⟨x,TO _ (.tail _ hx),h'⟩
 intro x hx s hxs;rcases FC.1 hx with hx|hx
 .exact mov (h x (On _ hx) s hxs)
 .rcases HV.1 hx with rfl|hx
  .rcases hs s hxs with h'|h'
   .exact mov (h e (TO _ (.head _)) s h')
   .exact mov h'
  .exact mov (h x (TO _ (.tail _ hx)) s hxs)
end Go.Gl
namespace Go.Gl
open Go.Proofs
attribute [local irreducible] BD A3 Au AS AL Ao AU AV AM An AP AT BF BM Sat Af BK Aw W
def X3 (s c:Nat) (hs0:s<18446744073709551616) (hc:c<64):Pure zP 326 [.a [eU s],eI c] (.a [eU (s|||2 ^ c)]):=by
 refine dU kZ ?_;have hs:=Sn
 conv=>whnf
 repeat'((first|clear U K|apply st|(apply zk;intro K U)|refine zY ?_|refine zs fun Z hs=>?_|refine⟨Int.natCast_nonneg _,?_⟩|refine zo fun nn hnn Z hs=>?_|fail)<;>conv=>whnf)
 refine AF ?_;simp only[MF,SZ hc,Kp hs0 (LF hc)];rfl
def gr (s t:Nat) (hs0:s<18446744073709551616) (ht0:t<18446744073709551616):Pure zP 327 [.a [eU s],.a [eU t]] (.a [eU (s|||t)]):=by
 refine dT kZ ?_;have hs:=Sn
 conv=>whnf
 repeat'((first|clear U K|apply st|(apply zk;intro K U)|refine zY ?_|refine zs fun Z hs=>?_|refine zo fun nn hnn Z hs=>?_|fail)<;>conv=>whnf)
 refine AF ?_;simp only[Kp hs0 ht0];rfl
def PR (s:Nat) (c:Int) (hs0:s<18446744073709551616) (h0:0<=c) (hc:c<64):Pure zP 326 [.a [eU s],eI c] (.a [eU (s|||2 ^ c.toNat)]):=by
 have:=X3 s c.toNat hs0 (by omega);rw[Int.toNat_of_nonneg h0]at this;exact this
def PB {a b:Nat} (ha:a<18446744073709551616) (hb:b<18446744073709551616):a|||b<18446744073709551616:=by
 have:=Nat.or_lt_two_pow (n:=64) (x:=a) (y:=b) (by simpa using ha) (by simpa using hb);simpa using this
def GY (g:List (List Int)):List (List Int×Bool):=[([],true),([],true),([],true)]++g.map fun l=>(l,false)
def Wd (g:List (List Int)):(GY g).length=3+g.length:=by simp[GY];omega
def Sh (g:List (List Int)) {k:Nat} (hk:k<3+g.length): ∃b,(GY g)[k]? =some (Ai g (k:Int),b):=by
 unfold GY Ai;by_cases h3:k<3
 .rw[if_pos (by omega),fV (by simpa using h3)]
  refine⟨true,?_⟩;rcases k with _|_|_|k
  .rfl
  .rfl
  .rfl
  .omega
 .rw[if_neg (by omega),List.getElem?_append_right (by simp;omega)]
  refine⟨false,?_⟩;simp only[Om,List.length_nil,NX];have e:((k:Int) - 3).toNat=k - (0+1+1+1):=by omega
  rw[e,FD,D2 (by omega)];rfl
def Yu:EP (fun u:Nat=>[eU u]) 1:=fun x=>⟨rfl,fun v hv=>by simp at hv;subst hv;rfl⟩
def gq {α:Type} {a b c d:α}: [a,b,c,d].Perm [b,d,a,c]:=by
 have h1: [a,b,c,d].Perm [b,a,c,d]:= .swap _ _ _;have h2: [a,c,d].Perm [d,a,c]:=fj (l₁:=[a,c]) (l₂:=[d]);exact h1.trans (h2.cons b)
def YT (g:List (List Int)) (f f2:Bool) (c:Int) (hg:Cn g=true) (hc0:0<=c) (hc1:c<3+g.length) :
    Cl zP 297 [.l (Df g) f,.l (iL [c]) f2] [] fun r post=> ∃n mm vp vu us M,r= .ret (.t [.p n 0,.b true])/\post=gH n mm vp vu (GY g) us M/\GV g (3+g.length) M:=by
 intro Z hs;refine BD.fit (by kernel_rfl) fun hf=>?_
 have⟨g1,g2⟩:=Q5 hf.1;have hM:=Mx;have hG:=Cx hg;have hgl:=hG.1;have hfn:=Sz g f;rw[hg]at hfn;have hc2: [c][0]? =some c:=rfl;have hpl:=Wd g;refine de kZ ?_
 conv=>whnf
 repeat'((first|clear U K|apply st|(apply zk;intro K U)|refine zY ?_|refine hfn.use ?_|fail)<;>conv=>whnf)
 refine Cc 1 (fun k (_:Unit)=>[(20,eI (BU k))]) (fun _ _=>[]) (fun _ _=>True) () rfl trivial hs ?_;clear hs;rintro k - Z hk - hs;have hkk:k=0\/k=1:=by omega
 rcases hkk with rfl|rfl
 .conv=>whnf
  repeat'((first|clear U K|apply st|(apply zk;intro K U)|refine zY ?_|(refine zb (fun hc=>?_) (fun hc=>?_)<;>try exact⟨⟩)|fail)<;>conv=>whnf)
  all_goals try(exfalso;omega)
  exact⟨(),rfl,trivial,hs⟩
 .have hke:1= [c].length:=rfl
  refine zz ?_;(repeat clear U K);repeat intro K U
  rw[show IntKind.i64.wrap (3+((Df g).length:Nat))=((3+g.length:Nat):Int) by rw[BW,wrap64 (by omega) (by omega)];omega];refine gI (n:=3) hs (by omega) (by omega) fun vp Z hs hv=>?_
  obtain⟨idp,rfl⟩:=hv
  conv=>whnf
  repeat'((first|clear U K|apply st|(apply zk;intro K U)|refine zY ?_|refine zo fun nn hnn Z hs=>?_|fail)<;>conv=>whnf)
  obtain⟨mm,hs⟩: ∃mm,Sat Z [.box nn [.sl idp 3 (3+g.length),.l [] true,.m mm],.map mm [],.own (.sl idp 3 (3+g.length)) 1 (List.replicate 3 [.l [] true])]:=⟨_,hs⟩
  generalize nn=n0 at *;have hgr:=Dr CM g;refine hAppend hs 2 rfl (by simp;omega) hgr.1 hgr.2 fun vp Z hs=>?_
  have hps:List.replicate 3 [.l [] true]++Df g=pL (GY g):=by simp[pL,GY,List.replicate,Df]
  rw[hps]at hs;clear hps;have hs1p:=FF hs 2 rfl
  conv=>whnf
  repeat'((first|clear U K|apply st|(apply zk;intro K U)|refine zY ?_|refine zs fun Z hs=>?_|fail)<;>conv=>whnf)
  replace hs:Sat Z [.box n0 [vp,.l [] true,.m mm],.map mm [],.own vp 1 (pL (GY g))]:=hs;refine Cc (GY g).length (fun k (_:V×List Nat)=>[(55,eI (BU k))]) (fun _ x=>[.own x.1 1 (x.2.map fun u=>[eU u]),.box n0 [vp,x.1,.m mm],.map mm [],.own vp 1 (pL (GY g))]) (fun k x=>x.2.length=k/\ ∀u∈x.2,u<18446744073709551616) (.l [] true,[]) rfl ⟨rfl,fun u hu=>by cases hu⟩ (IQ hs 1) ?_;clear hs;rintro k ⟨vu,us⟩ Z hk ⟨hul,hus⟩ hs;dsimp only at hul hus hs;rcases Bd (GY g) hk with⟨⟨l,lb⟩,hl,hlt⟩|hke2
  .have hck:BU k=k:=AJ (by omega)
   obtain⟨b',hpa⟩:=Sh g (k:=k) (by omega);have hle:l=Ai g (k:Int):=by rw[hl]at hpa;exact(Prod.mk.inj (Option.some.inj hpa)).1
   have hll:=CH hG (k:Int);rw[<-hle]at hll;have hlm: ∀p∈l,3<=p/\p<(k:Int):=fun p hp=>Cg hG (by rw[<-hle];exact hp)
   have hs1:(0|||2 ^ (BU k).toNat)<18446744073709551616:=by
    rw[Nat.zero_or,hck,MF];exact LF (by omega)
   have hs1u:=FF hs 0 rfl;have hl':(GY g)[(BU k).toNat]? =some (l,lb):=by rw[hck,MF];exact hl
   conv=>whnf
   repeat'((first|clear U K|apply st|(apply zk;intro K U)|refine zY ?_|refine zs fun Z hs=>?_|refine Pure.use (PR 0 (BU k) (by decide) (by omega) (by omega)) ?_|refine Pure.use (PR _ _ (by first|omega|exact hs1) (by omega) (by omega)) ?_|refine zo fun nn hnn Z hs=>?_|fail)<;>conv=>whnf)
   have hs0:(0|||2 ^ (BU k).toNat|||2 ^ Int.toNat 0)<18446744073709551616:=PB hs1 (by decide);generalize (0|||2 ^ (BU k).toNat|||2 ^ Int.toNat 0)=s0 at *;refine Cc l.length (fun j (_:Nat)=>[(66,eI (BU j))]) (fun _ s=>[.box nn [eU s],.own vu 1 (us.map fun u=>[eU u]),.box n0 [vp,vu,.m mm],.map mm [],.own vp 1 (pL (GY g))]) (fun _ s=>s<18446744073709551616) s0 rfl hs0 hs ?_;clear hs hs0;rintro j s Z hj hsb hs;rcases Bd l hj with⟨p,hp,hjlt⟩|hje
   .obtain⟨hp3,hpk⟩:=hlm p (Dx hp)
    obtain⟨u,hu⟩: ∃u,us[p.toNat]? =some u:=⟨_,D2 (by omega)⟩
    have hub:=hus u (Dx hu)
    conv=>whnf
    repeat'((first|clear U K|apply st|(apply zk;intro K U)|refine zY ?_|refine zs fun Z hs=>?_|refine Pure.use (gr _ _ hsb hub) ?_|fail)<;>conv=>whnf)
    exact⟨hjlt,s|||u,rfl,PB hsb hub,hs⟩
   .refine zz ?_;(repeat clear U K);repeat intro K U
    refine ID (E0 hs 1 (enc:=fun u:Nat=>[eU u]) (xs:=us) (x:=s) rfl (by omega) Yu fun vu' Z hs hsl=>?_);have hs2u:=FF hs 1 rfl
    conv=>whnf
    repeat'((first|clear U K|apply st|(apply zk;intro K U)|refine zY ?_|refine zs fun Z hs=>?_|fail)<;>conv=>whnf)
    refine⟨hlt,(vu',us++[s]),rfl,⟨by simp[hul],fun u hu=>?_⟩,hs.less (Uu _ _)⟩;rcases FC.1 hu with hu|hu
    .exact hus u hu
    .rw[ME.1 hu];exact hsb
  .have hs1u:=FF hs 0 rfl
   refine zz ?_;(repeat clear U K);repeat intro K U
   replace hs:Sat Z (gH n0 mm vp vu (GY g) us []):=hs.perm gq;refine Cc (GY g).length (fun k (_:List Ord)=>[(96,eI (BU k))]) (fun _ M=>gH n0 mm vp vu (GY g) us M) (fun k M=>GV g k M) [] rfl GV.nil hs ?_;clear hs;rintro k M Z hk hkn hs;rcases Bd (GY g) hk with⟨⟨l,lb⟩,hl,hlt⟩|hke3
   .have hck:BU k=k:=AJ (by omega)
    obtain⟨b',hpa⟩:=Sh g (k:=k) (by omega);have hle:l=Ai g (k:Int):=by rw[hl]at hpa;exact(Prod.mk.inj (Option.some.inj hpa)).1
    have hll:=CH hG (k:Int);rw[<-hle]at hll;have hlm: ∀p∈l,3<=p/\p<(k:Int):=fun p hp=>Cg hG (by rw[<-hle];exact hp)
    have hlo:=T6 hG hkn hll (fun x hx=>by have:=hlm x hx;omega);have hord:=Wf n0 mm vp vu (GY g) us M (BU k) l lb (by omega) (by rw[hck,MF];exact hl) hll (fun c=>by have:=(Is hG hkn c).1;omega) (fun e he=>by have:=hkn.keys e he;omega) hlo.1 hlo.2;refine zz ?_;(repeat clear U K);repeat intro K U
    refine hord.use (rest:=[]) (by simpa using hs) ?_;clear hs;rintro r post Z ⟨rfl,M',rfl,hM'⟩ hs;rw[Qi]at hs;rw[hck]at hM';refine zz ?_;(repeat clear U K);repeat intro K U
    exact⟨hlt,M',rfl,hkn.step hle (fun p hp=>by have:=hlm p hp;omega) (by omega) hM',hs⟩
   .refine zz ?_;(repeat clear U K);repeat intro K U
    exact A4 hs (List.Sublist.refl _) (.refl _) fun Z' hs'=>⟨_,⟨_,_,_,_,_,_,rfl,rfl,by rw[<-hpl,<-hke3];exact hkn⟩,hs'⟩
def fN {M:List Ord} {c:Int} {Z:AE} {fx:List At} (hs:Sat Z (fx++M.map Ur)) (hl:(Bf M c).length<=AX) (hne:Bf M c≠[]) {k kp:V->AE->Prop} (hk: ∀Z',Sat Z' (fx++M.map Ur)->k (.l (iL (Bf M c)) false) Z'):BD zP 25 [Gd M c] Z (qk k kp):=by
 rcases LO M c with⟨h1,h2⟩|⟨j,hj⟩
 .exact absurd h1 hne
 .have hj':(fx++M.map Ur)[fx.length+j]? =some (At.own (Gd M c) 1 (iL (Bf M c))):=by
   rw[List.getElem?_append_right (by omega),Nat.add_sub_cancel_left,hj]
  have hcl:Cl zP 25 [Gd M c] [.own (Gd M c) 1 (iL (Bf M c))] fun r post=>r= .ret (.l (iL (Bf M c)) false)/\post= [.own (Gd M c) 1 (iL (Bf M c))]:=by
   clear hk hj' hj;generalize Gd M c=v at *;generalize Bf M c=l at *;intro Z hs;refine aD kZ ?_;have hgr:=Dr B8 l
   have hend: ∀ {Z:AE} {w u:V},Sat Z [.own w 1 (iL l),.own u 1 (iL l)]->A3 Z w fun r Z'=> ∃post,(r= .ret (.l (iL l) false)/\post= [.own u 1 (iL l)])/\Sat Z' post:=fun hs=>by
    obtain⟨Z2,h1,h2,h3⟩:=PC hs 0 rfl;exact HD h1 h2 ⟨_,⟨rfl,rfl⟩,h3⟩
   have hM:=Mx;rcases hs.get (i:=0) rfl with⟨rfl,_⟩|⟨n,cap,rfl,hn⟩
   .conv=>whnf
    repeat'((first|clear U K|apply st|(apply zk;intro K U)|fail)<;>conv=>whnf)
    refine⟨fun e=>absurd (List.map_eq_nil_iff.1 e) hne,fun _=>?_⟩;refine zz ?_;(repeat clear U K);repeat intro K U
    replace hs:=IQ hs 1;refine Su hs 0 1 rfl rfl (by simp;omega) hgr.1 hgr.2 fun w Z hs=>?_
    refine zz ?_;(repeat clear U K);repeat intro K U
    exact hend hs
   .refine zz ?_;(repeat clear U K);repeat intro K U
    replace hs:=IQ hs 1;refine Su hs 0 1 rfl rfl (by simp;omega) hgr.1 hgr.2 fun w Z hs=>?_
    refine zz ?_;(repeat clear U K);repeat intro K U
    exact hend hs
  refine hcl.Zn (Φ:=fun r=>r= .ret (.l (iL (Bf M c)) false)) hs hj' ?_;rintro r Z' rfl hs';exact hk Z' hs'
def cK (g:List (List Int)) (f:Bool) (c:Int) (hg:Cn g=true) (hc0:0<=c) (hc1:c<3+g.length) :
    Pure zP 261 [.l (Df g) f,eI c] (if((Be g).getD c.toNat []).isEmpty then .t [.l [] true,eI 7]else .t [.l (iL ((Be g).getD c.toNat [])) false,eI 0]):=by
 have hop:=YT g f true c hg hc0 hc1;refine dw kZ ?_;have hs:=Sn;have hM:=Mx;have hG:=Cx hg
 conv=>whnf
 repeat'((first|clear U K|apply st|(apply zk;intro K U)|fail)<;>conv=>whnf)
 refine hop.use (rest:=[]) hs ?_;clear hs;rintro r post Z ⟨n,mm,vp,vu,us,M,rfl,rfl,hkn⟩ hs;rw[Qi]at hs;have hol:=(Is hG hkn c).1;have hor:=hkn.U5 c hc0 (by omega);by_cases hne:Bf M c= []
 .have hl0:(Bf M c).length=0:=by rw[hne];rfl
  conv=>whnf
  repeat'((first|clear U K|apply st|(apply zk;intro K U)|refine zY ?_|refine jP ?_|refine LP (fx:=_::_::_::_:: []) hs (by omega) ?_|(refine zb (fun hc=>?_) (fun hc=>?_)<;>try exact⟨⟩)|fail)<;>conv=>whnf)
  all_goals try(exfalso;omega)
  rw[<-hor,hne];exact AF rfl
 .have hl0:0<(Bf M c).length:=List.length_pos_iff.2 hne
  conv=>whnf
  repeat'((first|clear U K|apply st|(apply zk;intro K U)|refine zY ?_|refine jP ?_|refine LP (fx:=_::_::_::_:: []) hs (by omega) ?_|(refine zb (fun hc=>?_) (fun hc=>?_)<;>try exact⟨⟩)|fail)<;>conv=>whnf)
  all_goals try(exfalso;omega)
  refine fN (fx:=_::_::_::_:: []) hs (by omega) hne fun Z hs=>?_
  refine zz ?_;(repeat clear U K);repeat intro K U
  rw[<-hor]
  have:(Bf M c).isEmpty=false:=by
   cases h:(Bf M c).isEmpty
   .rfl
   .exact absurd (List.isEmpty_iff.1 h) hne
  rw[this];exact AF rfl
end Go.Gl
