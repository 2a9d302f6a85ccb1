import Derived.Test.YtijbpgdmpejgoaaGreatRows
import Derived.HandedShaped
import Derived.Test.YtijbpgdmpejgoaaGreatX6
import Derived.Test.YtijbpgdmpejgoaaGreatX16
set_option linter.all false
set_option linter.defProp false
noncomputable section
namespace Go.Gl
open Go.Proofs
def Sat.xa {σ:AH} {l:List At} (h:Sat σ l) {a:At} (ha:a∈l):a.ok σ:=h.1 a ha
def cu {σ:AH} {v vf:V} {Q:R→AH→Prop} (hf:Gt σ emp v vf) (hq:Q (.ret vf) emp):A5 σ v Q:=⟨vf,emp,fun n o ho=>(by cases ho),hf,hq⟩
structure Hid (p:Prop):Prop where
 un:p
attribute [local irreducible] BL A5 Aj AW AN Ai AV AX AO Ah AS AU BA BK Sat Ad BH Al W
abbrev RW:=Nat×List Bool
abbrev KQ (n:Nat) (r:RW):List V:=[.sl r.1 n n]
abbrev Ev (n:Nat) (r:RW):At:= .own (.sl r.1 n n) 1 (bL r.2)
def Wx (n:Nat):EO (KQ n) 1:=fun r=>⟨rfl,fun v hv=>by rw[KM.1 hv];rfl⟩
abbrev c9 (n:Nat) (v6 v7:V) (R6 R7:List RW):List At:= .own v6 1 (R6.map (KQ n)):: .own v7 1 (R7.map (KQ n))::(R6.map (Ev n)++R7.map (Ev n))
def aw {n:Nat} {v6 v7:V} {R6 R7:List RW} {r6 r7:RW}:List.Perm (Ev n r7::Ev n r6:: .own v6 1 ((R6++[r6]).map (KQ n)):: .own v7 1 ((R7++[r7]).map (KQ n))::(R6.map (Ev n)++R7.map (Ev n))) (c9 n v6 v7 (R6++[r6]) (R7++[r7])):=by
 have e:(R6++[r6]).map (Ev n)++(R7++[r7]).map (Ev n)=R6.map (Ev n)++(Ev n r6::(R7.map (Ev n)++[Ev n r7])):=by simp
 have h1:((R6++[r6]).map (Ev n)++(R7++[r7]).map (Ev n)).Perm (Ev n r7::Ev n r6::(R6.map (Ev n)++R7.map (Ev n))):=by
  rw[e];refine List.perm_middle.trans (.trans (.cons _ ?_) (.swap _ _ _));rw[←SS];exact List.perm_append_singleton _ _
 exact((Po (l₁:=[Ev n r7,Ev n r6]) (l₂:=[_,_])).append_right _).trans (.cons _ (.cons _ h1.symm))
def JW (R:List RW):List (List Bool):=R.map fun r=>r.2
def D9 {l:List Int} {k:Nat} (h:k<l.length):l.getD k 0∈l:=by
 rw[DK,Ct h];exact List.getElem_mem h
structure PW (n:Nat) (R:List RW):Prop where
 len:R.length=n
 row: ∀r∈R,r.2.length=n
def PW.put {n:Nat} {R:List RW} {r:RW} (h:PW n R) {j k:Nat} {b:Bool} (hr:R[j]? =some r):PW n (R.set j (r.1,r.2.set k b)):=by
 refine⟨by rw[List.length_set];exact h.len,fun q hq=>?_⟩;rcases List.mem_or_eq_of_mem_set hq with hq|rfl
 ·exact h.row q hq
 ·rw[List.length_set];exact h.row r (B1 hr)
def Ui {n:Nat} {R:List RW} {r:RW} (h:PW n R) {j k:Nat} {b:Bool} (hr:R[j]? =some r) (hk:k<n) (u v:Int):Dp (JW (R.set j (r.1,r.2.set k b))) u v=if u.toNat=j∧v.toNat=k then b else Dp (JW R) u v:=by
 have hj:j<R.length:=(Hk.1 hr).1;have hl:=h.row r (B1 hr);rw[Dp,Dp,JW,List.map_set];rw[DK (l:=(R.map fun r=>r.2).set j _)];by_cases hu:u.toNat=j
 ·rw[hu,List.getElem?_set_self (by simpa using hj),Option.getD_some,EU (by omega)]
  have e:(JW R).getD j []=r.2:=by rw[JW,DK,Lc,hr];rfl
  by_cases hv:v.toNat=k
  ·rw[if_pos hv,if_pos ⟨rfl,hv⟩]
  ·rw[if_neg hv,if_neg fun h=>hv h.2,e]
 ·rw[List.getElem?_set_ne (fun h=>hu h.symm),if_neg fun h=>hu h.1,←DK]
  rfl
def bz {σ:AH} {n:Nat} {v6:V} {R:List RW} {r r':RW} {j:Nat} {B:At} {AA X:List At} (hr:R[j]? =some r) (he:r'.1=r.1) (hs:Sat σ (Ev n r'::B:: .own v6 1 (R.map (KQ n))::(AA++(R.map (Ev n)++X).eraseIdx j))):Sat σ (B:: .own v6 1 ((R.set j r').map (KQ n))::(AA++((R.set j r').map (Ev n)++X))):=by
 have hj:j<R.length:=(Hk.1 hr).1
 have e1:(R.set j r').map (KQ n)=R.map (KQ n):=by
  rw[List.map_set];refine List.ext_getElem? fun i=>?_
  by_cases hi:j=i
  ·subst hi
   rw[List.getElem?_set_self (by simpa using hj),Lc,hr];simp only[UY,KQ,he]
  ·rw[List.getElem?_set_ne hi]
 have e2:(R.set j r').map (Ev n)++X=(R.map (Ev n)++X).set j (Ev n r'):=by
  rw[List.map_set,List.set_append_left _ _ (by simpa using hj)]
 rw[e1,e2]
 have hp:((R.map (Ev n)++X).set j (Ev n r')).Perm (Ev n r'::(R.map (Ev n)++X).eraseIdx j):=by
  have:=H6 (l:=(R.map (Ev n)++X).set j (Ev n r')) (j:=j) (a:=Ev n r') (List.getElem?_set_self (by rw[PR,BD];omega))
  rwa [List.eraseIdx_set_eq]at this
 refine hs.perm (List.Perm.trans ?_ (.cons _ (.cons _ ((hp.symm).append_left AA))));exact((Po (l₁:=[Ev n r']) (l₂:=B:: .own v6 1 (R.map (KQ n))::AA)).append_right _).trans (by simp)
def gF {R:List RW} {r:RW} {m n:Nat} {b:Bool} (hr:R[m]? =some r) (hb:r.2[n]? =some b):Dp (JW R) m n=b:=by
 simp only[Dp,JW,IT,DK,Lc,hr,UY,Option.getD_some,hb]
def Qb {n:Nat} {v7:V} {R Q:List RW} {r r':RW} {j:Nat} {B AF:At} (hr:Q[j]? =some r) (he:r'.1=r.1):(B::AF:: .own v7 1 (Q.map (KQ n))::(R.map (Ev n)++Q.map (Ev n))).set (R.length+j+3) (Ev n r')=B::AF:: .own v7 1 ((Q.set j r').map (KQ n))::(R.map (Ev n)++(Q.set j r').map (Ev n)):=by
 have e1:(Q.set j r').map (KQ n)=Q.map (KQ n):=by
  have hj:j<Q.length:=(Hk.1 hr).1;rw[List.map_set];refine List.ext_getElem? fun i=>?_
  by_cases hi:j=i
  ·subst hi
   rw[List.getElem?_set_self (by simpa using hj),Lc,hr];simp only[UY,KQ,he]
  ·rw[List.getElem?_set_ne hi]
 rw[e1];show B::AF:: .own v7 1 (Q.map (KQ n))::(R.map (Ev n)++Q.map (Ev n)).set (R.length+j) (Ev n r')=_;rw[List.set_append_right _ _ (by rw[BD];omega),BD,show R.length+j - R.length=j by omega,List.map_set]
def OK {σ:AH} {n:Nat}: ∀Q:List RW,(∀r∈Q,(Ev n r).ok σ)→Fs σ emp (Q.map (KQ n)) ((JW Q).map fun r=>[.l (bL r) false])
 | [],_=> .nil
 | r ::s,h=>by
   refine .cons (.cons ?_ .nil) (OK s fun q hq=>h q (.tail _ hq));rcases h r (.head _)with⟨e,_⟩|⟨m,cap,e,hm⟩
   ·cases e
   ·injection e with e1 e2 e3
    subst e1 e3;exact .arr hm rfl e2 (.refl _ _ _)
def j3 {σ:AH} {n:Nat} {v:V} {Q:List RW} (hv:(At.own v 1 (Q.map (KQ n))).ok σ) (h: ∀r∈Q,(Ev n r).ok σ):Gt σ emp v (oh (JW Q)):=by
 rcases hv with⟨rfl,_⟩|⟨m,cap,rfl,hm⟩
 ·exact .l (fun h=>by cases h) (OK Q h)
 ·exact .arr hm rfl rfl (OK Q h)
set_option maxHeartbeats 4000000 in
def cj (p : Prog) (l:List Int) (f:Bool) (hok:Dv p) (hl16:l.length≤16) (hin: ∀x∈l,A7 p x=true):Bj Tryz.prog 87 [.a (BV p),.l (iL l) f] [] fun r post=>post= []∧ ∃T,r= .ret (oh T)∧JX T l∧ ∀x∈l,∀y∈l,B3 p x y=true→Dp T x y=Am p x y:=by
 refine Bj.fit (by kernel_rfl) fun hf=>?_
 intro σ hs;have⟨p1,p2,p3,p4⟩:=GI hf.1;have hM:=Mx;have h16:=hok.many;have F:=Jg hf.1;have c1:=Kj p F hok.ZW hok.AT;refine qK kZ ?_
 conv=>whnf
 repeat'((first|apply st|(apply sq;intro K U)|(apply si;intro A B Y Z)|(apply Y;clear Z B Y A)|(apply U;clear U K)|refine⟨kZ,?_⟩|refine DB fun σ hs=>?_|refine c1.use ?_|(intro nn hnn;generalize hg:A6 _ nn _=σ;refine CW hg fun hs=>?_;clear hg)|fail)<;>conv=>whnf)
 replace hs:=Sat.front (j:=2) (Cx (Cx hs 1) 1) rfl;refine B4 p.methods.length (fun m (x:V×V×List RW×List RW)=>[(6,x.1),(7,x.2.1),(8,eI (A3 m))]) (fun _ x=> .box nn (Aq (AM p))::c9 p.methods.length x.1 x.2.1 x.2.2.1 x.2.2.2) (fun m x=>x.2.2.1.length=m∧x.2.2.2.length=m∧(∀r∈x.2.2.1,r.2=List.replicate p.methods.length false)∧ ∀r∈x.2.2.2,r.2=List.replicate p.methods.length false) (.l [] true,.l [] true,[],[]) rfl ⟨rfl,rfl,fun r h=>(by cases h),fun r h=>(by cases h)⟩ hs ?_;clear hs hnn;rintro m ⟨v6,v7,R6,R7⟩ σ hm ⟨h6,h7,ha6,ha7⟩ hs;dsimp only at h6 h7 ha6 ha7 hs;dsimp only;rcases BE p.methods hm with⟨x,hx,hlt⟩|hme
 ·have hll6:R6.length<Ac∧(R6.length+1)*24≤140737488355328:=by omega
  have hll7:R7.length<Ac∧(R7.length+1)*24≤140737488355328:=by omega
  conv=>whnf
  repeat'((first|apply st|(apply sq;intro K U)|(apply si;intro A B Y Z)|(apply Y;clear Z B Y A)|(apply U;clear U K)|refine⟨rfl,?_⟩|(refine CA (fun hc=>?_)<;>(try rw[hc])<;>clear hc)|fail)<;>conv=>whnf)
  simp only[BD];refine dV hs (JU _) (by omega) fun u6 σ hs hu6=>?_
  obtain⟨a6,rfl⟩:=hu6
  conv=>whnf
  repeat'((first|apply st|(apply si;intro A B Y Z)|(apply Y;clear Z B Y A)|(apply U;clear U K)|refine aq (enc:=KQ p.methods.length) (x:=((_:Nat),List.replicate p.methods.length false)) (fun v σ hs hsl=>?_) (hg:=Wx _)|fail)<;>conv=>whnf)
  rename V=>w6
  simp only[BD];refine dV hs (JU _) (by omega) fun u7 σ hs hu7=>?_
  obtain⟨a7,rfl⟩:=hu7
  conv=>whnf
  repeat'((first|(apply si;intro A B Y Z)|(apply Y;clear Z B Y A)|(apply U;clear U K)|refine⟨rfl,?_⟩|refine aq (enc:=KQ p.methods.length) (x:=((_:Nat),List.replicate p.methods.length false)) (fun v σ hs hsl=>?_) (hg:=Wx _)|clear U K)<;>conv=>whnf)
  refine⟨hlt,(w6,v,R6++[(a6,List.replicate p.methods.length false)],R7++[(a7,List.replicate p.methods.length false)]),rfl,⟨by simp;omega,by simp;omega,fun r hr=>?_,fun r hr=>?_⟩,?_⟩
  ·rcases Fo.1 hr with hr|hr
   ·exact ha6 r hr
   ·rw[KM.1 hr]
  ·rcases Fo.1 hr with hr|hr
   ·exact ha7 r hr
   ·rw[KM.1 hr]
  ·refine Sat.perm ?_ (((Po (l₁:=[_,_]) (l₂:=[_])).append_right _).trans (.cons _ aw))
   have hbl:bL (List.replicate p.methods.length false)=List.replicate p.methods.length [V.b false]:=by simp[bL]
   dsimp only[Ev];rw[hbl];exact hs
 ·conv => whnf
  repeat'((first|apply st|(apply sq;intro K U)|(apply si;intro A B Y Z)|(apply Y;clear Z B Y A)|(apply U;clear U K)|refine⟨rfl,?_⟩|(refine DU (fun hc=>?_)<;>(try rw[hc])<;>clear hc)|clear U K)<;>conv=>whnf)
  have hs2:=hs;refine B4 l.length (fun i (R:List RW)=>[(9,eI (A3 i))]) (fun _ R=> .box nn (Aq (AM p))::c9 p.methods.length v6 v7 R R7) (fun i R=>PW p.methods.length R∧ ∀i' k',i'<i→k'<l.length→B3 p (l.getD i' 0) (l.getD k' 0)=true→Dp (JW R) (l.getD i' 0) (l.getD k' 0)=Df p (l.getD i' 0) (l.getD k' 0)) R6 rfl ⟨⟨by omega,fun r hr=>by rw[ha6 r hr];simp⟩,fun i' k' h=>by omega⟩ hs ?_;clear hs hs2;rintro i R σ hi ⟨G,hE⟩ hs;rcases BE l hi with⟨x,hx,hlt⟩|hie
  ·have hxm:=hin x (B1 hx)
   have hxP:=B0 hxm;have hxr:=hxm;simp only[A7,BZ,CY]at hxr
   conv=>whnf
   repeat'((first|apply st|(apply sq;intro K U)|(apply si;intro A B Y Z)|(apply Y;clear Z B Y A)|(apply U;clear U K)|refine⟨rfl,?_⟩|(refine CA (fun hc=>?_)<;>(try rw[hc])<;>clear hc)|fail)<;>conv=>whnf)
   refine B4 l.length (fun k (R:List RW)=>[(10,eI (A3 k))]) (fun _ R=> .box nn (Aq (AM p))::c9 p.methods.length v6 v7 R R7) (fun k R=>PW p.methods.length R∧(∀i' k',i'<i→k'<l.length→B3 p (l.getD i' 0) (l.getD k' 0)=true→Dp (JW R) (l.getD i' 0) (l.getD k' 0)=Df p (l.getD i' 0) (l.getD k' 0))∧ ∀k',k'<k→B3 p x (l.getD k' 0)=true→Dp (JW R) x (l.getD k' 0)=Df p x (l.getD k' 0)) R rfl ⟨G,hE,fun k' h=>by omega⟩ hs ?_;clear hs G hE R;rintro k R σ hk ⟨G,hE,hF⟩ hs;rcases BE l hk with⟨y,hy,hklt⟩|hke
   ·have hym:=hin y (B1 hy)
    have hyP:=B0 hym;have hyr:=hym;simp only[A7,BZ,CY]at hyr;have c2:=fp p x y hxm hym;have c3:=YO (AM p) (BJ p x).fact (BJ p y).fact hok.iB (hok.facts _ (B1 hxP)).1 (hok.facts _ (B1 hyP)).1 (hok.facts _ (B1 hxP)).2 (hok.facts _ (B1 hyP)).2;cases hal:B3 p x y<;>rw[hal]at c2
    ·conv=>whnf
     repeat'((first|apply st|(apply sq;intro K U)|(apply si;intro A B Y Z)|(apply Y;clear Z B Y A)|(apply U;clear U K)|apply dr|refine⟨rfl,?_⟩|refine⟨kZ,?_⟩|refine ix ?_|(refine CA (fun hc=>?_)<;>(try rw[hc])<;>clear hc)|refine c2.use ?_|clear U K)<;>conv=>whnf)
     refine⟨hklt,R,rfl,⟨G,hE,fun k' h=>?_⟩,hs⟩;rcases Nat.lt_or_ge k' k with h'|h'
     ·exact hF k' h'
     ·rw[show k'=k by omega,CP hy,hal]
      intro e;cases e
    ·obtain⟨r,hr⟩: ∃r,R[x.toNat]? =some r:=⟨_,Ct (by have:=G.len;omega)⟩
     have hl0:=G.len;have hl1:(R.map (KQ p.methods.length)).length=p.methods.length:=by rw[BD];exact G.len
     have hl2:=G.row r (B1 hr);have hl3:(bL r.2).length=p.methods.length:=by simpa using hl2
     have hj:(At.box nn (Aq (AM p))::c9 p.methods.length v6 v7 R R7)[x.toNat+3]? =some (Ev p.methods.length r):=by
      show(R.map (Ev p.methods.length)++R7.map (Ev p.methods.length))[x.toNat]? =_;rw[c7 (by rw[BD];have:=G.len;omega),Lc,hr];rfl
     replace hs:Sat σ (Ev p.methods.length r:: .box nn (Aq (AM p)):: .own v6 1 (R.map (KQ p.methods.length)):: .own v7 1 (R7.map (KQ p.methods.length))::(R.map (Ev p.methods.length)++R7.map (Ev p.methods.length)).eraseIdx x.toNat):=hs.front hj
     conv=>whnf
     repeat'((first|apply st|(apply sq;intro K U)|(apply si;intro A B Y Z)|(apply Y;clear Z B Y A)|(apply U;clear U K)|apply dr|refine rk ?_ ?_|exact fun s e=>by cases e;rfl|refine⟨rfl,?_⟩|refine⟨kZ,?_⟩|refine ix ?_|refine FE ?_|refine dH fun σ hs=>?_|refine ld ?_|refine oi ?_|refine NX ?_|(refine CA (fun hc=>?_)<;>(try rw[hc])<;>clear hc)|refine c2.use ?_|refine c3.use ?_|clear U K)<;>conv=>whnf)
     have hk2:y.toNat<p.methods.length:=by omega
     have hkeep: ∀u v,A7 p u=true→A7 p v=true→Dp (JW R) u v=Df p u v→Dp (JW (R.set x.toNat (r.1,r.2.set y.toNat (Df p x y)))) u v=Df p u v:=fun u v hu hv e=>by
      simp only[A7,BZ,CY]at hu hv;rw[Ui G hr hk2];split
      ·rename_i h
       rw[show u=x by omega,show v=y by omega]
      ·exact e
     refine⟨hklt,R.set x.toNat (r.1,r.2.set y.toNat (Df p x y)),rfl,⟨G.put hr,fun i' k' h1 h2 h3=>?_,fun k' h1 h2=>?_⟩,bz (AA:=[_]) hr rfl hs⟩
     ·exact hkeep _ _ (hin _ (D9 (by omega))) (hin _ (D9 h2)) (hE i' k' h1 h2 h3)
     ·rcases Nat.lt_or_ge k' k with h'|h'
      ·exact hkeep _ _ hxm (hin _ (D9 (by omega))) (hF k' h' h2)
      ·rw[show k'=k by omega,CP hy,Ui G hr hk2,if_pos ⟨rfl,rfl⟩]
   ·conv=>whnf
    repeat'((first|apply st|(apply sq;intro K U)|(apply si;intro A B Y Z)|(apply Y;clear Z B Y A)|(apply U;clear U K)|refine⟨rfl,?_⟩|(refine DU (fun hc=>?_)<;>(try rw[hc])<;>clear hc)|clear U K)<;>conv=>whnf)
    refine⟨hlt,R,rfl,⟨G,fun i' k' h1 h2=>?_⟩,hs⟩;rcases Nat.lt_or_ge i' i with h'|h'
    ·exact hE i' k' h' h2
    ·rw[show i'=i by omega,CP hx]
     exact hF k' (by omega)
  ·have hlR:=G.len
   have hnr:PW p.methods.length R7:=⟨by omega,fun r hr=>by rw[ha7 r hr];simp⟩
   conv=>whnf
   repeat'((first|apply st|(apply sq;intro K U)|(apply si;intro A B Y Z)|(apply Y;clear Z B Y A)|(apply U;clear U K)|refine⟨rfl,?_⟩|(refine DU (fun hc=>?_)<;>(try rw[hc])<;>clear hc)|clear U K)<;>conv=>whnf)
   refine B4 p.methods.length (fun m (Q:List RW)=>[(11,eI (A3 m))]) (fun _ Q=> .box nn (Aq (AM p))::c9 p.methods.length v6 v7 R Q) (fun m Q=>PW p.methods.length Q∧ ∀m' n':Nat,m'<m→n'<p.methods.length→Dp (JW Q) m' n'=(Dp (JW R) m' n'&& !Dp (JW R) n' m')) R7 rfl ⟨hnr,fun m' n' h=>by omega⟩ hs ?_;clear hs hnr;rintro m Q σ hm ⟨hQ,hG⟩ hs;have hlQ:=hQ.len;have hl5:(Q.map (KQ p.methods.length)).length=p.methods.length:=by rw[BD];exact hlQ
   have hl6:(R.map (KQ p.methods.length)).length=p.methods.length:=by rw[BD];exact hlR
   rcases Nat.lt_or_ge m p.methods.length with hlt|hme
   ·obtain ⟨ra,hra⟩: ∃r,R[m]? =some r:=⟨_,Ct (by omega)⟩
    conv=>whnf
    repeat'((first|apply st|(apply sq;intro K U)|(apply si;intro A B Y Z)|(apply Y;clear Z B Y A)|(apply U;clear U K)|refine⟨rfl,?_⟩|refine lo ?_|(constructor<;>intro hc<;>(try rw[hc])<;>(replace hc:=bp hc)<;>(try simp(disch:=omega) only[BD,wrap64,AL]at hc)<;>try(exfalso;omega))|fail)<;>conv=>whnf)
    refine B4 p.methods.length (fun n (Q:List RW)=>[(12,eI (A3 n))]) (fun _ Q=> .box nn (Aq (AM p))::c9 p.methods.length v6 v7 R Q) (fun n Q=>PW p.methods.length Q∧(∀m' n':Nat,m'<m→n'<p.methods.length→Dp (JW Q) m' n'=(Dp (JW R) m' n'&& !Dp (JW R) n' m'))∧ ∀n':Nat,n'<n→Dp (JW Q) m n'=(Dp (JW R) m n'&& !Dp (JW R) n' m)) Q rfl ⟨hQ,hG,fun n' h=>by omega⟩ hs ?_;clear hs hQ hG hlQ hl5;rintro n Q σ hn ⟨hQ,hG,hI⟩ hs;have hlQ:=hQ.len;have hl5:(Q.map (KQ p.methods.length)).length=p.methods.length:=by rw[BD];exact hlQ
    rcases Nat.lt_or_ge n p.methods.length with hnlt|hne
    ·obtain⟨rb,hrb⟩: ∃r,R[n]? =some r:=⟨_,Ct (by omega)⟩
     obtain⟨rq,hrq⟩: ∃r,Q[m]? =some r:=⟨_,Ct (by omega)⟩
     have hla:=G.row ra (B1 hra);have hlb:=G.row rb (B1 hrb);have hlq:=hQ.row rq (B1 hrq);have hcm:A3 m=m:=AL (by omega);have hcn:A3 n=n:=AL (by omega);obtain⟨ba,hba⟩: ∃b,ra.2[n]? =some b:=⟨_,Ct (by omega)⟩
     obtain⟨bb,hbb⟩: ∃b,rb.2[m]? =some b:=⟨_,Ct (by omega)⟩
     have g1:Hid ((At.box nn (Aq (AM p))::c9 p.methods.length v6 v7 R Q)[m+3]? =some (Ev p.methods.length ra)):=by
      refine .mk ?_;show(R.map (Ev p.methods.length)++Q.map (Ev p.methods.length))[m]? =_;rw[c7 (by rw[BD];omega),Lc,hra];rfl
     have g2:Hid ((At.box nn (Aq (AM p))::c9 p.methods.length v6 v7 R Q)[n+3]? =some (Ev p.methods.length rb)):=by
      refine .mk ?_;show(R.map (Ev p.methods.length)++Q.map (Ev p.methods.length))[n]? =_;rw[c7 (by rw[BD];omega),Lc,hrb];rfl
     have g3:Hid ((At.box nn (Aq (AM p))::c9 p.methods.length v6 v7 R Q)[R.length+m+3]? =some (Ev p.methods.length rq)):=by
      refine .mk ?_;show(R.map (Ev p.methods.length)++Q.map (Ev p.methods.length))[R.length+m]? =_;rw[List.getElem?_append_right (by rw[BD];omega),BD,show R.length+m - R.length=m by omega,Lc,hrq];rfl
     have hra2:R[(A3 m).toNat]? =some ra:=by rw[hcm,IT];exact hra
     have hrb2:R[(A3 n).toNat]? =some rb:=by rw[hcn,IT];exact hrb
     have hrq2:Q[(A3 m).toNat]? =some rq:=by rw[hcm,IT];exact hrq
     have eab:=gF hra hba;have eba:=gF hrb hbb;have hput: ∀b,PW p.methods.length (Q.set m (rq.1,rq.2.set n b)):=fun b=>hQ.put hrq
     have hnew: ∀(b:Bool) (u v:Nat),Dp (JW (Q.set m (rq.1,rq.2.set n b))) u v=if u=m∧v=n then b else Dp (JW Q) u v:=fun b u v=>by
      have:=Ui (b:=b) hQ hrq hnlt u v;simpa using this
     have hfin: ∀b,b=(ba&& !bb)→(∀m' n':Nat,m'<m→n'<p.methods.length→Dp (JW (Q.set m (rq.1,rq.2.set n b))) m' n'=(Dp (JW R) m' n'&& !Dp (JW R) n' m'))∧ ∀n':Nat,n'<n+1→Dp (JW (Q.set m (rq.1,rq.2.set n b))) m n'=(Dp (JW R) m n'&& !Dp (JW R) n' m):=fun b hb=>by
      refine⟨fun m' n' h1 h2=>?_,fun n' h1=>?_⟩
      ·rw[hnew,if_neg fun h=>by omega]
       exact hG m' n' h1 h2
      ·rw[hnew]
       split
       ·rename_i h
        rw[h.2,eab,eba,hb]
       ·exact hI n' (by omega)
     cases ba
     ·conv=>whnf
      repeat'((first|apply st|(apply sq;intro K U)|(apply si;intro A B Y Z)|(apply Y;clear Z B Y A)|(apply U;clear U K)|apply dr|refine⟨rfl,?_⟩|refine lo ?_|refine oi ?_|refine NX ?_|refine dH (fun σ hs=>?_) (hi:=g3.un) (h1:=by omega)|refine oc ?_ (hi:=g1.un) (h1:=by rw[BD];omega)|refine oc ?_ (hi:=g3.un) (h1:=by rw[BD];omega)|refine NX ?_ (hi:=g1.un)|(constructor<;>intro hc<;>(try rw[hc])<;>(replace hc:=bp hc)<;>(try simp(disch:=omega) only[BD,wrap64,AL]at hc)<;>try(exfalso;omega))|clear U K)<;>conv=>whnf)
      refine⟨hnlt,Q.set m (rq.1,rq.2.set n false),rfl,⟨hput _,hfin _ rfl⟩,?_⟩;refine(congrArg (Sat σ) (Qb (n:=p.methods.length) (v7:=v7) (R:=R) (B:= .box nn (Aq (AM p))) (AF:= .own v6 1 (R.map (KQ p.methods.length))) (r':=(rq.1,rq.2.set n false)) hrq rfl)).mp ?_
      first
       | exact hs
       | (rw[hcn,IT]at hs;exact hs)
     ·conv=>whnf
      repeat'((first|apply st|(apply sq;intro K U)|(apply si;intro A B Y Z)|(apply Y;clear Z B Y A)|(apply U;clear U K)|apply dr|refine⟨rfl,?_⟩|refine lo ?_|refine oi ?_|refine NX ?_|refine dH (fun σ hs=>?_) (hi:=g3.un) (h1:=by omega)|refine oc ?_ (hi:=g1.un) (h1:=by rw[BD];omega)|refine oc ?_ (hi:=g2.un) (h1:=by rw[BD];omega)|refine oc ?_ (hi:=g3.un) (h1:=by rw[BD];omega)|refine NX ?_ (hi:=g1.un)|refine NX ?_ (hi:=g2.un)|(constructor<;>intro hc<;>(try rw[hc])<;>(replace hc:=bp hc)<;>(try simp(disch:=omega) only[BD,wrap64,AL]at hc)<;>try(exfalso;omega))|clear U K)<;>conv=>whnf)
      refine⟨hnlt,Q.set m (rq.1,rq.2.set n (!bb)),rfl,⟨hput _,hfin _ rfl⟩,?_⟩;refine(congrArg (Sat σ) (Qb (n:=p.methods.length) (v7:=v7) (R:=R) (B:= .box nn (Aq (AM p))) (AF:= .own v6 1 (R.map (KQ p.methods.length))) (r':=(rq.1,rq.2.set n (!bb))) hrq rfl)).mp ?_
      first
       | exact hs
       | (rw[hcn,IT]at hs;exact hs)
    ·conv=>whnf
     repeat'((first|apply st|(apply sq;intro K U)|(apply si;intro A B Y Z)|(apply Y;clear Z B Y A)|(apply U;clear U K)|refine⟨rfl,?_⟩|refine lo ?_|(constructor<;>intro hc<;>(try rw[hc])<;>(replace hc:=bp hc)<;>(try simp(disch:=omega) only[BD,wrap64,AL]at hc)<;>try(exfalso;omega))|clear U K)<;>conv=>whnf)
     refine⟨hlt,Q,rfl,⟨hQ,fun m' n' h1 h2=>?_⟩,hs⟩;rcases Nat.lt_or_ge m' m with h'|h'
     ·exact hG m' n' h' h2
     ·rw[show m'=m by omega]
      exact hI n' (by omega)
   ·conv=>whnf
    repeat'((first|apply st|(apply sq;intro K U)|(apply si;intro A B Y Z)|(apply Y;clear Z B Y A)|(apply U;clear U K)|refine⟨rfl,?_⟩|refine lo ?_|(constructor<;>intro hc<;>(try rw[hc])<;>(replace hc:=bp hc)<;>(try simp(disch:=omega) only[BD,wrap64,AL]at hc)<;>try(exfalso;omega))|clear U K)<;>conv=>whnf)
    have hrow: ∀r∈Q,(Ev p.methods.length r).ok σ:=fun r hr=>hs.xa (.tail _ (.tail _ (.tail _ (NW _ (Lf.2 ⟨r,hr,rfl⟩)))))
    refine cu (j3 (hs.xa (.tail _ (.tail _ (.head _)))) hrow) ⟨[],⟨rfl,_,rfl,?_,fun x hx y hy hal=>?_⟩,Sat.nil⟩
    ·have hlT:(JW Q).length=p.methods.length:=by rw[JW,BD];exact hlQ
     refine⟨by omega,fun r hr=>?_,fun x hx=>?_,hl16⟩
     ·obtain⟨q,hq,rfl⟩:=Lf.1 hr
      rw[hlT];exact hQ.row q hq
     ·have:=hin x hx
      simp only[A7,BZ,CY]at this;rw[hlT];omega
    ·have mx:=hin x hx
     have my:=hin y hy;simp only[A7,BZ,CY]at mx my
     have hal2:B3 p y x=true:=by
      simp only[B3,BZ,Dn]at hal ⊢;exact⟨hal.1.symm,hal.2.symm⟩
     obtain⟨a,ha,rfl⟩:=List.getElem_of_mem hx;obtain⟨b,hb,rfl⟩:=List.getElem_of_mem hy;have e1:l.getD a 0=l[a]:=CP (Ct ha);have e2:l.getD b 0=l[b]:=CP (Ct hb);have h1:=hE a b (by omega) hb;have h2:=hE b a (by omega) ha;rw[e1,e2]at h1 h2;have h3:=hG l[a].toNat l[b].toNat (by omega) (by omega);rw[Int.toNat_of_nonneg mx.1,Int.toNat_of_nonneg my.1,h1 hal,h2 hal2]at h3;exact h3
end Go.Gl
namespace Go.Gl
open Go.Proofs
attribute [local irreducible] BL A5 Aj AW AN Ai AV AX AO Ah AS AU BA BK Sat Ad BH Al W
def KH {f g:Nat→Bool}: ∀ {l:List Nat},(∀x∈l,f x=g x)→l.all f=l.all g
 | [],_=>rfl
 | x::r,h=>by rw[MU,MU,h x (.head _),KH fun y hy=>h y (.tail _ hy)]
def U4 {A B:Int→Int→Bool} {l:List Int} (h: ∀x∈l,∀y∈l,A x y=B x y) {i:Nat} (hi:i<l.length):Gu A l i l.length=Gu B l i l.length:=by
 rw[Gu,Gu];refine KH fun k hk=>?_
 rw[h _ (D9 hi) _ (D9 (List.mem_range.1 hk))]
def find_congr {f g:Nat→Bool}: ∀ {l:List Nat},(∀x∈l,f x=g x)→l.find? f=l.find? g
 | [],_=>rfl
 | x::r,h=>by
   rw[List.find?_cons,List.find?_cons,h x (.head _),find_congr fun y hy=>h y (.tail _ hy)]
def SI {A B:Int→Int→Bool} {l:List Int} (h: ∀x∈l,∀y∈l,A x y=B x y):Ea A l=Ea B l:=
 find_congr fun i hi=>U4 h (List.mem_range.1 hi)
def LU {A B:Int→Int→Bool}: ∀(k:Nat) (l:List Int),(∀x∈l,∀y∈l,A x y=B x y)→Bk A k l=Bk B k l
 | 0,_,_=>rfl
 | k + 1,l,h=>by
   rw[Bk,Bk,SI h];cases Ea B l with
   | none=>rfl
   | some i=>
     dsimp only;rw[LU k (l.eraseIdx i) fun x hx y hy=>h x (List.mem_of_mem_eraseIdx hx) y (List.mem_of_mem_eraseIdx hy)]
def VN {A B:Int→Int→Bool} {l:List Int} (h: ∀x∈l,∀y∈l,A x y=B x y):Ln A l=Ln B l:=
 find_congr fun i hi=>by
  rw[Jr,Jr];refine KH fun k hk=>?_
  rw[h _ (D9 (List.mem_range.1 hk)) _ (D9 (List.mem_range.1 hi))]
def PL {A B:Int→Int→Bool}: ∀(k:Nat) (l:List Int),(∀x∈l,∀y∈l,A x y=B x y)→DM A k l=DM B k l
 | 0,_,_=>rfl
 | k+1,l,h=>by
   rw[DM,DM,VN h,PL k (l.eraseIdx _) fun x hx y hy=>h x (List.mem_of_mem_eraseIdx hx) y (List.mem_of_mem_eraseIdx hy)]
def OG {x y:Int} {out:List Int}:y∈G0 x out↔y=x∨y∈out:=by
 have h:=List.takeWhile_append_dropWhile (p:=fun y=>decide (y<x)) (l:=out);rw[G0];constructor
 ·intro hy
  rcases Fo.1 hy with hy|hy
  ·right;rw[←h];exact PU _ hy
  ·rcases GB.1 hy with rfl|hy
   ·exact .inl rfl
   ·right;rw[←h];exact NW _ hy
 ·rintro(rfl|hy)
  ·exact NW _ (.head _)
  ·rw[←h]at hy
   rcases Fo.1 hy with hy|hy
   ·exact PU _ hy
   ·exact NW _ (.tail _ hy)
def PB: ∀(l out:List Int) (y:Int),y∈l.foldl (fun out x=>G0 x out) out↔y∈l∨y∈out
 | [],out,y=>by simp
 | x ::r,out,y=>by
   rw[List.foldl_cons,PB r,OG,GB];constructor
   ·rintro(h|h|h)
    ·exact .inl (.inr h)
    ·exact .inl (.inl h)
    ·exact .inr h
   ·rintro((h|h)|h)
    ·exact .inr (.inl h)
    ·exact .inl h
    ·exact .inr (.inr h)
def JL {l:List Int} {y:Int}:y∈Cw l↔y∈l:=by rw[Cw,PB];simp
def PC: ∀(l out:List Int),(l.foldl (fun out x=>G0 x out) out).length=l.length+out.length
 | [],out=>by simp
 | x::r,out=>by rw[List.foldl_cons,PC r,K6,La];omega
def QE (l:List Int):(Cw l).length=l.length:=by rw[Cw,PC];simp
structure Ny (p:Prog) (l:List Int):Prop where
 Iq: ∀x∈l,A7 p x=true
 alike: ∀x∈l,∀y∈l,B3 p x y=true
 many:l.length≤16
def gB (p:Prog) (l:List Int) (kd:Bool) (x:Int):Bool:=A7 p x&&((BJ p x).gen==(BJ p (l.getD 0 0)).gen&&(!kd||B3 p x (l.getD 0 0)))
def HM (p:Prog) (l:List Int) (kd:Bool):Bool:=l.all (gB p l kd)&&decide l.Nodup
def YI {p:Prog} {l:List Int} {kd:Bool} {i:Nat} {x:Int} (hx:l[i]? =some x) (h:gB p l kd x=false):HM p l kd=false:=by
 rw[HM,Bool.and_eq_false_iff];left;rw[←Bool.not_eq_true,E0];intro h2;rw[h2 x (B1 hx)]at h;cases h
def YH {p:Prog} {l:List Int} {kd:Bool} {i k:Nat} {x:Int} (hx:l[i]? =some x) (hk:l[k]? =some x) (h:k<i):HM p l kd=false:=by
 rw[HM,Bool.and_eq_false_iff];right;rw[decide_eq_false_iff_not];intro h2;have hi:=(Hk.1 hx)
 have hj:=(Hk.1 hk)
 have:=(List.nodup_iff_pairwise_ne.1 h2)
 rw[List.pairwise_iff_getElem]at this;exact this k i hj.1 hi.1 h (by rw[hj.2,hi.2])
def VM {l:List Int} {i:Nat} {x:Int} (hx:l[i]? =some x) (h:(l.take i).Nodup) (hn: ∀k y,k<i→l[k]? =some y→y≠x):(l.take (i+1)).Nodup:=by
 rw[AQ hx,List.nodup_append];refine⟨h,by simp,fun a ha b hb=>?_⟩;rw[KM.1 hb];obtain⟨k,hk⟩:=List.getElem?_of_mem ha;rw[List.getElem?_take]at hk;split at hk
 ·exact hn k a (by assumption) hk
 ·cases hk
def TO: ∀(n:Nat) (l:List Int),l.Nodup→(∀x∈l,0≤x∧x<(n:Int))→l.length≤n
 | 0,l,_,h=>by
   cases l with
   | nil=>simp
   | cons x r=>have:=h x (.head _);omega
 | n + 1,l,hn,h=>by
   have h1:=TO n (l.erase (n:Int)) (hn.erase _) fun x hx=>by
    have hm:=(List.Nodup.mem_erase_iff hn).1 hx;have:=h x hm.2;have:=hm.1;omega
   have h2:=List.length_erase (a:=(n:Int)) (l:=l);split at h2<;>omega
def bg {p:Prog} {l:List Int} (hok:Dv p) (h:HM p l true=true):Ny p l∧l.Nodup:=by
 rw[HM,BZ,E0,CY]at h;obtain⟨h1,h2⟩:=h
 have hm: ∀x∈l,A7 p x=true∧B3 p x (l.getD 0 0)=true:=fun x hx=>by
  have:=h1 x hx;simp only[gB,BZ,Bool.not_true,Bool.false_or]at this;exact⟨this.1,this.2.2⟩
 refine⟨⟨fun x hx=>(hm x hx).1,fun x hx y hy=>?_,Nat.le_trans (TO p.methods.length l h2 fun x hx=>?_) hok.many⟩,h2⟩
 ·have a:=(hm x hx).2
  have b:=(hm y hy).2;simp only[B3,BZ,Dn]at a b ⊢;exact⟨a.1.trans b.1.symm,a.2.trans b.2.symm⟩
 ·have:=(hm x hx).1
  simp only[A7,BZ,CY]at this;omega
def Hy (p:Prog) (l:List Int):(List Int×Bool)×Int:=if(BX p).isSome&&HM p l true then(Bk (Am p) l.length l,0)else(([],false),2)
abbrev pI (p:Int×Int):List V:=[eI p.1,eI p.2]
abbrev pP (l:List (Int×Int)):List (List V):=l.map pI
def N1:EO pI 2:=fun x=>⟨rfl,fun v hv=>by
 simp only[pI,GB,List.not_mem_nil,or_false]at hv
 rcases hv with rfl|rfl<;>rfl⟩
def Jt (p:Prog) (g:Int):Bool:=decide (0≤g)&&decide (g<(p.Cz.length:Int))
def Sp (k:Int):Bool:=decide (1≤k)&&decide (k≤4)
def KV (n:Nat) (f:Nat→Nat→Bool) (i:Nat):List (Int×Int):=((List.range n).filter (f i)).map fun(j:Nat)=>((i:Int),(j:Int))
def RO (n:Nat) (f:Nat→Nat→Bool):List (Int×Int):=(List.range n).flatMap (KV n f)
def IZ (p:Prog) (gen kind:Int) (i j:Nat):Bool:=(BJ p i).gen==gen&&((BJ p i).kind==kind&&(B3 p i j&&Am p i j))
def Gm (p:Prog) (gen kind:Int):List (Int×Int)×Int:=if(BX p).isSome&&(Jt p gen&&Sp kind)then(RO p.methods.length (IZ p gen kind),0)else([],2)
def px (p:Prog) (g:Int):Pure Tryz.prog 52 [.a (BV p),eI g] (.b (Jt p g)):=by
 refine Pure.fit (by kernel_rfl) fun hf=>?_
 have⟨p1,p2,p3,p4⟩:=GI hf.1;refine qg kZ ?_;have hs:=Sn
 conv=>whnf
 repeat'((first|apply st|(apply sq;intro K U)|(apply si;intro A B Y Z)|(apply Y;clear Z B Y A)|(apply U;clear U K)|refine⟨rfl,?_⟩|(constructor<;>intro hc<;>(try rw[hc])<;>(replace hc:=bp hc))|fail)<;>conv=>whnf)
 all_goals exact AI (by simp[Jt, *]<;>omega)
def Hf (n:Nat) (f:Nat→Nat→Bool) (k:Nat):(List.range (k+1)).flatMap (KV n f)=(List.range k).flatMap (KV n f)++KV n f k:=by
 rw[List.range_succ,List.flatMap_append];simp
def Lh (f:Nat→Nat→Bool) (i k:Nat):List (Int×Int):=((List.range k).filter (f i)).map fun(j:Nat)=>((i:Int),(j:Int))
def JO (f:Nat→Nat→Bool) (i k:Nat):Lh f i (k+1)=Lh f i k++(if f i k then [((i:Int),(k:Int))]else []):=by
 rw[Lh,List.range_succ,List.filter_append,SN,Lh];cases h:f i k<;>simp[h]
def Ri (f:Nat→Nat→Bool) (i k:Nat):(Lh f i k).length≤k:=by
 rw[Lh,BD];exact Nat.le_trans (KN _ _) (by simp)
def NS (n:Nat) (f:Nat→Nat→Bool) (k:Nat):((List.range k).flatMap (KV n f)).length≤k*n:=by
 induction k with
 | zero=>simp
 | succ k ih=>
   rw[Hf,PR,Nat.succ_mul];have:=Ri f k n;have e:KV n f k=Lh f k n:=rfl;rw[e];omega
def SP (p:Prog) (gen:Int) (i j:Nat):Bool:=decide (i<j)&&((BJ p i).gen==gen&&(B3 p i j&&(Df p i j&&Df p j i)))
def Lu (p:Prog) (gen:Int):List (Int×Int)×Int:=if(BX p).isSome&&Jt p gen then(RO p.methods.length (SP p gen),0)else([],2)
def Tv (xs ys:List (Int×Int)) (f g:Bool) (hl:xs.length≤1000) (hm:ys.length≤1000):Pure Tryz.prog 19 [.l (pP xs) f,.l (pP ys) g] (.b (xs==ys)):=by
 have hM:=Mx;refine qv kZ ?_;have hs:=Sn;by_cases hlen:xs.length=ys.length
 ·conv=>whnf
  repeat'((first|apply st|(apply sq;intro K U)|(apply si;intro A B Y Z)|(apply Y;clear Z B Y A)|(apply U;clear U K)|refine⟨rfl,?_⟩|(constructor<;>intro hc<;>(try rw[hc])<;>(replace hc:=bp hc)<;>(try simp(disch:=omega) only[BD,wrap64,AL]at hc)<;>try(exfalso;omega))|fail)<;>conv=>whnf)
  refine B4 xs.length (fun k (_:Unit)=>[(5,eI (A3 k))]) (fun _ _=>[]) (fun k _=>(xs==ys)=(xs.drop k==ys.drop k)) () rfl rfl Sat.nil ?_;clear hs;rintro k - σ hk hn hs;rcases BE xs hk with⟨x,hx,hlt⟩|hke
  ·obtain⟨y,hy⟩: ∃y,ys[k]? =some y:=⟨_,Ct (by omega)⟩
   rw[drop_cons hx,drop_cons hy]at hn
   conv=>whnf
   repeat'((first|apply st|(apply sq;intro K U)|(apply si;intro A B Y Z)|(apply Y;clear Z B Y A)|(apply U;clear U K)|apply dr|refine⟨rfl,?_⟩|refine⟨kZ,?_⟩|refine ix ?_|(refine CA (fun hc=>?_)<;>(try rw[hc])<;>clear hc)|(constructor<;>intro hc<;>(try rw[hc])<;>(replace hc:=bp hc)<;>(try simp(disch:=omega) only[BD,wrap64,AL]at hc))|clear U K)<;>conv=>whnf)
   ·refine AI ?_
    rw[hn];congr 1;rw[Bool.and_true]at hc;rw[List.cons_beq_cons,show(x==y)=(x.1==y.1&&x.2==y.2) from rfl,hc];rfl
   ·refine⟨hlt,(),rfl,?_,hs⟩
    rw[Bool.and_true]at hc;rw[hn,List.cons_beq_cons,show(x==y)=(x.1==y.1&&x.2==y.2) from rfl,hc,Ey]
  ·conv=>whnf
   repeat'((first|apply st|(apply sq;intro K U)|(apply si;intro A B Y Z)|(apply Y;clear Z B Y A)|(apply U;clear U K)|refine⟨rfl,?_⟩|(refine DU (fun hc=>?_)<;>(try rw[hc])<;>clear hc)|clear U K)<;>conv=>whnf)
   exact AI (by rw[hn,Ag hke,Ag (by omega)];rfl)
 ·conv=>whnf
  repeat'((first|apply st|(apply sq;intro K U)|(apply si;intro A B Y Z)|(apply Y;clear Z B Y A)|(apply U;clear U K)|refine⟨rfl,?_⟩|(constructor<;>intro hc<;>(try rw[hc])<;>(replace hc:=bp hc)<;>(try simp(disch:=omega) only[BD,wrap64,AL]at hc)<;>try(exfalso;omega))|clear U K)<;>conv=>whnf)
  exact AI (by(have:(xs==ys)=false:=by(simp;intro e;subst e;exact hlen rfl));rw[this])
def ZZ (p:Prog) (L:Nat) (g:Int):Pure Tryz.prog 49 [Fu p L,eI g] (.b (Jt p g)):=by
 refine Pure.fit (by kernel_rfl) fun hf=>?_
 have hM:=Mx;refine gk kZ ?_;have hs:=Sn
 conv=>whnf
 repeat'((first|apply st|(apply sq;intro K U)|(apply si;intro A B Y Z)|(apply Y;clear Z B Y A)|(apply U;clear U K)|refine⟨rfl,?_⟩|(constructor<;>intro hc<;>(try rw[hc])<;>(replace hc:=bp hc))|fail)<;>conv=>whnf)
 all_goals exact AI (by simp[Jt, *]<;>omega)
def Up (g:Int):Pure Tryz.prog 49 [.pn,eI g] (.b false):=by
 refine gk kZ ?_;have hs:=Sn
 conv=>whnf
 repeat'((first|apply st|(apply sq;intro K U)|(apply si;intro A B Y Z)|(apply Y;clear Z B Y A)|(apply U;clear U K)|refine D2 ?_|fail)<;>conv=>whnf)
 all_goals exact AI rfl
def XW (p:Prog) (L:Nat) (g:Int):Pure Tryz.prog 50 [Fu p L,eI g] (.f (.func 75) [] [.rp [Fu p L],.rp [eI g]]):=by
 refine qi kZ ?_;have hs:=Sn
 conv=>whnf
 repeat'((first|apply st|(apply sq;intro K U)|(apply si;intro A B Y Z)|(apply Y;clear Z B Y A)|(apply U;clear U K)|fail)<;>conv=>whnf)
 all_goals exact AI rfl
def aH (xs:List (Int×Int)) (v:V) (hl:xs.length≤Ac):Bj Tryz.prog 51 [v] [.own v 2 (pP xs)] fun r post=>r= .ret (.l (pP xs) true)∧post= []:=by
 intro σ hs;have hg:=Cn N1 xs;refine qh kZ ?_
 conv=>whnf
 repeat'((first|(apply sq;intro K U)|(apply si;intro A B Y Z)|(apply Y;clear Z B Y A)|(apply U;clear U K)|refine lo ?_|fail)<;>conv=>whnf)
 refine WG (i:=0) hs rfl hg.1 (by simpa using hl) fun σ hs=>?_
 conv=>whnf
 repeat'((first|apply st|(apply Y;clear Z B Y A)|(apply U;clear U K)|fail)<;>conv=>whnf)
 exact Ap hs (List.Sublist.refl _) (.refl _) fun σ' hs'=>⟨_,⟨rfl,rfl⟩,hs'⟩
def Bz (iS:Int) (v:Int×Int):Bool:=
 if v.1=1 then decide (-1000000000≤v.2)&&decide (v.2≤1000000000)else if v.1=2 then v.2==0 else if v.1=3 then decide (0≤v.2)&&decide (v.2<iS)else false
def de (v:Int×Int) (n:Int):Pure Tryz.prog 80 [.a (pI v),eI n] (.b (Bz n v)):=by
 obtain⟨k,x⟩:=v;refine qP kZ ?_;have hs:=Sn
 conv=>whnf
 repeat'((first|apply st|(apply sq;intro K U)|(apply si;intro A B Y Z)|(apply Y;clear Z B Y A)|(apply U;clear U K)|refine⟨rfl,?_⟩|(constructor<;>intro hc<;>(try rw[hc])<;>(replace hc:=bp hc)<;>(try simp(disch:=omega) only[BD,wrap64,AL]at hc))|clear U K)<;>conv=>whnf)
 all_goals exact AI (by simp[Bz, *]<;>omega)
def pJ (v:Int×Int) (n:Int):Pure Tryz.prog 92 [.a (pI v),eI n] (.b (Bz n v)):=by
 obtain⟨k,x⟩:=v;refine qG kZ ?_;have hs:=Sn
 conv=>whnf
 repeat'((first|apply st|(apply sq;intro K U)|(apply si;intro A B Y Z)|(apply Y;clear Z B Y A)|(apply U;clear U K)|refine⟨rfl,?_⟩|(constructor<;>intro hc<;>(try rw[hc])<;>(replace hc:=bp hc)<;>(try simp(disch:=omega) only[BD,wrap64,AL]at hc))|clear U K)<;>conv=>whnf)
 all_goals exact AI (by simp[Bz, *]<;>omega)
def Zh (l:List (Int×Int)) (f:Bool) (n:Int):Pure Tryz.prog 63 [.l (pP l) f,eI n] (.b (l.all (Bz n))):=by
 refine Pure.fit (by kernel_rfl) fun hf=>?_
 have hl:l.length≤Ac:=by
  have:=hf.1;simp only[EZ,BD]at this;exact this.1
 have hM:=Mx;refine qZ kZ ?_;have hs:=Sn
 conv=>whnf
 repeat'((first|apply st|(apply sq;intro K U)|(apply si;intro A B Y Z)|(apply Y;clear Z B Y A)|(apply U;clear U K)|fail)<;>conv=>whnf)
 refine B4 l.length (fun k (_:Unit)=>[(9,eI (A3 k))]) (fun _ _=>[]) (fun k _=>l.all (Bz n)=(l.drop k).all (Bz n)) () rfl rfl hs ?_;clear hs;rintro k - σ hk hn hs;rcases BE l hk with⟨x,hx,hlt⟩|hke
 ·have c1:=pJ x n
  rw[drop_cons hx,MU]at hn;cases hv:Bz n x<;>rw[hv]at c1 hn
  ·conv=>whnf
   repeat'((first|apply st|(apply sq;intro K U)|(apply si;intro A B Y Z)|(apply Y;clear Z B Y A)|(apply U;clear U K)|refine⟨rfl,?_⟩|refine⟨kZ,?_⟩|refine ix ?_|refine ld ?_|refine DB fun σ hs=>?_|refine E2 ?_|(refine CA (fun hc=>?_)<;>(try rw[hc])<;>clear hc)|refine c1.use ?_|(intro nn hnn;generalize hg:A6 _ nn _=σ;refine CW hg fun hs=>?_;clear hg)|clear U K)<;>conv=>whnf)
   exact AI (by rw[hn];rfl)
  ·conv=>whnf
   repeat'((first|apply st|(apply sq;intro K U)|(apply si;intro A B Y Z)|(apply Y;clear Z B Y A)|(apply U;clear U K)|refine⟨rfl,?_⟩|refine⟨kZ,?_⟩|refine ix ?_|refine ld ?_|refine DB fun σ hs=>?_|refine D2 ?_|(refine CA (fun hc=>?_)<;>(try rw[hc])<;>clear hc)|refine c1.use ?_|(intro nn hnn;generalize hg:A6 _ nn _=σ;refine CW hg fun hs=>?_;clear hg)|clear U K)<;>conv=>whnf)
   exact⟨hlt,(),rfl,hn,hs.less (LY _)⟩
 ·conv=>whnf
  repeat'((first|apply st|(apply sq;intro K U)|(apply si;intro A B Y Z)|(apply Y;clear Z B Y A)|(apply U;clear U K)|refine⟨rfl,?_⟩|(refine DU (fun hc=>?_)<;>(try rw[hc])<;>clear hc)|clear U K)<;>conv=>whnf)
  exact AI (by rw[hn,Ag hke];rfl)
def RD (w:AK) (c:Int):Bool:=decide (3≤c)&&decide (c<3+(w.parents.length:Int))
def Ca (w:AK) (c:Int):List Int:=(Bg w.owner.length).filter (hasB w c)
abbrev Ob:=Int×List (Int×Int)
abbrev Fa (o:Ob):List V:=[eI o.1,.l (pP o.2) false]
def Lk (w:AK) (n:Int) (o:Ob):Bool:=RD w o.1&&(o.2.length==(Ca w o.1).length&&o.2.all (Bz n))
def Fe (w:AK) (os:List Ob):Bool:=decide (os.length≤40)&&os.all (Lk w os.length)
def pU (w:AK) (c:Int) (hw:Ja w):Pure Tryz.prog 89 [.a (Aq w),eI c] (.b (RD w c)):=by
 have hl:=hw.len;have hw3:IntKind.i64.wrap (3+(w.parents.length:Int))=3+w.parents.length:=wrap64 (by omega) (by omega);refine qJ kZ ?_;have hs:=Sn
 conv=>whnf
 repeat'((first|apply st|(apply sq;intro K U)|(apply si;intro A B Y Z)|(apply Y;clear Z B Y A)|(apply U;clear U K)|refine⟨rfl,?_⟩|(constructor<;>intro hc<;>(try rw[hc])<;>(replace hc:=bp hc))|fail)<;>conv=>whnf)
 all_goals try rw[hw3]at hc
 all_goals exact AI (by simp only[hw3,RD];simp[*]<;>omega)
def WQ (w:AK) (c:Int) (hw:Ja w) (hc0:0≤c) (hc1:c<3+w.parents.length):Pure Tryz.prog 90 [.a (Aq w),eI c] (.l (iL (Ca w c)) false):=by
 have hM:=Mx;have hol:=hw.ZI;refine qI kZ ?_;have hs:=Sn
 conv=>whnf
 repeat'((first|apply st|(apply sq;intro K U)|(apply si;intro A B Y Z)|(apply Y;clear Z B Y A)|(apply U;clear U K)|fail)<;>conv=>whnf)
 refine B4 w.owner.length (fun k v=>[(5,v),(10,eI (A3 k))]) (fun k v=>[.own v 1 (iL ((Bg k).filter (hasB w c)))]) (fun _ _=>True) (.l [] true) rfl trivial (EM Sat.nil 1) ?_;clear hs;rintro k v σ hk - hs;have hfl:=KN (hasB w c) (Bg k);rw[DQ]at hfl;rcases BE w.owner hk with⟨s,hso,hlt⟩|hke
 ·have hck:A3 k=k:=AL (by omega)
  have c1:Pure Tryz.prog 122 [.a (Aq w),eI c,eI (A3 k)] (.b (hasB w c k)):=by rw[hck];exact Un w c k hw hc0 hc1 (by omega) (by omega)
  have hst:(Bg (k+1)).filter (hasB w c)=if hasB w c k then(Bg k).filter (hasB w c)++[(k:Int)]else(Bg k).filter (hasB w c):=by
   rw[Et,List.filter_append];cases hp:hasB w c k<;>simp[hp]
  generalize (Bg k).filter (hasB w c)=zs at *;have hll:zs.length<Ac∧(zs.length+1)*8≤140737488355328:=by omega
  cases hh:hasB w c k<;>rw[hh]at c1 hst
  ·conv=>whnf
   repeat'((first|apply st|(apply sq;intro K U)|(apply si;intro A B Y Z)|(apply Y;clear Z B Y A)|(apply U;clear U K)|refine⟨rfl,?_⟩|refine⟨kZ,?_⟩|(refine CA (fun hc=>?_)<;>(try rw[hc])<;>clear hc)|refine c1.use ?_|clear U K)<;>conv=>whnf)
   exact⟨hlt,_,rfl,trivial,by rw[hst];exact hs⟩
  ·conv=>whnf
   repeat'((first|apply st|(apply sq;intro K U)|(apply si;intro A B Y Z)|(apply Y;clear Z B Y A)|(apply U;clear U K)|refine⟨rfl,?_⟩|refine⟨kZ,?_⟩|refine aq fun v σ hs hsl=>?_|(refine CA (fun hc=>?_)<;>(try rw[hc])<;>clear hc)|refine c1.use ?_|clear U K)<;>conv=>whnf)
   exact⟨hlt,_,rfl,trivial,by rw[hst,←hck];exact hs⟩
 ·rw[hke]at hs
  conv=>whnf
  repeat'((first|apply st|(apply sq;intro K U)|(apply si;intro A B Y Z)|(apply Y;clear Z B Y A)|(apply U;clear U K)|refine⟨rfl,?_⟩|(refine DU (fun hc=>?_)<;>(try rw[hc])<;>clear hc)|clear U K)<;>conv=>whnf)
  exact BO (hs.MV 0 rfl)
set_option maxHeartbeats 1000000 in
def jM (w : AK) (os:List Ob) (f:Bool) (hw:Ja w):Pure Tryz.prog 61 [.a (Aq w),.l (os.map Fa) f] (.b (Fe w os)):=by
 refine Pure.fit (by kernel_rfl) fun hf=>?_
 have hM:=Mx
 have hol:os.length≤Ac:=by
  have:=hf.2.1;simp only[EZ,BD]at this;exact this.1
 refine qb kZ ?_;have hs:=Sn;by_cases h40:os.length≤40
 ·have e0 : Fe w os=os.all (Lk w os.length):=by rw[Fe,decide_eq_true h40,Ey]
  rw[e0]
  conv=>whnf
  repeat'((first|apply st|(apply sq;intro K U)|(apply si;intro A B Y Z)|(apply Y;clear Z B Y A)|(apply U;clear U K)|refine⟨rfl,?_⟩|(constructor<;>intro hc<;>(try rw[hc])<;>(replace hc:=bp hc)<;>(try simp(disch:=omega) only[BD,wrap64,AL]at hc)<;>try(exfalso;omega))|fail)<;>conv=>whnf)
  refine B4 os.length (fun k (_:Unit)=>[(12,eI (A3 k))]) (fun _ _=>[]) (fun k _=>os.all (Lk w os.length)=(os.drop k).all (Lk w os.length)) () rfl rfl hs ?_;clear hs;rintro k - σ hk hn hs;rcases BE os hk with⟨x,hx,hlt⟩|hke
  ·rw [drop_cons hx,MU]at hn
   have c1:=pU w x.1 hw;cases ho:RD w x.1<;>rw[ho]at c1
   ·conv=>whnf
    repeat'((first|apply st|(apply sq;intro K U)|(apply si;intro A B Y Z)|(apply Y;clear Z B Y A)|(apply U;clear U K)|apply dr|refine rk ?_ ?_|exact fun s e=>by cases e;rfl|refine⟨rfl,?_⟩|refine⟨kZ,?_⟩|refine ix ?_|refine ld ?_|refine DB fun σ hs=>?_|refine Xf ?_|(refine CA (fun hc=>?_)<;>(try rw[hc])<;>clear hc)|refine c1.use ?_|(intro nn hnn;generalize hg:A6 _ nn _=σ;refine CW hg fun hs=>?_;clear hg)|clear U K)<;>conv=>whnf)
    all_goals exact AI (by rw[hn,Lk,ho];rfl)
   ·have ho':=ho
    simp only[RD,BZ,CY]at ho';have c2:=WQ w x.1 hw (by omega) (by omega);have e3:((os.map Fa).length:Int)=os.length:=by simp
    have c3:Pure Tryz.prog 63 [.l (pP x.2) false,eI ((os.map Fa).length:Int)] (.b (x.2.all (Bz os.length))):=by rw[e3];exact Zh x.2 false os.length
    have hob:Lk w os.length x=(x.2.length==(Ca w x.1).length&&x.2.all (Bz os.length)):=by rw[Lk,ho,Ey]
    rw[hob]at hn;by_cases he:x.2.length=(Ca w x.1).length
    ·rw [Dn.2 he,Ey]at hn
     cases hv:x.2.all (Bz os.length)<;>rw[hv]at c3 hn
     ·conv=>whnf
      repeat'((first|apply st|(apply sq;intro K U)|(apply si;intro A B Y Z)|(apply Y;clear Z B Y A)|(apply U;clear U K)|apply dr|refine rk ?_ ?_|exact fun s e=>by cases e;rfl|refine⟨rfl,?_⟩|refine⟨kZ,?_⟩|refine ix ?_|refine ld ?_|refine DB fun σ hs=>?_|refine E2 ?_|refine Lq ?_|(refine CA (fun hc=>?_)<;>(try rw[hc])<;>clear hc)|refine c1.use ?_|refine c2.use ?_|refine c3.use ?_|(constructor<;>intro hc<;>(try rw[hc])<;>(replace hc:=bp hc)<;>(try simp(disch:=omega) only[BD,wrap64,AL]at hc))|(intro nn hnn;generalize hg:A6 _ nn _=σ;refine CW hg fun hs=>?_;clear hg)|clear U K)<;>conv=>whnf)
      all_goals first
       | exact AI (by rw[hn];rfl)
       | (exfalso;simp[he]at hc;done)
     ·conv=>whnf
      repeat'((first|apply st|(apply sq;intro K U)|(apply si;intro A B Y Z)|(apply Y;clear Z B Y A)|(apply U;clear U K)|apply dr|refine rk ?_ ?_|exact fun s e=>by cases e;rfl|refine⟨rfl,?_⟩|refine⟨kZ,?_⟩|refine ix ?_|refine ld ?_|refine DB fun σ hs=>?_|refine D2 ?_|refine Lq ?_|(refine CA (fun hc=>?_)<;>(try rw[hc])<;>clear hc)|refine c1.use ?_|refine c2.use ?_|refine c3.use ?_|(constructor<;>intro hc<;>(try rw[hc])<;>(replace hc:=bp hc)<;>(try simp(disch:=omega) only[BD,wrap64,AL]at hc))|(intro nn hnn;generalize hg:A6 _ nn _=σ;refine CW hg fun hs=>?_;clear hg)|clear U K)<;>conv=>whnf)
      all_goals first
       | exact⟨hlt,(),rfl,hn,hs.less (LY _)⟩
       | (exfalso;simp[he]at hc;done)
    ·rw[beq_eq_false_iff_ne.2 he,Bool.false_and,Bool.false_and]at hn
     cases hv:x.2.all (Bz os.length)<;>rw[hv]at c3
     all_goals
      conv=>whnf
      repeat'((first|apply st|(apply sq;intro K U)|(apply si;intro A B Y Z)|(apply Y;clear Z B Y A)|(apply U;clear U K)|apply dr|refine rk ?_ ?_|exact fun s e=>by cases e;rfl|refine⟨rfl,?_⟩|refine⟨kZ,?_⟩|refine ix ?_|refine ld ?_|refine DB fun σ hs=>?_|refine E2 ?_|refine D2 ?_|refine Lq ?_|(refine CA (fun hc=>?_)<;>(try rw[hc])<;>clear hc)|refine c1.use ?_|refine c2.use ?_|refine c3.use ?_|(constructor<;>intro hc<;>(try rw[hc])<;>(replace hc:=bp hc)<;>(try simp(disch:=omega) only[BD,wrap64,AL]at hc))|(intro nn hnn;generalize hg:A6 _ nn _=σ;refine CW hg fun hs=>?_;clear hg)|clear U K)<;>conv=>whnf)
     all_goals first
      | exact AI (by rw[hn])
      | (exfalso;have q:(bif !true then true else(x.2.length:Int) != ((Ca w x.1).length:Int))=false:=(by assumption);simp at q;omega)
      | (exfalso;simp at hc;omega)
  ·conv=>whnf
   repeat'((first|apply st|(apply sq;intro K U)|(apply si;intro A B Y Z)|(apply Y;clear Z B Y A)|(apply U;clear U K)|refine⟨rfl,?_⟩|(refine DU (fun hc=>?_)<;>(try rw[hc])<;>clear hc)|clear U K)<;>conv=>whnf)
   exact AI (by rw[hn,Ag hke];rfl)
 ·conv=>whnf
  repeat'((first|apply st|(apply sq;intro K U)|(apply si;intro A B Y Z)|(apply Y;clear Z B Y A)|(apply U;clear U K)|refine⟨rfl,?_⟩|(constructor<;>intro hc<;>(try rw[hc])<;>(replace hc:=bp hc)<;>(try simp(disch:=omega) only[BD,wrap64,AL]at hc)<;>try(exfalso;omega))|clear U K)<;>conv=>whnf)
  exact AI (by rw[Fe,decide_eq_false h40];rfl)
end Go.Gl
namespace Go.Gl
open Go.Proofs
section
variable {H:Type} {enc:TypeId×Value→H} {W:World}
def pO:Pw enc Tryz.prog W 79 pI:=fun n=>
 Gj (FQ Tryz.underlying79
  (fun n=>Ba (c:=1) rfl (by kernel_rfl) (fun _=>rfl) (Nx Tryz.underlying77 n) (Ba (c:=1) rfl (by kernel_rfl) (fun _=>rfl) (Li n) Gk)) (fun _=>(show _=2 from rfl).trans (by kernel_rfl)) n) (fun x=>(x.1,x.2.1)) fun _=>rfl
def Zl:Pw enc Tryz.prog W 42 fun l:List (Int×Int)=>[V.l (pP l) false]:=GM (sz:=2) Tryz.underlying42 (by kernel_rfl) (by decide) (b8 (by kernel_rfl)) (fun _=>rfl) pO
def vY:Pw enc Tryz.prog W 81 Fa:=fun n=>
 Gj (FQ Tryz.underlying81
  (fun n=>Ba (c:=1) rfl (by kernel_rfl) (fun _=>rfl) (Li n) (Ba (c:=1) rfl (by kernel_rfl) (fun _=>rfl) (Zl n) Gk)) (fun _=>(show _=2 from rfl).trans (by kernel_rfl)) n) (fun x=>(x.1,x.2.1)) fun _=>rfl
def pQ:Pw enc Tryz.prog W 41 fun l:List Ob=>[V.l (l.map Fa) false]:=GM (sz:=2) Tryz.underlying41 (by kernel_rfl) (by decide) (b8 (by kernel_rfl)) (fun _=>rfl) vY
end
end Go.Gl
namespace Go.Proofs.YtijbpgdmpejgoaaGreat
open Go.Gl Go.ChangeShapes Go.WideShapes Go.ChangeAt Go.RowKit
theorem own:ownKnob Tryz.prog.godebug=none:=by kernel_rfl
def laidOut:laidOutB Tryz.prog=true:=by kernel_rfl
def Ew {a b:Bool} (h1:a=true) (h2:b=true):(a&&b)=true:=by rw[h1,h2];rfl
abbrev HE (w:World):=Hh (fun _=>False) emp w
def vS {w:World} {n:Int} (h:(Lit.int .i64 n).wf=true):Ae (HE w) (eI n) (.int .i64 n):=by
 simp only[Lit.wf,BZ,CY]at h;simp only[Ae];exact⟨trivial,h⟩
def pK {w:World} {cs:Array Value} {p:Prog} (hp:cs.toList.length=(BV p).length∧Bh (HE w) (fun i=>cs.toList[i]?) 0 (BV p)):Ae (HE w) (.a (BV p)) (.agg cs):=by
 simp only[Ae];exact⟨cs,rfl,by simpa using hp.1,by simpa using hp.2⟩
end Go.Proofs.YtijbpgdmpejgoaaGreat
namespace Go.Gl
open Go.Proofs
attribute [local irreducible] BL A5 Aj AW AN Ai AV AX AO Ah AS AU BA BK Sat Ad BH Al W
def Td (g:FuncId) (fi ca:List V) (q:Int→Bool) (xs:List Int) (hpf: ∀y∈xs,Pure Tryz.prog g (fi++[eI y]++ca) (.b (q y))) (f:Bool) (hxl:xs.length≤1000):Pure Tryz.prog 83 [.l (iL xs) f,.f (.func g) fi ca] (.l (iL (xs.filter q)) true):=by
 refine Pure.of ?_;have hM:=Mx;refine qN kZ ?_;have hs:=Sn
 conv=>whnf
 repeat'((first|apply st|(apply sq;intro K U)|(apply si;intro A B Y Z)|(apply Y;clear Z B Y A)|(apply U;clear U K)|fail)<;>conv=>whnf)
 refine B4 xs.length (fun k v=>[(5,v),(10,eI (A3 k))]) (fun k v=>[.own v 1 (iL ((xs.take k).filter q))]) (fun _ _=>True) (.l [] true) rfl trivial (EM hs 1) ?_;clear hs;rintro k v σ hk - hs;have hfl:=KN q (xs.take k);rw[LZ]at hfl;rcases BE xs hk with⟨y,hy,hlt⟩|hke
 ·have hpy:=hpf y (B1 hy)
  have hst:(xs.take (k+1)).filter q=if q y then(xs.take k).filter q++[y]else(xs.take k).filter q:=by
   rw[AQ hy,List.filter_append];cases hp:q y<;>simp[hp]
  generalize (xs.take k).filter q=zs at *;have hll:zs.length<Ac∧(zs.length+1)*8≤140737488355328:=by omega
  conv=>whnf
  repeat'((first|apply st|(apply sq;intro K U)|(apply si;intro A B Y Z)|(apply Y;clear Z B Y A)|(apply U;clear U K)|refine⟨rfl,?_⟩|refine ix ?_|refine aq fun v σ hs hsl=>?_|(refine CA (fun hc=>?_)<;>(try rw[hc])<;>clear hc)|refine Bp (hpy.use ?_)|(constructor<;>intro hc<;>(try rw[hc])<;>(replace hc:=bp hc))|clear U K)<;>conv=>whnf)
  ·rw[if_pos (by assumption)]at hst
   exact⟨hlt,_,rfl,trivial,by rw[hst];exact hs⟩
  ·rw[if_neg (by simp[*])]at hst
   exact⟨hlt,_,rfl,trivial,by rw[hst];exact hs⟩
 ·rw[Au hke]at hs
  conv=>whnf
  repeat'((first|apply st|(apply sq;intro K U)|(apply si;intro A B Y Z)|(apply Y;clear Z B Y A)|(apply U;clear U K)|refine⟨rfl,?_⟩|(refine DU (fun hc=>?_)<;>(try rw[hc])<;>clear hc)|clear U K)<;>conv=>whnf)
  refine(N2 (xs.filter q) v (by have:=KN q xs;omega)).use (rest:=[]) (by simpa using hs) ?_;clear hs;rintro r post σ ⟨rfl,rfl⟩ hs
  conv=>whnf
  repeat'((first|apply st|(apply Y;clear Z B Y A)|(apply U;clear U K)|fail)<;>conv=>whnf)
  exact AR (by rfl)
def pb (x y:Int):Pure Tryz.prog 132 [eI y,.rp [eI x]] (.b (y != x)):=by
 refine nG kZ ?_;have hs:=Sn
 conv=>whnf
 repeat'((first|apply st|(apply sq;intro K U)|(apply si;intro A B Y Z)|(apply Y;clear Z B Y A)|(apply U;clear U K)|refine⟨rfl,?_⟩|fail)<;>conv=>whnf)
 all_goals exact AI (by rfl)
def L5 (xs:List Int) (f:Bool) (x:Int) (hxl:xs.length≤1000):Pure Tryz.prog 98 [.l (iL xs) f,eI x] (.l (iL (xs.filter (· != x))) true):=by
 have c1:=Td 132 [] [.rp [eI x]] (· != x) xs (fun y _=>pb x y) f hxl;refine qB kZ ?_;have hs:=Sn
 conv=>whnf
 repeat'((first|apply st|(apply sq;intro K U)|(apply si;intro A B Y Z)|(apply Y;clear Z B Y A)|(apply U;clear U K)|refine c1.use ?_|fail)<;>conv=>whnf)
 all_goals exact AI (by rfl)
end Go.Gl
namespace Go.Gl
open Go.Proofs
attribute [local irreducible] BL A5 Aj AW AN Ai AV AX AO Ah AS AU BA BK Sat Ad BH Al W
def eW (l:List Int) (f kd:Bool):Pure Tryz.prog 66 [.pn,.l (iL l) f,.b kd] (.b false):=by
 have c1:=Zx l f;refine Zb kZ ?_;have hs:=Sn
 conv=>whnf
 repeat'((first|apply st|(apply sq;intro K U)|(apply si;intro A B Y Z)|(apply Y;clear Z B Y A)|(apply U;clear U K)|refine E2 ?_|refine Pure.use (by assumption) ?_|clear U K)<;>conv=>whnf)
 all_goals exact AI rfl
def bG {M:List Int} {x:Int} (h:M.contains x=false):Nb M x=M++[x]:=by
 rw[Nb,if_neg (by rw[h];decide)]
set_option maxHeartbeats 2000000 in
def ji (p : Prog) (L:Nat) (l:List Int) (f kd:Bool) (hl:l.length≤1000):Pure Tryz.prog 66 [Fu p L,.l (iL l) f,.b kd] (.b (HM p l kd)):=by
 refine Pure.fit (by kernel_rfl) fun hf=>?_
 have hM:=Mx;have c1:=gW p L l f;cases hm:l.all (A7 p)<;>rw[hm]at c1
 ·have hb:HM p l kd=false:=by
   rw[←Bool.not_eq_true];intro h;rw[HM,BZ,E0]at h;rw[←Bool.not_eq_true,E0]at hm;refine hm fun x hx=>?_
   have:=h.1 x hx;simp only[gB,BZ]at this;exact this.1
  refine Zb kZ ?_;have hs:=Sn
  conv=>whnf
  repeat'((first|apply st|(apply sq;intro K U)|(apply si;intro A B Y Z)|(apply Y;clear Z B Y A)|(apply U;clear U K)|refine E2 ?_|refine c1.use ?_|clear U K)<;>conv=>whnf)
  all_goals exact AI (by rw[hb])
 rw[E0]at hm;refine Zb kZ ?_;have hs:=Sn
 conv=>whnf
 repeat'((first|apply st|(apply sq;intro K U)|(apply si;intro A B Y Z)|(apply Y;clear Z B Y A)|(apply U;clear U K)|refine D2 ?_|refine c1.use ?_|(intro nn hnn;generalize hg:A6 _ nn _=σ;refine CW hg fun hs=>?_;clear hg)|fail)<;>conv=>whnf)
 clear c1;replace hs:Sat σ [.map nn (Q9 [])]:=hs;refine B4 l.length (fun i (_:Unit)=>[(17,eI (A3 i))]) (fun i _=>[.map nn (Q9 (l.take i))]) (fun i _=>(∀k y,k<i→l[k]? =some y→gB p l kd y=true)∧(l.take i).Nodup) () rfl ⟨fun k y h=>by omega,by simp⟩ hs ?_;clear hs;rintro i - σ hi ⟨ho,hn⟩ hs;rcases BE l hi with⟨x,hx,hlt⟩|hie
 ·have hci : A3 i=i:=AL (by omega)
  obtain⟨z,hz⟩: ∃z,l[0]? =some z:=⟨_,Ct (by omega)⟩
  have hz0:=CP hz;have hmx:=hm x (B1 hx);have hmz:=hm z (B1 hz);have hbad:=fun h=>YI (p:=p) (kd:=kd) hx h
  rw[gB,hz0]at hbad;have hxP:=B0 hmx;have hzP:=B0 hmz;have c2:=NV p L x z hmx hmz;have hxr:=hmx;have hzr:=hmz;simp only[A7,BZ,CY]at hxr hzr;cases hcon:(l.take i).contains x
  ·have hne : ∀k y,k<i→l[k]? =some y→y≠x:=fun k y h h2 e=>by
    rw[←Bool.not_eq_true,List.contains_iff_mem]at hcon;exact hcon (B1 (i:=k) (by rw[List.getElem?_take,if_pos h,h2,e]))
   have hnd:=VM hx hn hne;have hput:=bG hcon;rw[←AQ hx]at hput;by_cases hg:(BJ p x).gen=(BJ p z).gen
   ·have hoxF:(!kd||B3 p x z)=true→gB p l kd x=true:=fun h=>by rw[gB,hz0,hmx,hg,h];simp
    cases hal:B3 p x z<;>rw[hal]at c2 hoxF<;>cases kd
    all_goals
     conv=>whnf
     repeat'((first|apply st|(apply sq;intro K U)|(apply si;intro A B Y Z)|(apply Y;clear Z B Y A)|(apply U;clear U K)|apply dr|refine⟨rfl,?_⟩|refine ix ?_|refine FE ?_|refine E2 ?_|refine D2 ?_|(refine CA (fun hc=>?_)<;>(try rw[hc])<;>clear hc)|refine c2.use ?_|(refine JG hs 0 rfl rfl (HY _) ?_;rw[K4,hcon])|(refine Hv hs 0 rfl rfl (HY _) fun σ hs=>?_)|(constructor<;>intro hc<;>(try rw[hc])<;>(replace hc:=bp hc)<;>try(exfalso;omega))|clear U K)<;>conv=>whnf)
    all_goals first
     | exact AI (by rw[hbad (by simp[hal,hg])])
     | (exfalso;simp[hg]at hc;done)
     | (have hox:=hoxF rfl
        refine⟨hlt,(),rfl,⟨fun k' y' h h2=>?_,hnd⟩,?_⟩
        ·rcases Nat.lt_or_ge k' i with h'|h'
         ·exact ho k' y' h' h2
         ·rw[show k'=i by omega,hx]at h2
          rw[←Option.some.inj h2];exact hox
        ·replace hs:Sat σ [.map nn (EN (eI x) (.b true) (Q9 (l.take i)))]:=hs
         rw[Wq,hput]at hs
         exact hs)
   ·conv=>whnf
    repeat'((first|apply st|(apply sq;intro K U)|(apply si;intro A B Y Z)|(apply Y;clear Z B Y A)|(apply U;clear U K)|apply dr|refine⟨rfl,?_⟩|refine ix ?_|refine FE ?_|(refine CA (fun hc=>?_)<;>(try rw[hc])<;>clear hc)|(refine JG hs 0 rfl rfl (HY _) ?_;rw[K4,hcon])|(constructor<;>intro hc<;>(try rw[hc])<;>(replace hc:=bp hc)<;>try(exfalso;omega))|clear U K)<;>conv=>whnf)
    all_goals first
     | exact AI (by rw[hbad (by simp[hg])])
     | (exfalso;have q:(BJ p x).gen=(BJ p z).gen:=(by assumption);exact hg q)
     | (exfalso;simp[hg]at hc;done)
  ·obtain⟨k,hk⟩:=List.getElem?_of_mem (List.contains_iff_mem.1 hcon)
   rw[List.getElem?_take]at hk;split at hk
   ·conv=>whnf
    repeat'((first|apply st|(apply sq;intro K U)|(apply si;intro A B Y Z)|(apply Y;clear Z B Y A)|(apply U;clear U K)|apply dr|refine⟨rfl,?_⟩|refine ix ?_|(refine CA (fun hc=>?_)<;>(try rw[hc])<;>clear hc)|(refine JG hs 0 rfl rfl (HY _) ?_;rw[K4,hcon])|clear U K)<;>conv=>whnf)
    all_goals exact AI (by rw[YH hx hk (by assumption)])
   ·cases hk
 ·conv=>whnf
  repeat'((first|apply st|(apply sq;intro K U)|(apply si;intro A B Y Z)|(apply Y;clear Z B Y A)|(apply U;clear U K)|refine⟨rfl,?_⟩|(refine DU (fun hc=>?_)<;>(try rw[hc])<;>clear hc)|clear U K)<;>conv=>whnf)
  have hall:HM p l kd=true:=by
   rw[HM,BZ,E0];refine⟨fun y hy=>?_,decide_eq_true (by rw[hie,List.take_length]at hn;exact hn)⟩;obtain⟨k,hk⟩:=List.getElem?_of_mem hy;exact ho k y (by rw[hie];exact(Hk.1 hk).1) hk
  exact AI (by rw[hall])
def Lr (M:List (Int×Int)) (x:Int×Int):List (Int×Int):=if M.contains x then M else M++[x]
def Ni (p:Prog) (M:List (Int×Int)) (m n:Int):List (Int×Int):=if Df p m n then Lr (Lr M (m,n)) (n,m)else Lr M (m,n)
def H9 (p:Prog) (L:Nat) (m n:Int) (hk:Dv p) (hgw:CS (AM p)) (hfm: ∀x∈p.methods,Cg (AM p) x.fact=true) (hm:A7 p m=true) (hn:A7 p n=true) (M:List (Int×Int)) :
    Bj Tryz.prog 54 [Fu p L,eI m,eI n] [.map L (FL p M)] fun r post=>r= .ret (.b (Df p m n))∧post= [.map L (FL p (Lr M (m,n)))]:=by
 intro σ hs;have hxm:=B0 hm;have hxn:=B0 hn;have hmm:=B1 hxm;have hmn:=B1 hxn;have hip:=Q5 (AM p) hgw (BJ p m).fact (BJ p n).fact (hfm _ hmm) (hfm _ hmn) (hk.facts _ hmm).1 (hk.facts _ hmn).1 (by have:=(hk.facts _ hmm).2;have:=(hk.facts _ hmn).2;omega);simp only[A7,BZ,CY]at hm hn;have hfd:=OE p (m,n) M;refine gj kZ ?_;cases hc:M.contains (m,n)
 ·rw[hc,if_neg (by decide)]at hfd
  conv=>whnf
  repeat'((first|apply st|(apply sq;intro K U)|(apply si;intro A B Y Z)|(apply Y;clear Z B Y A)|(apply U;clear U K)|apply dr|refine⟨kZ,?_⟩|refine FE ?_|refine ld ?_|refine DB fun σ hs=>?_|refine E2 ?_|refine Lz hs 1 rfl rfl (HX _ _) hfd ?_|refine Hv hs 1 rfl rfl (HX _ _) fun σ hs=>?_|refine hip.use ?_|(intro nn hnn;generalize hg:A6 _ nn _=σ;refine CW hg fun hs=>?_;clear hg)|fail)<;>conv=>whnf)
  replace hs:Sat σ [.box nn [eI m,eI n],.map L (EN (kM (m,n)) (.b (Df p m n)) (FL p M))]:=hs;rw[Rr p (m,n) M hc]at hs;exact AR ⟨_,⟨rfl,rfl⟩,by rw[Lr,hc];exact hs.less (Jp _ _)⟩
 ·rw[hc,if_pos rfl]at hfd
  conv=>whnf
  repeat'((first|apply st|(apply sq;intro K U)|(apply si;intro A B Y Z)|(apply Y;clear Z B Y A)|(apply U;clear U K)|apply dr|refine⟨kZ,?_⟩|refine ld ?_|refine DB fun σ hs=>?_|refine D2 ?_|refine Lz hs 1 rfl rfl (HX _ _) hfd ?_|(intro nn hnn;generalize hg:A6 _ nn _=σ;refine CW hg fun hs=>?_;clear hg)|fail)<;>conv=>whnf)
  exact AR ⟨_,⟨rfl,rfl⟩,by rw[Lr,hc];exact hs.less (Jp _ _)⟩
def OV (p:Prog) (L:Nat) (m n:Int) (hk:Dv p) (hgw:CS (AM p)) (hfm: ∀x∈p.methods,Cg (AM p) x.fact=true) (hm:A7 p m=true) (hn:A7 p n=true) (M:List (Int×Int)) :
    Bj Tryz.prog 45 [Fu p L,eI m,eI n] [.map L (FL p M)] fun r post=>r= .ret (.b (Am p m n))∧post= [.map L (FL p (Ni p M m n))]:=by
 intro σ hs;have h1:=fun M=>H9 p L m n hk hgw hfm hm hn M
 have h2:=fun M=>H9 p L n m hk hgw hfm hn hm M
 unfold Am Ni;cases hb1:Df p m n<;>cases hb2:Df p n m<;>rw[hb1]at h1<;>rw[hb2]at h2
 all_goals
  refine gl kZ ?_
  conv=>whnf
  repeat'((first|(apply sq;intro K U)|(apply si;intro A B Y Z)|(apply Y;clear Z B Y A)|(apply U;clear U K)|fail)<;>conv=>whnf)
  refine(h1 M).use (rest:=[]) (by simpa using hs) ?_;clear hs;rintro r post σ ⟨rfl,rfl⟩ hs
  conv=>whnf
  repeat'((first|apply st|(apply Y;clear Z B Y A)|(apply U;clear U K)|fail)<;>conv=>whnf)
 ·exact AR ⟨_,⟨rfl,rfl⟩,hs⟩
 ·exact AR ⟨_,⟨rfl,rfl⟩,hs⟩
 all_goals
  refine(h2 _).use (rest:=[]) (by simpa using hs) ?_;clear hs;rintro r post σ ⟨rfl,rfl⟩ hs
  conv=>whnf
  repeat'((first|apply st|(apply Y;clear Z B Y A)|(apply U;clear U K)|fail)<;>conv=>whnf)
  exact AR ⟨_,⟨rfl,rfl⟩,hs⟩
def F5: ∀ {l:List Int} {i:Nat} {x:Int},l.Nodup→l[i]? =some x→l.filter (· != x)=l.eraseIdx i
 | y::r,0,x,hn,hx=>by
   obtain rfl:y=x:=by simpa using hx
   rw[List.nodup_cons]at hn;rw[List.filter_cons,if_neg (by simp),List.eraseIdx_cons_zero];exact List.filter_eq_self.2 fun z hz=>by rw[uw];rintro rfl;exact hn.1 hz
 | y::r,i+1,x,hn,hx=>by
   rw[List.nodup_cons]at hn;rw[og]at hx;have hyx:y≠x:=fun e=>hn.1 (e ▸ B1 hx)
   rw[List.filter_cons,if_pos (by simpa using hyx),List.eraseIdx_cons_succ,F5 hn.2 hx]
def Yd {A:Int→Int→Bool} {l:List Int} {i:Nat} (hi:i<l.length) (h:Gu A l i l.length=true) (hn: ∀j,j<i→Gu A l j l.length=false):Ea A l=some i:=by
 rw[Ea,List.find?_range_eq_some];exact⟨h,List.mem_range.2 hi,fun j hj=>by rw[hn j hj];rfl⟩
def Yb {A:Int→Int→Bool} {l:List Int} (hn: ∀j,j<l.length→Gu A l j l.length=false):Ea A l=none:=by
 rw[Ea,List.find?_range_eq_none];exact fun j hj=>by rw[hn j hj];rfl
def dj {A:Int→Int→Bool} {l:List Int} {i k n:Nat} (hk:k<n) (h:(k==i||A (l.getD i 0) (l.getD k 0))=false):Gu A l i n=false:=by
 rw[Gu,←Bool.not_eq_true,E0];intro h2;rw[h2 k (List.mem_range.2 hk)]at h;cases h
def bS {l:List Int} (hn:l.Nodup) {i k:Nat} {x y:Int} (hx:l[i]? =some x) (hy:l[k]? =some y) (h:k≠i):x≠y:=by
 rintro rfl;have hi:=(Hk.1 hx)
 have hj:=(Hk.1 hy)
 have:=(List.nodup_iff_pairwise_ne.1 hn)
 rw[List.pairwise_iff_getElem]at this;rcases Nat.lt_or_gt_of_ne h with h'|h'
 ·exact this k i hj.1 hi.1 h' (by rw[hj.2,hi.2])
 ·exact this i k hi.1 hj.1 h' (by rw[hj.2,hi.2])
set_option maxHeartbeats 4000000 in
def R0 (p : Prog) (L:Nat) (l:List Int) (f:Bool) (hok:Dv p) (hgw:CS (AM p)) (hfm: ∀x∈p.methods,Cg (AM p) x.fact=true) (hl:Ny p l) (hnd:l.Nodup) (M:List (Int×Int)) :
    Bj Tryz.prog 67 [Fu p L,.l (iL l) f] [.map L (FL p M)] fun r post=>r= .ret (.t [.l (iL (Bk (Am p) l.length l).1) true,.b (Bk (Am p) l.length l).2])∧ ∃M',post= [.map L (FL p M')]:=by
 intro σ hs;have hM:=Mx;refine qX kZ ?_
 conv=>whnf
 repeat'((first|apply st|(apply sq;intro K U)|(apply si;intro A B Y Z)|(apply Y;clear Z B Y A)|(apply U;clear U K)|fail)<;>conv=>whnf)
 refine ED (fun(x:List Int×Bool×V×List Int×List (Int×Int))=>x.1.length) (fun x=>[(1,.l (iL x.1) x.2.1),(6,x.2.2.1)]) (fun x=>[.own x.2.2.1 1 (iL x.2.2.2.1),.map L (FL p x.2.2.2.2)])
  (fun x=>(∀y∈x.1,A7 p y=true)∧x.1.Nodup∧x.2.2.2.1.length+x.1.length≤16∧Bk (Am p) l.length l=(x.2.2.2.1++(Bk (Am p) x.1.length x.1).1,(Bk (Am p) x.1.length x.1).2)) (l,f,.l [] true,[],M) rfl ⟨hl.Iq,hnd,by simpa using hl.many,by simp⟩ (Cx hs 1) ?_
 clear hs;rintro⟨l',f',v,out,M⟩ σ ⟨hme,hn,hlen,hm⟩ hs;dsimp only at hme hn hlen hm hs;dsimp only;have hll:out.length<Ac∧(out.length+1)*8≤140737488355328:=by omega
 by_cases hz:l'.length=0
 ·rw[hz]at hm
  simp only[Bk,Hj]at hm
  conv=>whnf
  repeat'((first|apply st|(apply sq;intro K U)|(apply si;intro A B Y Z)|(apply Y;clear Z B Y A)|(apply U;clear U K)|refine⟨rfl,?_⟩|(constructor<;>intro hc<;>(try rw[hc])<;>(replace hc:=bp hc)<;>(try simp(disch:=omega) only[BD,wrap64,AL]at hc)<;>try(exfalso;omega))|clear U K)<;>conv=>whnf)
  refine(N2 out v (by omega)).use (rest:=[_]) hs ?_;clear hs;rintro r post σ ⟨rfl,rfl⟩ hs
  conv=>whnf
  repeat'((first|apply st|(apply Y;clear Z B Y A)|(apply U;clear U K)|fail)<;>conv=>whnf)
  exact AR ⟨_,⟨by rw[hm],M,rfl⟩,hs⟩
 ·obtain ⟨n,hnn⟩: ∃n,l'.length=n+1:=⟨l'.length - 1,by omega⟩
  have hne:l'.isEmpty=false:=by cases l' with
   | nil=>simp at hz
   | cons=>rfl
  rw[hnn,Bk]at hm
  conv=>whnf
  repeat'((first|apply st|(apply sq;intro K U)|(apply si;intro A B Y Z)|(apply Y;clear Z B Y A)|(apply U;clear U K)|refine⟨rfl,?_⟩|(constructor<;>intro hc<;>(try rw[hc])<;>(replace hc:=bp hc)<;>(try simp(disch:=omega) only[BD,wrap64,AL]at hc)<;>try(exfalso;omega))|fail)<;>conv=>whnf)
  refine B4 l'.length (fun i (_:List (Int×Int))=>[(16,eI (A3 i))]) (fun _ M=>[.own v 1 (iL out),.map L (FL p M)]) (fun i _=> ∀j,j<i→Gu (Am p) l' j l'.length=false) M rfl (fun j h=>by omega) hs ?_;clear hs;rintro i M σ hi hno hs;rcases BE l' hi with⟨x,hx,hlt⟩|hie
  ·have hmx:=hme x (B1 hx)
   conv=>whnf
   repeat'((first|apply st|(apply sq;intro K U)|(apply si;intro A B Y Z)|(apply Y;clear Z B Y A)|(apply U;clear U K)|refine⟨rfl,?_⟩|refine ix ?_|(refine CA (fun hc=>?_)<;>(try rw[hc])<;>clear hc)|fail)<;>conv=>whnf)
   refine B4 l'.length (fun k (_:List (Int×Int))=>[(22,eI (A3 k))]) (fun _ M=>[.own v 1 (iL out),.map L (FL p M)]) (fun k _=>Gu (Am p) l' i k=true) M rfl rfl hs ?_;clear hs;rintro k M σ hk htop hs;rcases BE l' hk with⟨y,hy,hklt⟩|hke
   ·have hmy:=hme y (B1 hy)
    have hsu:=QA (Am p) l' i k;rw[CP hx,CP hy,htop,Ey]at hsu;by_cases hki:k=i
    ·obtain rfl:x=y:=by
      rw[hki,hx]at hy;exact Option.some.inj hy
     conv=>whnf
     repeat'((first|apply st|(apply sq;intro K U)|(apply si;intro A B Y Z)|(apply Y;clear Z B Y A)|(apply U;clear U K)|refine⟨rfl,?_⟩|refine ix ?_|(refine CA (fun hc=>?_)<;>(try rw[hc])<;>clear hc)|(constructor<;>intro hc<;>(try rw[hc])<;>(replace hc:=bp hc)<;>(try simp(disch:=omega) only[BD,wrap64,AL]at hc)<;>try(exfalso;omega))|clear U K)<;>conv=>whnf)
     exact⟨hklt,M,rfl,by rw[hsu,hki];simp,hs⟩
    ·have hxy:=bS hn hx hy hki
     have c5:=OV p L x y hok hgw hfm hmx hmy M;cases hah:Am p x y<;>rw[hah]at c5
     all_goals
      conv=>whnf
      repeat'((first|apply st|(apply sq;intro K U)|(apply si;intro A B Y Z)|(apply Y;clear Z B Y A)|(apply U;clear U K)|refine⟨rfl,?_⟩|refine ix ?_|(refine CA (fun hc=>?_)<;>(try rw[hc])<;>clear hc)|(constructor<;>intro hc<;>(try rw[hc])<;>(replace hc:=bp hc)<;>try(exfalso;omega))|fail)<;>conv=>whnf)
      refine c5.use (rest:=[_]) (hs.perm (.swap _ _ _)) ?_;clear hs;rintro r post σ ⟨rfl,rfl⟩ hs
      conv=>whnf
      repeat'((first|apply st|(apply si;intro A B Y Z)|(apply Y;clear Z B Y A)|(apply U;clear U K)|refine⟨rfl,?_⟩|refine E2 ?_|refine D2 ?_|clear U K)<;>conv=>whnf)
     ·refine⟨hlt,_,rfl,fun j hj=>?_,hs.perm (.swap _ _ _)⟩
      rcases Nat.lt_or_ge j i with h'|h'
      ·exact hno j h'
      ·rw[show j=i by omega]
       exact dj hklt (by rw[CP hx,CP hy,hah];simpa using hki)
     ·exact⟨hklt,_,rfl,by rw[hsu,hah];simp,hs.perm (.swap _ _ _)⟩
   ·have c1:=L5 l' f' x (by omega)
    rw[F5 hn hx]at c1;have hel:=List.length_eraseIdx_of_lt hlt;rw[Yd hlt (hke ▸ htop) hno]at hm;dsimp only at hm;rw[CP hx]at hm
    conv=>whnf
    repeat'((first|apply st|(apply sq;intro K U)|(apply si;intro A B Y Z)|(apply Y;clear Z B Y A)|(apply U;clear U K)|refine⟨rfl,?_⟩|refine aq fun v σ hs hsl=>?_|(refine DU (fun hc=>?_)<;>(try rw[hc])<;>clear hc)|refine c1.use ?_|clear U K)<;>conv=>whnf)
    refine⟨(l'.eraseIdx i,true,v,out++[x],M),by dsimp only;omega,rfl,⟨fun y hy=>hme y (List.mem_of_mem_eraseIdx hy),hn.sublist (List.eraseIdx_sublist _ _),by simp;omega,?_⟩,hs⟩;dsimp only;rw[hm,hel,show l'.length - 1=n by omega];simp
  ·rw[Yb fun j hj=>hno j (by omega)]at hm
   dsimp only at hm;rw[hne,Hj]at hm
   conv=>whnf
   repeat'((first|apply st|(apply sq;intro K U)|(apply si;intro A B Y Z)|(apply Y;clear Z B Y A)|(apply U;clear U K)|refine⟨rfl,?_⟩|(refine DU (fun hc=>?_)<;>(try rw[hc])<;>clear hc)|clear U K)<;>conv=>whnf)
   refine(N2 out v (by omega)).use (rest:=[_]) hs ?_;clear hs;rintro r post σ ⟨rfl,rfl⟩ hs
   conv=>whnf
   repeat'((first|apply st|(apply Y;clear Z B Y A)|(apply U;clear U K)|clear U K)<;>conv=>whnf)
   exact AR ⟨_,⟨by rw[hm];rfl,M,rfl⟩,hs⟩
def fe (p:Prog) (l:List Int) (f:Bool) (hl:l.length≤1000):Pure Tryz.prog 31 [.a (BV p),.l (iL l) f] (.t [.l (iL (Hy p l).1.1) true,.b (Hy p l).1.2,eI (Hy p l).2]):=by
 refine Pure.of ?_;have hr:=I3 p;refine qp kZ ?_;have hs:=Sn
 conv=>whnf
 repeat'((first|apply st|(apply sq;intro K U)|(apply si;intro A B Y Z)|(apply Y;clear Z B Y A)|(apply U;clear U K)|refine⟨kZ,?_⟩|fail)<;>conv=>whnf)
 refine hr.use (rest:=[]) (by simpa using hs) ?_;clear hs;cases h:(BX p).isSome
 ·have c1:=eW l f true
  rintro r post σ ⟨rfl,rfl⟩ hs
  conv=>whnf
  repeat'((first|apply st|(apply sq;intro K U)|(apply si;intro A B Y Z)|(apply Y;clear Z B Y A)|(apply U;clear U K)|refine E2 ?_|refine c1.use ?_|clear U K)<;>conv=>whnf)
  exact AR (by simp[Hy,h])
 ·rintro r post σ ⟨L,rfl,rfl⟩ hs
  have c1:=ji p L l f true hl;have hok:=look_ok h;cases h2:HM p l true<;>rw[h2]at c1
  ·conv=>whnf
   repeat'((first|apply st|(apply sq;intro K U)|(apply si;intro A B Y Z)|(apply Y;clear Z B Y A)|(apply U;clear U K)|refine E2 ?_|refine c1.use ?_|clear U K)<;>conv=>whnf)
   exact AR (by simp[Hy,h,h2])
  ·have ho:=bg hok h2
   conv=>whnf
   repeat'((first|apply st|(apply sq;intro K U)|(apply si;intro A B Y Z)|(apply Y;clear Z B Y A)|(apply U;clear U K)|refine D2 ?_|refine c1.use ?_|fail)<;>conv=>whnf)
   refine(R0 p L l f hok (No h) (Kp h) ho.1 ho.2 []).use (rest:=[]) hs ?_;clear hs;rintro r post σ ⟨rfl,M',rfl⟩ hs
   conv=>whnf
   repeat'((first|apply st|(apply sq;intro K U)|(apply si;intro A B Y Z)|(apply Y;clear Z B Y A)|(apply U;clear U K)|fail)<;>conv=>whnf)
   exact AR (by simp[Hy,h,h2])
end Go.Gl
