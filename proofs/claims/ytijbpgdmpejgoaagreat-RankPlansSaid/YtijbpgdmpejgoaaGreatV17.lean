import Derived.Test.YtijbpgdmpejgoaaGreatRows
import Derived.HandedShaped
import Derived.Test.YtijbpgdmpejgoaaGreatV6
import Derived.Test.YtijbpgdmpejgoaaGreatV16
set_option linter.all false
noncomputable section
namespace Go.Gl
open Go.Proofs
theorem Sat.xP {σ:AH} {l:List At} (h:Sat σ l) {a:At} (ha:a∈l):a.ok σ:=h.1 a ha
theorem dB {σ:AH} {v vf:V} {Q:R→AH→Prop} (hf:Gq σ emp v vf) (hq:Q (.ret vf) emp):A4 σ v Q:=⟨vf,emp,fun n o ho=>(by cases ho),hf,hq⟩
structure Hid (p:Prop):Prop where
 un:p
attribute [local irreducible] BL A4 Aj AW AM Ai AV AX AN Ah AS AU A8 BJ Sat Ac BF Ak W
abbrev RW:=Nat×List Bool
abbrev KQ (n:Nat) (r:RW):List V:=[.sl r.1 n n]
abbrev Ex (n:Nat) (r:RW):At:= .own (.sl r.1 n n) 1 (bL r.2)
theorem Wz (n:Nat):EP (KQ n) 1:=fun r=>⟨rfl,fun v hv=>by rw[KN.1 hv];rfl⟩
abbrev dH (n:Nat) (v6 v7:V) (R6 R7:List RW):List At:= .own v6 1 (R6.map (KQ n)):: .own v7 1 (R7.map (KQ n))::(R6.map (Ex n)++R7.map (Ex n))
theorem bF {n:Nat} {v6 v7:V} {R6 R7:List RW} {r6 r7:RW}:List.Perm (Ex n r7::Ex n r6:: .own v6 1 ((R6++[r6]).map (KQ n)):: .own v7 1 ((R7++[r7]).map (KQ n))::(R6.map (Ex n)++R7.map (Ex n))) (dH n v6 v7 (R6++[r6]) (R7++[r7])):=by
 have e:(R6++[r6]).map (Ex n)++(R7++[r7]).map (Ex n)=R6.map (Ex n)++(Ex n r6::(R7.map (Ex n)++[Ex n r7])):=by simp
 have h1:((R6++[r6]).map (Ex n)++(R7++[r7]).map (Ex n)).Perm (Ex n r7::Ex n r6::(R6.map (Ex n)++R7.map (Ex n))):=by
  rw[e];refine List.perm_middle.trans (.trans (.cons _ ?_) (.swap _ _ _));rw[←SS];exact List.perm_append_singleton _ _
 exact((Pq (l₁:=[Ex n r7,Ex n r6]) (l₂:=[_,_])).append_right _).trans (.cons _ (.cons _ h1.symm))
def JW (R:List RW):List (List Bool):=R.map fun r=>r.2
theorem D9 {l:List Int} {k:Nat} (h:k<l.length):l.getD k 0∈l:=by
 rw[DL,Cu h];exact List.getElem_mem h
structure PZ (n:Nat) (R:List RW):Prop where
 len:R.length=n
 row: ∀r∈R,r.2.length=n
theorem PZ.put {n:Nat} {R:List RW} {r:RW} (h:PZ n R) {j k:Nat} {b:Bool} (hr:R[j]? =some r):PZ n (R.set j (r.1,r.2.set k b)):=by
 refine⟨by rw[List.length_set];exact h.len,fun q hq=>?_⟩;rcases List.mem_or_eq_of_mem_set hq with hq|rfl
 ·exact h.row q hq
 ·rw[List.length_set];exact h.row r (B2 hr)
theorem Uj {n:Nat} {R:List RW} {r:RW} (h:PZ n R) {j k:Nat} {b:Bool} (hr:R[j]? =some r) (hk:k<n) (u v:Int):Dn (JW (R.set j (r.1,r.2.set k b))) u v=if u.toNat=j∧v.toNat=k then b else Dn (JW R) u v:=by
 have hj:j<R.length:=(Hi.1 hr).1;have hl:=h.row r (B2 hr);rw[Dn,Dn,JW,List.map_set];rw[DL (l:=(R.map fun r=>r.2).set j _)];by_cases hu:u.toNat=j
 ·rw[hu,List.getElem?_set_self (by simpa using hj),Option.getD_some,EV (by omega)]
  have e:(JW R).getD j []=r.2:=by rw[JW,DL,LZ,hr];rfl
  by_cases hv:v.toNat=k
  ·rw[if_pos hv,if_pos ⟨rfl,hv⟩]
  ·rw[if_neg hv,if_neg fun h=>hv h.2,e]
 ·rw[List.getElem?_set_ne (fun h=>hu h.symm),if_neg fun h=>hu h.1,←DL]
  rfl
theorem cF {σ:AH} {n:Nat} {v6:V} {R:List RW} {r r':RW} {j:Nat} {B:At} {AA X:List At} (hr:R[j]? =some r) (he:r'.1=r.1) (hs:Sat σ (Ex n r'::B:: .own v6 1 (R.map (KQ n))::(AA++(R.map (Ex n)++X).eraseIdx j))):Sat σ (B:: .own v6 1 ((R.set j r').map (KQ n))::(AA++((R.set j r').map (Ex n)++X))):=by
 have hj:j<R.length:=(Hi.1 hr).1
 have e1:(R.set j r').map (KQ n)=R.map (KQ n):=by
  rw[List.map_set];refine List.ext_getElem? fun i=>?_
  by_cases hi:j=i
  ·subst hi
   rw[List.getElem?_set_self (by simpa using hj),LZ,hr];simp only[UW,KQ,he]
  ·rw[List.getElem?_set_ne hi]
 have e2:(R.set j r').map (Ex n)++X=(R.map (Ex n)++X).set j (Ex n r'):=by
  rw[List.map_set,List.set_append_left _ _ (by simpa using hj)]
 rw[e1,e2]
 have hp:((R.map (Ex n)++X).set j (Ex n r')).Perm (Ex n r'::(R.map (Ex n)++X).eraseIdx j):=by
  have:=H3 (l:=(R.map (Ex n)++X).set j (Ex n r')) (j:=j) (a:=Ex n r') (List.getElem?_set_self (by rw[PT,BE];omega))
  rwa [List.eraseIdx_set_eq]at this
 refine hs.perm (List.Perm.trans ?_ (.cons _ (.cons _ ((hp.symm).append_left AA))));exact((Pq (l₁:=[Ex n r']) (l₂:=B:: .own v6 1 (R.map (KQ n))::AA)).append_right _).trans (by simp)
theorem gK {R:List RW} {r:RW} {m n:Nat} {b:Bool} (hr:R[m]? =some r) (hb:r.2[n]? =some b):Dn (JW R) m n=b:=by
 simp only[Dn,JW,Ih,DL,LZ,hr,UW,Option.getD_some,hb]
theorem Qb {n:Nat} {v7:V} {R Q:List RW} {r r':RW} {j:Nat} {B AF:At} (hr:Q[j]? =some r) (he:r'.1=r.1):(B::AF:: .own v7 1 (Q.map (KQ n))::(R.map (Ex n)++Q.map (Ex n))).set (R.length+j+3) (Ex n r')=B::AF:: .own v7 1 ((Q.set j r').map (KQ n))::(R.map (Ex n)++(Q.set j r').map (Ex n)):=by
 have e1:(Q.set j r').map (KQ n)=Q.map (KQ n):=by
  have hj:j<Q.length:=(Hi.1 hr).1;rw[List.map_set];refine List.ext_getElem? fun i=>?_
  by_cases hi:j=i
  ·subst hi
   rw[List.getElem?_set_self (by simpa using hj),LZ,hr];simp only[UW,KQ,he]
  ·rw[List.getElem?_set_ne hi]
 rw[e1];show B::AF:: .own v7 1 (Q.map (KQ n))::(R.map (Ex n)++Q.map (Ex n)).set (R.length+j) (Ex n r')=_;rw[List.set_append_right _ _ (by rw[BE];omega),BE,show R.length+j - R.length=j by omega,List.map_set]
theorem OM {σ:AH} {n:Nat}: ∀Q:List RW,(∀r∈Q,(Ex n r).ok σ)→Fo σ emp (Q.map (KQ n)) ((JW Q).map fun r=>[.l (bL r) false])
 | [],_=> .nil
 | r ::s,h=>by
   refine .cons (.cons ?_ .nil) (OM s fun q hq=>h q (.tail _ hq));rcases h r (.head _)with⟨e,_⟩|⟨m,cap,e,hm⟩
   ·cases e
   ·injection e with e1 e2 e3
    subst e1 e3;exact .arr hm rfl e2 (.refl _ _ _)
theorem j6 {σ:AH} {n:Nat} {v:V} {Q:List RW} (hv:(At.own v 1 (Q.map (KQ n))).ok σ) (h: ∀r∈Q,(Ex n r).ok σ):Gq σ emp v (oj (JW Q)):=by
 rcases hv with⟨rfl,_⟩|⟨m,cap,rfl,hm⟩
 ·exact .l (fun h=>by cases h) (OM Q h)
 ·exact .arr hm rfl rfl (OM Q h)
set_option maxHeartbeats 4000000 in
theorem OY (p : Prog) (l:List Int) (f:Bool) (hok:DF p) (hl16:l.length≤16) (hin: ∀x∈l,A0 p x=true):Bh Tryz.prog 87 [.a (BK p),.l (iL l) f] [] fun r post=>post= []∧ ∃T,r= .ret (oj T)∧JX T l∧ ∀x∈l,∀y∈l,Bw p x y=true→Dn T x y=Ag p x y:=by
 refine Bh.fit (by kernel_rfl) fun hf=>?_
 intro σ hs;have⟨p1,p2,p3,p4⟩:=GG hf.1;have hM:=Mx;have h16:=hok.many;have F:=MY hf.1;have c1:=Rb p F hok.pY hok.AT;refine qE nb ?_
 conv=>whnf
 repeat'((first|apply st|(apply sq;intro K U)|(apply si;intro A B Y Z)|(apply Y;clear Z B Y A)|(apply U;clear U K)|refine⟨nb,?_⟩|refine Dm fun σ hs=>?_|refine Pure.use c1 ?_|(intro nn hnn;generalize hg:BC _ nn _=σ;refine Cm hg fun hs=>?_;clear hg)|fail)<;>conv=>whnf)
 replace hs:=Sat.front (j:=2) (Cv (Cv hs 1) 1) rfl;refine B4 p.methods.length (fun m (x:V×V×List RW×List RW)=>[(6,x.1),(7,x.2.1),(8,eI (A6 m))]) (fun _ x=> .box nn (A2 (AP p))::dH p.methods.length x.1 x.2.1 x.2.2.1 x.2.2.2) (fun m x=>x.2.2.1.length=m∧x.2.2.2.length=m∧(∀r∈x.2.2.1,r.2=List.replicate p.methods.length false)∧ ∀r∈x.2.2.2,r.2=List.replicate p.methods.length false) (.l [] true,.l [] true,[],[]) rfl ⟨rfl,rfl,fun r h=>(by cases h),fun r h=>(by cases h)⟩ hs ?_;clear hs hnn;rintro m ⟨v6,v7,R6,R7⟩ σ hm ⟨h6,h7,ha6,ha7⟩ hs;dsimp only at h6 h7 ha6 ha7 hs;dsimp only;rcases BH p.methods hm with⟨x,hx,hlt⟩|hme
 ·have hll6:R6.length<Ad∧(R6.length+1)*24≤140737488355328:=by omega
  have hll7:R7.length<Ad∧(R7.length+1)*24≤140737488355328:=by omega
  conv=>whnf
  repeat'((first|apply st|(apply sq;intro K U)|(apply si;intro A B Y Z)|(apply Y;clear Z B Y A)|(apply U;clear U K)|refine⟨rfl,?_⟩|(refine CS (fun hc=>?_)<;>(try rw[hc])<;>clear hc)|fail)<;>conv=>whnf)
  simp only[BE];refine de hs (JU _) (by omega) fun u6 σ hs hu6=>?_
  obtain⟨a6,rfl⟩:=hu6
  conv=>whnf
  repeat'((first|apply st|(apply si;intro A B Y Z)|(apply Y;clear Z B Y A)|(apply U;clear U K)|refine aq (enc:=KQ p.methods.length) (x:=((_:Nat),List.replicate p.methods.length false)) (fun v σ hs hsl=>?_) (hg:=Wz _)|fail)<;>conv=>whnf)
  rename V=>w6
  simp only[BE];refine de hs (JU _) (by omega) fun u7 σ hs hu7=>?_
  obtain⟨a7,rfl⟩:=hu7
  conv=>whnf
  repeat'((first|(apply si;intro A B Y Z)|(apply Y;clear Z B Y A)|(apply U;clear U K)|refine⟨rfl,?_⟩|refine aq (enc:=KQ p.methods.length) (x:=((_:Nat),List.replicate p.methods.length false)) (fun v σ hs hsl=>?_) (hg:=Wz _)|clear U K)<;>conv=>whnf)
  refine⟨hlt,(w6,v,R6++[(a6,List.replicate p.methods.length false)],R7++[(a7,List.replicate p.methods.length false)]),rfl,⟨by simp;omega,by simp;omega,fun r hr=>?_,fun r hr=>?_⟩,?_⟩
  ·rcases Fk.1 hr with hr|hr
   ·exact ha6 r hr
   ·rw[KN.1 hr]
  ·rcases Fk.1 hr with hr|hr
   ·exact ha7 r hr
   ·rw[KN.1 hr]
  ·refine Sat.perm ?_ (((Pq (l₁:=[_,_]) (l₂:=[_])).append_right _).trans (.cons _ bF))
   have hbl:bL (List.replicate p.methods.length false)=List.replicate p.methods.length [V.b false]:=by simp[bL]
   dsimp only[Ex];rw[hbl];exact hs
 ·conv => whnf
  repeat'((first|apply st|(apply sq;intro K U)|(apply si;intro A B Y Z)|(apply Y;clear Z B Y A)|(apply U;clear U K)|refine⟨rfl,?_⟩|(refine Dh (fun hc=>?_)<;>(try rw[hc])<;>clear hc)|clear U K)<;>conv=>whnf)
  have hs2:=hs;refine B4 l.length (fun i (R:List RW)=>[(9,eI (A6 i))]) (fun _ R=> .box nn (A2 (AP p))::dH p.methods.length v6 v7 R R7) (fun i R=>PZ p.methods.length R∧ ∀i' k',i'<i→k'<l.length→Bw p (l.getD i' 0) (l.getD k' 0)=true→Dn (JW R) (l.getD i' 0) (l.getD k' 0)=Dc p (l.getD i' 0) (l.getD k' 0)) R6 rfl ⟨⟨by omega,fun r hr=>by rw[ha6 r hr];simp⟩,fun i' k' h=>by omega⟩ hs ?_;clear hs hs2;rintro i R σ hi ⟨G,hE⟩ hs;rcases BH l hi with⟨x,hx,hlt⟩|hie
  ·have hxm:=hin x (B2 hx)
   have hxP:=Bs hxm;have hxr:=hxm;simp only[A0,BZ,CX]at hxr
   conv=>whnf
   repeat'((first|apply st|(apply sq;intro K U)|(apply si;intro A B Y Z)|(apply Y;clear Z B Y A)|(apply U;clear U K)|refine⟨rfl,?_⟩|(refine CS (fun hc=>?_)<;>(try rw[hc])<;>clear hc)|fail)<;>conv=>whnf)
   refine B4 l.length (fun k (R:List RW)=>[(10,eI (A6 k))]) (fun _ R=> .box nn (A2 (AP p))::dH p.methods.length v6 v7 R R7) (fun k R=>PZ p.methods.length R∧(∀i' k',i'<i→k'<l.length→Bw p (l.getD i' 0) (l.getD k' 0)=true→Dn (JW R) (l.getD i' 0) (l.getD k' 0)=Dc p (l.getD i' 0) (l.getD k' 0))∧ ∀k',k'<k→Bw p x (l.getD k' 0)=true→Dn (JW R) x (l.getD k' 0)=Dc p x (l.getD k' 0)) R rfl ⟨G,hE,fun k' h=>by omega⟩ hs ?_;clear hs G hE R;rintro k R σ hk ⟨G,hE,hF⟩ hs;rcases BH l hk with⟨y,hy,hklt⟩|hke
   ·have hym:=hin y (B2 hy)
    have hyP:=Bs hym;have hyr:=hym;simp only[A0,BZ,CX]at hyr;have c2:=XR p x y hxm hym;have c3:=YQ (AP p) (BG p x).fact (BG p y).fact hok.oy (hok.facts _ (B2 hxP)).1 (hok.facts _ (B2 hyP)).1 (hok.facts _ (B2 hxP)).2 (hok.facts _ (B2 hyP)).2;cases hal:Bw p x y<;>rw[hal]at c2
    ·conv=>whnf
     repeat'((first|apply st|(apply sq;intro K U)|(apply si;intro A B Y Z)|(apply Y;clear Z B Y A)|(apply U;clear U K)|apply dr|refine⟨rfl,?_⟩|refine⟨nb,?_⟩|refine ix ?_|(refine CS (fun hc=>?_)<;>(try rw[hc])<;>clear hc)|refine Pure.use c2 ?_|clear U K)<;>conv=>whnf)
     refine⟨hklt,R,rfl,⟨G,hE,fun k' h=>?_⟩,hs⟩;rcases Nat.lt_or_ge k' k with h'|h'
     ·exact hF k' h'
     ·rw[show k'=k by omega,CG hy,hal]
      intro e;cases e
    ·obtain⟨r,hr⟩: ∃r,R[x.toNat]? =some r:=⟨_,Cu (by have:=G.len;omega)⟩
     have hl0:=G.len;have hl1:(R.map (KQ p.methods.length)).length=p.methods.length:=by rw[BE];exact G.len
     have hl2:=G.row r (B2 hr);have hl3:(bL r.2).length=p.methods.length:=by simpa using hl2
     have hj:(At.box nn (A2 (AP p))::dH p.methods.length v6 v7 R R7)[x.toNat+3]? =some (Ex p.methods.length r):=by
      show(R.map (Ex p.methods.length)++R7.map (Ex p.methods.length))[x.toNat]? =_;rw[dF (by rw[BE];have:=G.len;omega),LZ,hr];rfl
     replace hs:Sat σ (Ex p.methods.length r:: .box nn (A2 (AP p)):: .own v6 1 (R.map (KQ p.methods.length)):: .own v7 1 (R7.map (KQ p.methods.length))::(R.map (Ex p.methods.length)++R7.map (Ex p.methods.length)).eraseIdx x.toNat):=hs.front hj
     conv=>whnf
     repeat'((first|apply st|(apply sq;intro K U)|(apply si;intro A B Y Z)|(apply Y;clear Z B Y A)|(apply U;clear U K)|apply dr|refine rk ?_ ?_|exact fun s e=>by cases e;rfl|refine⟨rfl,?_⟩|refine⟨nb,?_⟩|refine ix ?_|refine F6 ?_|refine dS fun σ hs=>?_|refine ld ?_|refine oi ?_|refine NX ?_|(refine CS (fun hc=>?_)<;>(try rw[hc])<;>clear hc)|refine Pure.use c2 ?_|refine Pure.use c3 ?_|clear U K)<;>conv=>whnf)
     have hk2:y.toNat<p.methods.length:=by omega
     have hkeep: ∀u v,A0 p u=true→A0 p v=true→Dn (JW R) u v=Dc p u v→Dn (JW (R.set x.toNat (r.1,r.2.set y.toNat (Dc p x y)))) u v=Dc p u v:=fun u v hu hv e=>by
      simp only[A0,BZ,CX]at hu hv;rw[Uj G hr hk2];split
      ·rename_i h
       rw[show u=x by omega,show v=y by omega]
      ·exact e
     refine⟨hklt,R.set x.toNat (r.1,r.2.set y.toNat (Dc p x y)),rfl,⟨G.put hr,fun i' k' h1 h2 h3=>?_,fun k' h1 h2=>?_⟩,cF (AA:=[_]) hr rfl hs⟩
     ·exact hkeep _ _ (hin _ (D9 (by omega))) (hin _ (D9 h2)) (hE i' k' h1 h2 h3)
     ·rcases Nat.lt_or_ge k' k with h'|h'
      ·exact hkeep _ _ hxm (hin _ (D9 (by omega))) (hF k' h' h2)
      ·rw[show k'=k by omega,CG hy,Uj G hr hk2,if_pos ⟨rfl,rfl⟩]
   ·conv=>whnf
    repeat'((first|apply st|(apply sq;intro K U)|(apply si;intro A B Y Z)|(apply Y;clear Z B Y A)|(apply U;clear U K)|refine⟨rfl,?_⟩|(refine Dh (fun hc=>?_)<;>(try rw[hc])<;>clear hc)|clear U K)<;>conv=>whnf)
    refine⟨hlt,R,rfl,⟨G,fun i' k' h1 h2=>?_⟩,hs⟩;rcases Nat.lt_or_ge i' i with h'|h'
    ·exact hE i' k' h' h2
    ·rw[show i'=i by omega,CG hx]
     exact hF k' (by omega)
  ·have hlR:=G.len
   have hnr:PZ p.methods.length R7:=⟨by omega,fun r hr=>by rw[ha7 r hr];simp⟩
   conv=>whnf
   repeat'((first|apply st|(apply sq;intro K U)|(apply si;intro A B Y Z)|(apply Y;clear Z B Y A)|(apply U;clear U K)|refine⟨rfl,?_⟩|(refine Dh (fun hc=>?_)<;>(try rw[hc])<;>clear hc)|clear U K)<;>conv=>whnf)
   refine B4 p.methods.length (fun m (Q:List RW)=>[(11,eI (A6 m))]) (fun _ Q=> .box nn (A2 (AP p))::dH p.methods.length v6 v7 R Q) (fun m Q=>PZ p.methods.length Q∧ ∀m' n':Nat,m'<m→n'<p.methods.length→Dn (JW Q) m' n'=(Dn (JW R) m' n'&& !Dn (JW R) n' m')) R7 rfl ⟨hnr,fun m' n' h=>by omega⟩ hs ?_;clear hs hnr;rintro m Q σ hm ⟨hQ,hG⟩ hs;have hlQ:=hQ.len;have hl5:(Q.map (KQ p.methods.length)).length=p.methods.length:=by rw[BE];exact hlQ
   have hl6:(R.map (KQ p.methods.length)).length=p.methods.length:=by rw[BE];exact hlR
   rcases Nat.lt_or_ge m p.methods.length with hlt|hme
   ·obtain ⟨ra,hra⟩: ∃r,R[m]? =some r:=⟨_,Cu (by omega)⟩
    conv=>whnf
    repeat'((first|apply st|(apply sq;intro K U)|(apply si;intro A B Y Z)|(apply Y;clear Z B Y A)|(apply U;clear U K)|refine⟨rfl,?_⟩|refine lo ?_|(constructor<;>intro hc<;>(try rw[hc])<;>(replace hc:=bp hc)<;>(try simp(disch:=omega) only[BE,wrap64,AL]at hc)<;>try(exfalso;omega))|fail)<;>conv=>whnf)
    refine B4 p.methods.length (fun n (Q:List RW)=>[(12,eI (A6 n))]) (fun _ Q=> .box nn (A2 (AP p))::dH p.methods.length v6 v7 R Q) (fun n Q=>PZ p.methods.length Q∧(∀m' n':Nat,m'<m→n'<p.methods.length→Dn (JW Q) m' n'=(Dn (JW R) m' n'&& !Dn (JW R) n' m'))∧ ∀n':Nat,n'<n→Dn (JW Q) m n'=(Dn (JW R) m n'&& !Dn (JW R) n' m)) Q rfl ⟨hQ,hG,fun n' h=>by omega⟩ hs ?_;clear hs hQ hG hlQ hl5;rintro n Q σ hn ⟨hQ,hG,hI⟩ hs;have hlQ:=hQ.len;have hl5:(Q.map (KQ p.methods.length)).length=p.methods.length:=by rw[BE];exact hlQ
    rcases Nat.lt_or_ge n p.methods.length with hnlt|hne
    ·obtain⟨rb,hrb⟩: ∃r,R[n]? =some r:=⟨_,Cu (by omega)⟩
     obtain⟨rq,hrq⟩: ∃r,Q[m]? =some r:=⟨_,Cu (by omega)⟩
     have hla:=G.row ra (B2 hra);have hlb:=G.row rb (B2 hrb);have hlq:=hQ.row rq (B2 hrq);have hcm:A6 m=m:=AL (by omega);have hcn:A6 n=n:=AL (by omega);obtain⟨ba,hba⟩: ∃b,ra.2[n]? =some b:=⟨_,Cu (by omega)⟩
     obtain⟨bb,hbb⟩: ∃b,rb.2[m]? =some b:=⟨_,Cu (by omega)⟩
     have g1:Hid ((At.box nn (A2 (AP p))::dH p.methods.length v6 v7 R Q)[m+3]? =some (Ex p.methods.length ra)):=by
      refine .mk ?_;show(R.map (Ex p.methods.length)++Q.map (Ex p.methods.length))[m]? =_;rw[dF (by rw[BE];omega),LZ,hra];rfl
     have g2:Hid ((At.box nn (A2 (AP p))::dH p.methods.length v6 v7 R Q)[n+3]? =some (Ex p.methods.length rb)):=by
      refine .mk ?_;show(R.map (Ex p.methods.length)++Q.map (Ex p.methods.length))[n]? =_;rw[dF (by rw[BE];omega),LZ,hrb];rfl
     have g3:Hid ((At.box nn (A2 (AP p))::dH p.methods.length v6 v7 R Q)[R.length+m+3]? =some (Ex p.methods.length rq)):=by
      refine .mk ?_;show(R.map (Ex p.methods.length)++Q.map (Ex p.methods.length))[R.length+m]? =_;rw[List.getElem?_append_right (by rw[BE];omega),BE,show R.length+m - R.length=m by omega,LZ,hrq];rfl
     have hra2:R[(A6 m).toNat]? =some ra:=by rw[hcm,Ih];exact hra
     have hrb2:R[(A6 n).toNat]? =some rb:=by rw[hcn,Ih];exact hrb
     have hrq2:Q[(A6 m).toNat]? =some rq:=by rw[hcm,Ih];exact hrq
     have eab:=gK hra hba;have eba:=gK hrb hbb;have hput: ∀b,PZ p.methods.length (Q.set m (rq.1,rq.2.set n b)):=fun b=>hQ.put hrq
     have hnew: ∀(b:Bool) (u v:Nat),Dn (JW (Q.set m (rq.1,rq.2.set n b))) u v=if u=m∧v=n then b else Dn (JW Q) u v:=fun b u v=>by
      have:=Uj (b:=b) hQ hrq hnlt u v;simpa using this
     have hfin: ∀b,b=(ba&& !bb)→(∀m' n':Nat,m'<m→n'<p.methods.length→Dn (JW (Q.set m (rq.1,rq.2.set n b))) m' n'=(Dn (JW R) m' n'&& !Dn (JW R) n' m'))∧ ∀n':Nat,n'<n+1→Dn (JW (Q.set m (rq.1,rq.2.set n b))) m n'=(Dn (JW R) m n'&& !Dn (JW R) n' m):=fun b hb=>by
      refine⟨fun m' n' h1 h2=>?_,fun n' h1=>?_⟩
      ·rw[hnew,if_neg fun h=>by omega]
       exact hG m' n' h1 h2
      ·rw[hnew]
       split
       ·rename_i h
        rw[h.2,eab,eba,hb]
       ·exact hI n' (by omega)
     cases ba
     ·conv=>whnf
      repeat'((first|apply st|(apply sq;intro K U)|(apply si;intro A B Y Z)|(apply Y;clear Z B Y A)|(apply U;clear U K)|apply dr|refine⟨rfl,?_⟩|refine lo ?_|refine oi ?_|refine NX ?_|refine dS (fun σ hs=>?_) (hi:=g3.un) (h1:=by omega)|refine oc ?_ (hi:=g1.un) (h1:=by rw[BE];omega)|refine oc ?_ (hi:=g3.un) (h1:=by rw[BE];omega)|refine NX ?_ (hi:=g1.un)|(constructor<;>intro hc<;>(try rw[hc])<;>(replace hc:=bp hc)<;>(try simp(disch:=omega) only[BE,wrap64,AL]at hc)<;>try(exfalso;omega))|clear U K)<;>conv=>whnf)
      refine⟨hnlt,Q.set m (rq.1,rq.2.set n false),rfl,⟨hput _,hfin _ rfl⟩,?_⟩;refine(congrArg (Sat σ) (Qb (n:=p.methods.length) (v7:=v7) (R:=R) (B:= .box nn (A2 (AP p))) (AF:= .own v6 1 (R.map (KQ p.methods.length))) (r':=(rq.1,rq.2.set n false)) hrq rfl)).mp ?_
      first
       | exact hs
       | (rw[hcn,Ih]at hs;exact hs)
     ·conv=>whnf
      repeat'((first|apply st|(apply sq;intro K U)|(apply si;intro A B Y Z)|(apply Y;clear Z B Y A)|(apply U;clear U K)|apply dr|refine⟨rfl,?_⟩|refine lo ?_|refine oi ?_|refine NX ?_|refine dS (fun σ hs=>?_) (hi:=g3.un) (h1:=by omega)|refine oc ?_ (hi:=g1.un) (h1:=by rw[BE];omega)|refine oc ?_ (hi:=g2.un) (h1:=by rw[BE];omega)|refine oc ?_ (hi:=g3.un) (h1:=by rw[BE];omega)|refine NX ?_ (hi:=g1.un)|refine NX ?_ (hi:=g2.un)|(constructor<;>intro hc<;>(try rw[hc])<;>(replace hc:=bp hc)<;>(try simp(disch:=omega) only[BE,wrap64,AL]at hc)<;>try(exfalso;omega))|clear U K)<;>conv=>whnf)
      refine⟨hnlt,Q.set m (rq.1,rq.2.set n (!bb)),rfl,⟨hput _,hfin _ rfl⟩,?_⟩;refine(congrArg (Sat σ) (Qb (n:=p.methods.length) (v7:=v7) (R:=R) (B:= .box nn (A2 (AP p))) (AF:= .own v6 1 (R.map (KQ p.methods.length))) (r':=(rq.1,rq.2.set n (!bb))) hrq rfl)).mp ?_
      first
       | exact hs
       | (rw[hcn,Ih]at hs;exact hs)
    ·conv=>whnf
     repeat'((first|apply st|(apply sq;intro K U)|(apply si;intro A B Y Z)|(apply Y;clear Z B Y A)|(apply U;clear U K)|refine⟨rfl,?_⟩|refine lo ?_|(constructor<;>intro hc<;>(try rw[hc])<;>(replace hc:=bp hc)<;>(try simp(disch:=omega) only[BE,wrap64,AL]at hc)<;>try(exfalso;omega))|clear U K)<;>conv=>whnf)
     refine⟨hlt,Q,rfl,⟨hQ,fun m' n' h1 h2=>?_⟩,hs⟩;rcases Nat.lt_or_ge m' m with h'|h'
     ·exact hG m' n' h' h2
     ·rw[show m'=m by omega]
      exact hI n' (by omega)
   ·conv=>whnf
    repeat'((first|apply st|(apply sq;intro K U)|(apply si;intro A B Y Z)|(apply Y;clear Z B Y A)|(apply U;clear U K)|refine⟨rfl,?_⟩|refine lo ?_|(constructor<;>intro hc<;>(try rw[hc])<;>(replace hc:=bp hc)<;>(try simp(disch:=omega) only[BE,wrap64,AL]at hc)<;>try(exfalso;omega))|clear U K)<;>conv=>whnf)
    have hrow: ∀r∈Q,(Ex p.methods.length r).ok σ:=fun r hr=>hs.xP (.tail _ (.tail _ (.tail _ (PX _ (Lc.2 ⟨r,hr,rfl⟩)))))
    refine dB (j6 (hs.xP (.tail _ (.tail _ (.head _)))) hrow) ⟨[],⟨rfl,_,rfl,?_,fun x hx y hy hal=>?_⟩,Sat.nil⟩
    ·have hlT:(JW Q).length=p.methods.length:=by rw[JW,BE];exact hlQ
     refine⟨by omega,fun r hr=>?_,fun x hx=>?_,hl16⟩
     ·obtain⟨q,hq,rfl⟩:=Lc.1 hr
      rw[hlT];exact hQ.row q hq
     ·have:=hin x hx
      simp only[A0,BZ,CX]at this;rw[hlT];omega
    ·have mx:=hin x hx
     have my:=hin y hy;simp only[A0,BZ,CX]at mx my
     have hal2:Bw p y x=true:=by
      simp only[Bw,BZ,D1]at hal ⊢;exact⟨hal.1.symm,hal.2.symm⟩
     obtain⟨a,ha,rfl⟩:=List.getElem_of_mem hx;obtain⟨b,hb,rfl⟩:=List.getElem_of_mem hy;have e1:l.getD a 0=l[a]:=CG (Cu ha);have e2:l.getD b 0=l[b]:=CG (Cu hb);have h1:=hE a b (by omega) hb;have h2:=hE b a (by omega) ha;rw[e1,e2]at h1 h2;have h3:=hG l[a].toNat l[b].toNat (by omega) (by omega);rw[Int.toNat_of_nonneg mx.1,Int.toNat_of_nonneg my.1,h1 hal,h2 hal2]at h3;exact h3
end Go.Gl
namespace Go.Gl
open Go.Proofs
attribute [local irreducible] BL A4 Aj AW AM Ai AV AX AN Ah AS AU A8 BJ Sat Ac BF Ak W
theorem KI {f g:Nat→Bool}: ∀ {l:List Nat},(∀x∈l,f x=g x)→l.all f=l.all g
 | [],_=>rfl
 | x::r,h=>by rw[NA,NA,h x (.head _),KI fun y hy=>h y (.tail _ hy)]
theorem U4 {A B:Int→Int→Bool} {l:List Int} (h: ∀x∈l,∀y∈l,A x y=B x y) {i:Nat} (hi:i<l.length):Gr A l i l.length=Gr B l i l.length:=by
 rw[Gr,Gr];refine KI fun k hk=>?_
 rw[h _ (D9 hi) _ (D9 (List.mem_range.1 hk))]
theorem find_congr {f g:Nat→Bool}: ∀ {l:List Nat},(∀x∈l,f x=g x)→l.find? f=l.find? g
 | [],_=>rfl
 | x::r,h=>by
   rw[List.find?_cons,List.find?_cons,h x (.head _),find_congr fun y hy=>h y (.tail _ hy)]
theorem SI {A B:Int→Int→Bool} {l:List Int} (h: ∀x∈l,∀y∈l,A x y=B x y):Eb A l=Eb B l:=
 find_congr fun i hi=>U4 h (List.mem_range.1 hi)
theorem IE {A B:Int→Int→Bool}: ∀(k:Nat) (l:List Int),(∀x∈l,∀y∈l,A x y=B x y)→Ba A k l=Ba B k l
 | 0,_,_=>rfl
 | k + 1,l,h=>by
   rw[Ba,Ba,SI h];cases Eb B l with
   | none=>rfl
   | some i=>
     dsimp only;rw[IE k (l.eraseIdx i) fun x hx y hy=>h x (List.mem_of_mem_eraseIdx hx) y (List.mem_of_mem_eraseIdx hy)]
theorem VN {A B:Int→Int→Bool} {l:List Int} (h: ∀x∈l,∀y∈l,A x y=B x y):Lj A l=Lj B l:=
 find_congr fun i hi=>by
  rw[Jq,Jq];refine KI fun k hk=>?_
  rw[h _ (D9 (List.mem_range.1 hk)) _ (D9 (List.mem_range.1 hi))]
theorem KG {A B:Int→Int→Bool}: ∀(k:Nat) (l:List Int),(∀x∈l,∀y∈l,A x y=B x y)→DB A k l=DB B k l
 | 0,_,_=>rfl
 | k+1,l,h=>by
   rw[DB,DB,VN h,KG k (l.eraseIdx _) fun x hx y hy=>h x (List.mem_of_mem_eraseIdx hx) y (List.mem_of_mem_eraseIdx hy)]
theorem OI {x y:Int} {out:List Int}:y∈Gw x out↔y=x∨y∈out:=by
 have h:=List.takeWhile_append_dropWhile (p:=fun y=>decide (y<x)) (l:=out);rw[Gw];constructor
 ·intro hy
  rcases Fk.1 hy with hy|hy
  ·right;rw[←h];exact PU _ hy
  ·rcases GB.1 hy with rfl|hy
   ·exact .inl rfl
   ·right;rw[←h];exact PX _ hy
 ·rintro(rfl|hy)
  ·exact PX _ (.head _)
  ·rw[←h]at hy
   rcases Fk.1 hy with hy|hy
   ·exact PU _ hy
   ·exact PX _ (.tail _ hy)
theorem PE: ∀(l out:List Int) (y:Int),y∈l.foldl (fun out x=>Gw x out) out↔y∈l∨y∈out
 | [],out,y=>by simp
 | x ::r,out,y=>by
   rw[List.foldl_cons,PE r,OI,GB];constructor
   ·rintro(h|h|h)
    ·exact .inl (.inr h)
    ·exact .inl (.inl h)
    ·exact .inr h
   ·rintro((h|h)|h)
    ·exact .inr (.inl h)
    ·exact .inl h
    ·exact .inr (.inr h)
theorem D8 {l:List Int} {y:Int}:y∈Cd l↔y∈l:=by rw[Cd,PE];simp
theorem PF: ∀(l out:List Int),(l.foldl (fun out x=>Gw x out) out).length=l.length+out.length
 | [],out=>by simp
 | x::r,out=>by rw[List.foldl_cons,PF r,K4,LX];omega
theorem JL (l:List Int):(Cd l).length=l.length:=by rw[Cd,PF];simp
structure Jx (p:Prog) (l:List Int):Prop where
 HK: ∀x∈l,A0 p x=true
 alike: ∀x∈l,∀y∈l,Bw p x y=true
 many:l.length≤16
theorem Yu (p:Prog) (l:List Int) (f:Bool) (hok:DF p) (hl:Jx p l):Pure Tryz.prog 68 [.a (BK p),.l (iL l) f] (.t [.l (iL (Ba (Ag p) l.length l).1) false,.b (Ba (Ag p) l.length l).2]):=by
 refine Pure.of ?_;refine qS nb ?_;have hs:=Sn
 conv=>whnf
 repeat'((first|apply st|(apply sq;intro K U)|(apply si;intro A B Y Z)|(apply Y;clear Z B Y A)|(apply U;clear U K)|refine⟨nb,?_⟩|fail)<;>conv=>whnf)
 refine(OY p l f hok hl.many hl.HK).use (rest:=[]) (by simpa using hs) ?_;clear hs;rintro r post σ ⟨rfl,T,rfl,hT,hq⟩ hs;have c1:=OS T l f hT;rw[IE l.length l fun x hx y hy=>hq x hx y hy (hl.alike x hx y hy)]at c1
 conv=>whnf
 repeat'((first|apply st|(apply Y;clear Z B Y A)|(apply U;clear U K)|refine Pure.use c1 ?_|fail)<;>conv=>whnf)
 all_goals exact AO (by rfl)
theorem UN (p:Prog) (l:List Int) (f:Bool) (hok:DF p) (hl:Jx p l):Pure Tryz.prog 70 [.a (BK p),.l (iL l) f] (.l (iL (DB (Ag p) l.length (Cd l))) false):=by
 refine Pure.of ?_;refine qR nb ?_;have hs:=Sn
 conv=>whnf
 repeat'((first|apply st|(apply sq;intro K U)|(apply si;intro A B Y Z)|(apply Y;clear Z B Y A)|(apply U;clear U K)|refine⟨nb,?_⟩|fail)<;>conv=>whnf)
 refine(OY p l f hok hl.many hl.HK).use (rest:=[]) (by simpa using hs) ?_;clear hs;rintro r post σ ⟨rfl,T,rfl,hT,hq⟩ hs;have c1:=MN T l f ⟨hT.len,hT.sq,fun x hx=>hT.ins x (D8.1 hx),by rw[JL];exact hT.many⟩ hl.many;rw[KG _ _ fun x hx y hy=>hq x (D8.1 hx) y (D8.1 hy) (hl.alike x (D8.1 hx) y (D8.1 hy)),JL]at c1
 conv=>whnf
 repeat'((first|apply st|(apply Y;clear Z B Y A)|(apply U;clear U K)|refine Pure.use c1 ?_|fail)<;>conv=>whnf)
 all_goals exact AO (by rfl)
def V2 (p:Prog) (l:List Int) (kd:Bool) (x:Int):Bool:=A0 p x&&((BG p x).gen==(BG p (l.getD 0 0)).gen&&(!kd||Bw p x (l.getD 0 0)))
def DU (p:Prog) (l:List Int) (kd:Bool):Bool:=l.all (V2 p l kd)&&decide l.Nodup
theorem QV {p:Prog} {l:List Int} {kd:Bool} {i:Nat} {x:Int} (hx:l[i]? =some x) (h:V2 p l kd x=false):DU p l kd=false:=by
 rw[DU,Bool.and_eq_false_iff];left;rw[←Bool.not_eq_true,Em];intro h2;rw[h2 x (B2 hx)]at h;cases h
theorem QU {p:Prog} {l:List Int} {kd:Bool} {i k:Nat} {x:Int} (hx:l[i]? =some x) (hk:l[k]? =some x) (h:k<i):DU p l kd=false:=by
 rw[DU,Bool.and_eq_false_iff];right;rw[decide_eq_false_iff_not];intro h2;have hi:=(Hi.1 hx)
 have hj:=(Hi.1 hk)
 have:=(List.nodup_iff_pairwise_ne.1 h2)
 rw[List.pairwise_iff_getElem]at this;exact this k i hj.1 hi.1 h (by rw[hj.2,hi.2])
theorem Ov {l:List Int} {i:Nat} {x:Int} (hx:l[i]? =some x) (h:(l.take i).Nodup) (hn: ∀k y,k<i→l[k]? =some y→y≠x):(l.take (i+1)).Nodup:=by
 rw[AR hx,List.nodup_append];refine⟨h,by simp,fun a ha b hb=>?_⟩;rw[KN.1 hb];obtain⟨k,hk⟩:=List.getElem?_of_mem ha;rw[List.getElem?_take]at hk;split at hk
 ·exact hn k a (by assumption) hk
 ·cases hk
set_option maxHeartbeats 2000000 in
theorem Un (p : Prog) (l:List Int) (f:Bool) (kd:Bool) (hl:l.length≤1000):Pure Tryz.prog 35 [.a (BK p),.l (iL l) f,.b kd] (.b (DU p l kd)):=by
 refine Pure.fit (by kernel_rfl) fun hf=>?_
 have⟨p1,p2,p3,p4⟩:=GG hf.1;have hM:=Mx;refine qi nb ?_;have hs:=Sn
 conv=>whnf
 repeat'((first|apply st|(apply sq;intro K U)|(apply si;intro A B Y Z)|(apply Y;clear Z B Y A)|(apply U;clear U K)|fail)<;>conv=>whnf)
 refine B4 l.length (fun i (_:Unit)=>[(7,eI (A6 i))]) (fun _ _=>[]) (fun i _=>(∀k y,k<i→l[k]? =some y→V2 p l kd y=true)∧(l.take i).Nodup) () rfl ⟨fun k y h=>by omega,by simp⟩ hs ?_;clear hs;rintro i - σ hi ⟨ho,hn⟩ hs;rcases BH l hi with⟨x,hx,hlt⟩|hie
 ·have hci:A6 i=i:=AL (by omega)
  obtain⟨z,hz⟩: ∃z,l[0]? =some z:=⟨_,Cu (by omega)⟩
  have hz0:=CG hz;have c1:=bo p x;have hbad:=fun h=>QV (p:=p) (kd:=kd) hx h
  rw[V2,hz0]at hbad;cases hmx:A0 p x<;>rw[hmx]at c1
  ·conv=>whnf
   repeat'((first|apply st|(apply sq;intro K U)|(apply si;intro A B Y Z)|(apply Y;clear Z B Y A)|(apply U;clear U K)|apply dr|refine⟨rfl,?_⟩|refine⟨nb,?_⟩|refine ix ?_|refine RI ?_|(refine CS (fun hc=>?_)<;>(try rw[hc])<;>clear hc)|refine Pure.use c1 ?_|clear U K)<;>conv=>whnf)
   all_goals exact AI (by rw[hbad (by rw[hmx];rfl)])
  have hmz:A0 p z=true:=by
   rcases Nat.eq_zero_or_pos i with h0|h0
   ·rw[h0,hz]at hx
    rw[Option.some.inj hx];exact hmx
   ·have:=ho 0 z h0 hz
    simp only[V2,BZ]at this;exact this.1
  have hxP:=Bs hmx;have hzP:=Bs hmz;have c2:=XR p x z hmx hmz;have hxr:=hmx;have hzr:=hmz;simp only[A0,BZ,CX]at hxr hzr;by_cases hg:(BG p x).gen=(BG p z).gen
  ·have hoxF:(!kd||Bw p x z)=true→V2 p l kd x=true:=fun h=>by rw[V2,hz0,hmx,hg,h];simp
   cases hal:Bw p x z<;>rw[hal]at c2 hoxF<;>cases kd
   all_goals
    conv=>whnf
    repeat'((first|apply st|(apply sq;intro K U)|(apply si;intro A B Y Z)|(apply Y;clear Z B Y A)|(apply U;clear U K)|apply dr|refine⟨rfl,?_⟩|refine⟨nb,?_⟩|refine ix ?_|refine F6 ?_|refine E0 ?_|refine D2 ?_|refine Ig ?_|(refine CS (fun hc=>?_)<;>(try rw[hc])<;>clear hc)|refine Pure.use c1 ?_|refine Pure.use c2 ?_|(constructor<;>intro hc<;>(try rw[hc])<;>(replace hc:=bp hc))|clear U K)<;>conv=>whnf)
   all_goals try(exfalso;simp[hg]at hc;done)
   all_goals try exact AI (by rw[hbad (by simp[hal,hg])])
   all_goals
    have hox:=hoxF rfl;refine B4 i (fun k (_:Unit)=>[(8,eI (A6 k))]) (fun _ _=>[]) (fun k _=> ∀k' y,k'<k→l[k']? =some y→y≠x) () rfl (fun k' y h=>by omega) hs ?_;clear hs;rintro k - σ hk hne hs;rcases Nat.lt_or_ge k i with hki|hki
    ·obtain⟨y,hy⟩: ∃y,l[k]? =some y:=⟨_,Cu (by omega)⟩
     have hck:A6 k=k:=AL (by omega);by_cases hyx:y=x
     ·conv=>whnf
      repeat'((first|apply st|(apply sq;intro K U)|(apply si;intro A B Y Z)|(apply Y;clear Z B Y A)|(apply U;clear U K)|apply dr|refine⟨rfl,?_⟩|refine ix ?_|(constructor<;>intro hc<;>(try rw[hc])<;>(replace hc:=bp hc)<;>(try simp(disch:=omega) only[BE,wrap64,AL]at hc)<;>try(exfalso;omega))|clear U K)<;>conv=>whnf)
      exact AI (by rw[QU hx (hyx ▸ hy) hki])
     ·conv=>whnf
      repeat'((first|apply st|(apply sq;intro K U)|(apply si;intro A B Y Z)|(apply Y;clear Z B Y A)|(apply U;clear U K)|apply dr|refine⟨rfl,?_⟩|refine ix ?_|(constructor<;>intro hc<;>(try rw[hc])<;>(replace hc:=bp hc)<;>(try simp(disch:=omega) only[BE,wrap64,AL]at hc)<;>try(exfalso;omega))|clear U K)<;>conv=>whnf)
      refine⟨hki,(),rfl,fun k' y' h h2=>?_,hs⟩;rcases Nat.lt_or_ge k' k with h'|h'
      ·exact hne k' y' h' h2
      ·rw[show k'=k by omega,hy]at h2
       rw[←Option.some.inj h2];exact hyx
    ·have hck:A6 k=k:=AL (by omega)
     conv=>whnf
     repeat'((first|apply st|(apply sq;intro K U)|(apply si;intro A B Y Z)|(apply Y;clear Z B Y A)|(apply U;clear U K)|refine⟨rfl,?_⟩|(constructor<;>intro hc<;>(try rw[hc])<;>(replace hc:=bp hc)<;>(try simp(disch:=omega) only[BE,wrap64,AL]at hc)<;>try(exfalso;omega))|clear U K)<;>conv=>whnf)
     refine⟨hlt,(),rfl,⟨fun k' y' h h2=>?_,Ov hx hn fun k' y' h h2=>hne k' y' (by omega) h2⟩,hs⟩;rcases Nat.lt_or_ge k' i with h'|h'
     ·exact ho k' y' h' h2
     ·rw[show k'=i by omega,hx]at h2
      rw[←Option.some.inj h2];exact hox
  ·conv=>whnf
   repeat'((first|apply st|(apply sq;intro K U)|(apply si;intro A B Y Z)|(apply Y;clear Z B Y A)|(apply U;clear U K)|apply dr|refine⟨rfl,?_⟩|refine⟨nb,?_⟩|refine ix ?_|refine F6 ?_|refine D2 ?_|refine Ig ?_|(refine CS (fun hc=>?_)<;>(try rw[hc])<;>clear hc)|refine Pure.use c1 ?_|refine Pure.use c2 ?_|(constructor<;>intro hc<;>(try rw[hc])<;>(replace hc:=bp hc))|clear U K)<;>conv=>whnf)
   all_goals try(exfalso;have q:(bif !true then true else(BG p x).gen != (BG p z).gen)=false:=(by assumption);simp[hg]at q;done)
   all_goals exact AI (by rw[hbad (by simp[hg])])
 ·conv=>whnf
  repeat'((first|apply st|(apply sq;intro K U)|(apply si;intro A B Y Z)|(apply Y;clear Z B Y A)|(apply U;clear U K)|refine⟨rfl,?_⟩|(refine Dh (fun hc=>?_)<;>(try rw[hc])<;>clear hc)|clear U K)<;>conv=>whnf)
  have hall:DU p l kd=true:=by
   rw[DU,BZ,Em];refine⟨fun y hy=>?_,decide_eq_true (by rw[hie,List.take_length]at hn;exact hn)⟩;obtain⟨k,hk⟩:=List.getElem?_of_mem hy;exact ho k y (by rw[hie];exact(Hi.1 hk).1) hk
  exact AI (by rw[hall])
theorem OC: ∀(n:Nat) (l:List Int),l.Nodup→(∀x∈l,0≤x∧x<(n:Int))→l.length≤n
 | 0,l,_,h=>by
   cases l with
   | nil=>simp
   | cons x r=>have:=h x (.head _);omega
 | n + 1,l,hn,h=>by
   have h1:=OC n (l.erase (n:Int)) (hn.erase _) fun x hx=>by
    have hm:=(List.Nodup.mem_erase_iff hn).1 hx;have:=h x hm.2;have:=hm.1;omega
   have h2:=List.length_erase (a:=(n:Int)) (l:=l);split at h2<;>omega
theorem K1 {p:Prog} {l:List Int} (hok:DF p) (h:DU p l true=true):Jx p l∧l.Nodup:=by
 rw[DU,BZ,Em,CX]at h;obtain⟨h1,h2⟩:=h
 have hm: ∀x∈l,A0 p x=true∧Bw p x (l.getD 0 0)=true:=fun x hx=>by
  have:=h1 x hx;simp only[V2,BZ,Bool.not_true,Bool.false_or]at this;exact⟨this.1,this.2.2⟩
 refine⟨⟨fun x hx=>(hm x hx).1,fun x hx y hy=>?_,Nat.le_trans (OC p.methods.length l h2 fun x hx=>?_) hok.many⟩,h2⟩
 ·have a:=(hm x hx).2
  have b:=(hm y hy).2;simp only[Bw,BZ,D1]at a b ⊢;exact⟨a.1.trans b.1.symm,a.2.trans b.2.symm⟩
 ·have:=(hm x hx).1
  simp only[A0,BZ,CX]at this;omega
def Cx (p:Prog) (l:List Int):(List Int×Bool)×Int:=if(BO p).isSome&&DU p l true then(Ba (Ag p) l.length l,0)else(([],false),2)
def C0 (p:Prog) (l:List Int):List Int×Int:=if(BO p).isSome&&DU p l true then(DB (Ag p) l.length (Cd l),0)else([],2)
theorem fm (p:Prog) (l:List Int) (f:Bool) (hl:l.length≤1000): ∃g,Pure Tryz.prog 32 [.a (BK p),.l (iL l) f] (.t [.l (iL (Cx p l).1.1) g,.b (Cx p l).1.2,eI (Cx p l).2]):=by
 have c1:=Ul p;have c2:=Un p l f true hl;cases h1:(BO p).isSome<;>rw[h1]at c1
 ·refine⟨true,?_⟩
  refine Zg nb ?_;have hs:=Sn
  conv=>whnf
  repeat'((first|apply st|(apply sq;intro K U)|(apply si;intro A B Y Z)|(apply Y;clear Z B Y A)|(apply U;clear U K)|refine⟨nb,?_⟩|refine RI ?_|refine Pure.use c1 ?_|clear U K)<;>conv=>whnf)
  all_goals exact AI (by simp[Cx,h1])
 cases h2:DU p l true<;>rw[h2]at c2
 ·refine⟨true,?_⟩
  refine Zg nb ?_;have hs:=Sn
  conv=>whnf
  repeat'((first|apply st|(apply sq;intro K U)|(apply si;intro A B Y Z)|(apply Y;clear Z B Y A)|(apply U;clear U K)|refine⟨nb,?_⟩|refine E0 ?_|refine Ig ?_|refine Pure.use c1 ?_|refine Pure.use c2 ?_|clear U K)<;>conv=>whnf)
  all_goals exact AI (by simp[Cx,h1,h2])
 ·have hok:=look_ok h1
  have c3:=Yu p l f hok (K1 hok h2).1;refine⟨false,?_⟩;have e:Cx p l=(Ba (Ag p) l.length l,0):=by simp[Cx,h1,h2]
  rw[e];refine Zg nb ?_;have hs:=Sn
  conv=>whnf
  repeat'((first|apply st|(apply sq;intro K U)|(apply si;intro A B Y Z)|(apply Y;clear Z B Y A)|(apply U;clear U K)|refine⟨nb,?_⟩|refine D2 ?_|refine Ig ?_|refine Pure.use c1 ?_|refine Pure.use c2 ?_|refine Pure.use c3 ?_|fail)<;>conv=>whnf)
  all_goals exact AI rfl
theorem Yw (p:Prog) (l:List Int) (f:Bool) (hl:l.length≤1000): ∃g,Pure Tryz.prog 34 [.a (BK p),.l (iL l) f] (.t [.l (iL (C0 p l).1) g,eI (C0 p l).2]):=by
 have c1:=Ul p;have c2:=Un p l f true hl;cases h1:(BO p).isSome<;>rw[h1]at c1
 ·refine⟨true,?_⟩
  refine Zf nb ?_;have hs:=Sn
  conv=>whnf
  repeat'((first|apply st|(apply sq;intro K U)|(apply si;intro A B Y Z)|(apply Y;clear Z B Y A)|(apply U;clear U K)|refine⟨nb,?_⟩|refine RI ?_|refine Pure.use c1 ?_|clear U K)<;>conv=>whnf)
  all_goals exact AI (by simp[C0,h1])
 cases h2:DU p l true<;>rw[h2]at c2
 ·refine⟨true,?_⟩
  refine Zf nb ?_;have hs:=Sn
  conv=>whnf
  repeat'((first|apply st|(apply sq;intro K U)|(apply si;intro A B Y Z)|(apply Y;clear Z B Y A)|(apply U;clear U K)|refine⟨nb,?_⟩|refine E0 ?_|refine Ig ?_|refine Pure.use c1 ?_|refine Pure.use c2 ?_|clear U K)<;>conv=>whnf)
  all_goals exact AI (by simp[C0,h1,h2])
 ·have hok:=look_ok h1
  have c3:=UN p l f hok (K1 hok h2).1;refine⟨false,?_⟩;have e:C0 p l=(DB (Ag p) l.length (Cd l),0):=by simp[C0,h1,h2]
  rw[e];refine Zf nb ?_;have hs:=Sn
  conv=>whnf
  repeat'((first|apply st|(apply sq;intro K U)|(apply si;intro A B Y Z)|(apply Y;clear Z B Y A)|(apply U;clear U K)|refine⟨nb,?_⟩|refine D2 ?_|refine Ig ?_|refine Pure.use c1 ?_|refine Pure.use c2 ?_|refine Pure.use c3 ?_|fail)<;>conv=>whnf)
  all_goals exact AI rfl
abbrev pI (p:Int×Int):List V:=[eI p.1,eI p.2]
abbrev pP (l:List (Int×Int)):List (List V):=l.map pI
theorem N2:EP pI 2:=fun x=>⟨rfl,fun v hv=>by
 simp only[pI,GB,List.not_mem_nil,or_false]at hv
 rcases hv with rfl|rfl<;>rfl⟩
def Nf (p:Prog) (g:Int):Bool:=decide (0≤g)&&decide (g<(p.DA.length:Int))
def Sp (k:Int):Bool:=decide (1≤k)&&decide (k≤4)
def KV (n:Nat) (f:Nat→Nat→Bool) (i:Nat):List (Int×Int):=((List.range n).filter (f i)).map fun(j:Nat)=>((i:Int),(j:Int))
def RO (n:Nat) (f:Nat→Nat→Bool):List (Int×Int):=(List.range n).flatMap (KV n f)
def IY (p:Prog) (gen kind:Int) (i j:Nat):Bool:=(BG p i).gen==gen&&((BG p i).kind==kind&&(Bw p i j&&Ag p i j))
def Gh (p:Prog) (gen kind:Int):List (Int×Int)×Int:=if(BO p).isSome&&(Nf p gen&&Sp kind)then(RO p.methods.length (IY p gen kind),0)else([],2)
theorem He (n:Nat) (f:Nat→Nat→Bool) (k:Nat):(List.range (k+1)).flatMap (KV n f)=(List.range k).flatMap (KV n f)++KV n f k:=by
 rw[List.range_succ,List.flatMap_append];simp
def Le (f:Nat→Nat→Bool) (i k:Nat):List (Int×Int):=((List.range k).filter (f i)).map fun(j:Nat)=>((i:Int),(j:Int))
theorem JO (f:Nat→Nat→Bool) (i k:Nat):Le f i (k+1)=Le f i k++(if f i k then [((i:Int),(k:Int))]else []):=by
 rw[Le,List.range_succ,List.filter_append,SN,Le];cases h:f i k<;>simp[h]
theorem Ri (f:Nat→Nat→Bool) (i k:Nat):(Le f i k).length≤k:=by
 rw[Le,BE];exact Nat.le_trans (LV _ _) (by simp)
theorem NT (n:Nat) (f:Nat→Nat→Bool) (k:Nat):((List.range k).flatMap (KV n f)).length≤k*n:=by
 induction k with
 | zero=>simp
 | succ k ih=>
   rw[He,PT,Nat.succ_mul];have:=Ri f k n;have e:KV n f k=Le f k n:=rfl;rw[e];omega
def SP (p:Prog) (gen:Int) (i j:Nat):Bool:=decide (i<j)&&((BG p i).gen==gen&&(Bw p i j&&(Dc p i j&&Dc p j i)))
def Lo (p:Prog) (gen:Int):List (Int×Int)×Int:=if(BO p).isSome&&Nf p gen then(RO p.methods.length (SP p gen),0)else([],2)
theorem Tr (xs ys:List (Int×Int)) (f g:Bool) (hl:xs.length≤1000) (hm:ys.length≤1000):Pure Tryz.prog 19 [.l (pP xs) f,.l (pP ys) g] (.b (xs==ys)):=by
 have hM:=Mx;refine qq nb ?_;have hs:=Sn;by_cases hlen:xs.length=ys.length
 ·conv=>whnf
  repeat'((first|apply st|(apply sq;intro K U)|(apply si;intro A B Y Z)|(apply Y;clear Z B Y A)|(apply U;clear U K)|refine⟨rfl,?_⟩|(constructor<;>intro hc<;>(try rw[hc])<;>(replace hc:=bp hc)<;>(try simp(disch:=omega) only[BE,wrap64,AL]at hc)<;>try(exfalso;omega))|fail)<;>conv=>whnf)
  refine B4 xs.length (fun k (_:Unit)=>[(5,eI (A6 k))]) (fun _ _=>[]) (fun k _=>(xs==ys)=(xs.drop k==ys.drop k)) () rfl rfl Sat.nil ?_;clear hs;rintro k - σ hk hn hs;rcases BH xs hk with⟨x,hx,hlt⟩|hke
  ·obtain⟨y,hy⟩: ∃y,ys[k]? =some y:=⟨_,Cu (by omega)⟩
   rw[drop_cons hx,drop_cons hy]at hn
   conv=>whnf
   repeat'((first|apply st|(apply sq;intro K U)|(apply si;intro A B Y Z)|(apply Y;clear Z B Y A)|(apply U;clear U K)|apply dr|refine⟨rfl,?_⟩|refine⟨nb,?_⟩|refine ix ?_|(refine CS (fun hc=>?_)<;>(try rw[hc])<;>clear hc)|(constructor<;>intro hc<;>(try rw[hc])<;>(replace hc:=bp hc)<;>(try simp(disch:=omega) only[BE,wrap64,AL]at hc))|clear U K)<;>conv=>whnf)
   ·refine AI ?_
    rw[hn];congr 1;rw[Bool.and_true]at hc;rw[List.cons_beq_cons,show(x==y)=(x.1==y.1&&x.2==y.2) from rfl,hc];rfl
   ·refine⟨hlt,(),rfl,?_,hs⟩
    rw[Bool.and_true]at hc;rw[hn,List.cons_beq_cons,show(x==y)=(x.1==y.1&&x.2==y.2) from rfl,hc,Fm]
  ·conv=>whnf
   repeat'((first|apply st|(apply sq;intro K U)|(apply si;intro A B Y Z)|(apply Y;clear Z B Y A)|(apply U;clear U K)|refine⟨rfl,?_⟩|(refine Dh (fun hc=>?_)<;>(try rw[hc])<;>clear hc)|clear U K)<;>conv=>whnf)
   exact AI (by rw[hn,Al hke,Al (by omega)];rfl)
 ·conv=>whnf
  repeat'((first|apply st|(apply sq;intro K U)|(apply si;intro A B Y Z)|(apply Y;clear Z B Y A)|(apply U;clear U K)|refine⟨rfl,?_⟩|(constructor<;>intro hc<;>(try rw[hc])<;>(replace hc:=bp hc)<;>(try simp(disch:=omega) only[BE,wrap64,AL]at hc)<;>try(exfalso;omega))|clear U K)<;>conv=>whnf)
  exact AI (by(have:(xs==ys)=false:=by(simp;intro e;subst e;exact hlen rfl));rw[this])
theorem Zb (p:Prog) (L:Nat) (g:Int):Pure Tryz.prog 49 [Fs p L,eI g] (.b (Nf p g)):=by
 refine Pure.fit (by kernel_rfl) fun hf=>?_
 have hM:=Mx;refine gu nb ?_;have hs:=Sn
 conv=>whnf
 repeat'((first|apply st|(apply sq;intro K U)|(apply si;intro A B Y Z)|(apply Y;clear Z B Y A)|(apply U;clear U K)|refine⟨rfl,?_⟩|(constructor<;>intro hc<;>(try rw[hc])<;>(replace hc:=bp hc))|fail)<;>conv=>whnf)
 all_goals exact AI (by simp[Nf, *]<;>omega)
theorem Us (g:Int):Pure Tryz.prog 49 [.pn,eI g] (.b false):=by
 refine gu nb ?_;have hs:=Sn
 conv=>whnf
 repeat'((first|apply st|(apply sq;intro K U)|(apply si;intro A B Y Z)|(apply Y;clear Z B Y A)|(apply U;clear U K)|refine D2 ?_|fail)<;>conv=>whnf)
 all_goals exact AI rfl
theorem Xb (p:Prog) (L:Nat) (g:Int):Pure Tryz.prog 50 [Fs p L,eI g] (.f (.func 75) [] [.rp [Fs p L],.rp [eI g]]):=by
 refine qa nb ?_;have hs:=Sn
 conv=>whnf
 repeat'((first|apply st|(apply sq;intro K U)|(apply si;intro A B Y Z)|(apply Y;clear Z B Y A)|(apply U;clear U K)|fail)<;>conv=>whnf)
 all_goals exact AI rfl
theorem aM (xs:List (Int×Int)) (v:V) (hl:xs.length≤Ad):Bh Tryz.prog 51 [v] [.own v 2 (pP xs)] fun r post=>r= .ret (.l (pP xs) true)∧post= []:=by
 intro σ hs;have hg:=Cl N2 xs;refine qZ nb ?_
 conv=>whnf
 repeat'((first|(apply sq;intro K U)|(apply si;intro A B Y Z)|(apply Y;clear Z B Y A)|(apply U;clear U K)|refine lo ?_|fail)<;>conv=>whnf)
 refine WG (i:=0) hs rfl hg.1 (by simpa using hl) fun σ hs=>?_
 conv=>whnf
 repeat'((first|apply st|(apply Y;clear Z B Y A)|(apply U;clear U K)|fail)<;>conv=>whnf)
 exact Ao hs (List.Sublist.refl _) (.refl _) fun σ' hs'=>⟨_,⟨rfl,rfl⟩,hs'⟩
def Cn (pB:Int) (v:Int×Int):Bool:=
 if v.1=1 then decide (-1000000000≤v.2)&&decide (v.2≤1000000000)else if v.1=2 then v.2==0 else if v.1=3 then decide (0≤v.2)&&decide (v.2<pB)else false
theorem dq (v:Int×Int) (n:Int):Pure Tryz.prog 80 [.a (pI v),eI n] (.b (Cn n v)):=by
 obtain⟨k,x⟩:=v;refine qJ nb ?_;have hs:=Sn
 conv=>whnf
 repeat'((first|apply st|(apply sq;intro K U)|(apply si;intro A B Y Z)|(apply Y;clear Z B Y A)|(apply U;clear U K)|refine⟨rfl,?_⟩|(constructor<;>intro hc<;>(try rw[hc])<;>(replace hc:=bp hc)<;>(try simp(disch:=omega) only[BE,wrap64,AL]at hc))|clear U K)<;>conv=>whnf)
 all_goals exact AI (by simp[Cn, *]<;>omega)
def ZK (w:AK) (c:Int):Bool:=decide (3≤c)&&decide (c<3+(w.parents.length:Int))
def Dd (w:AK) (c:Int):List Int:=(Bu w.owner.length).filter (hasB w c)
abbrev Ob:=Int×List (Int×Int)
abbrev Ii (o:Ob):List V:=[eI o.1,.l (pP o.2) false]
def Uc (w:AK) (n:Int) (o:Ob):Bool:=ZK w o.1&&(o.2.length==(Dd w o.1).length&&o.2.all (Cn n))
def IJ (w:AK) (os:List Ob):Bool:=decide (os.length≤40)&&os.all (Uc w os.length)
end Go.Gl
namespace Go.Gl
open Go.Proofs
section
variable {H:Type} {enc:TypeId×Value→H} {W:World}
end
end Go.Gl
namespace Go.Proofs.YtijbpgdmpejgoaaGreat
open Go.Gl Go.ChangeShapes Go.WideShapes Go.ChangeAt Go.RowKit
theorem own:ownKnob Tryz.prog.godebug=none:=by kernel_rfl
theorem laidOut:laidOutB Tryz.prog=true:=by kernel_rfl
theorem B5 {a b:Bool} (h1:a=true) (h2:b=true):(a&&b)=true:=by rw[h1,h2];rfl
abbrev HE (w:World):=Hh (fun _=>False) emp w
theorem gI {w:World} {cs:Array Value} {p:Prog} (hp:cs.toList.length=(BK p).length∧Be (HE w) (fun i=>cs.toList[i]?) 0 (BK p)):Ae (HE w) (.a (BK p)) (.agg cs):=by
 simp only[Ae];exact⟨cs,rfl,by simpa using hp.1,by simpa using hp.2⟩
end Go.Proofs.YtijbpgdmpejgoaaGreat
namespace Go.Gl
open Go.Proofs
attribute [local irreducible] BL A4 Aj AW AM Ai AV AX AN Ah AS AU A8 BJ Sat Ac BF Ak W
theorem Ta (g:FuncId) (fi ca:List V) (q:Int→Bool) (xs:List Int) (hpf: ∀y∈xs,Pure Tryz.prog g (fi++[eI y]++ca) (.b (q y))) (f:Bool) (hxl:xs.length≤1000):Pure Tryz.prog 83 [.l (iL xs) f,.f (.func g) fi ca] (.l (iL (xs.filter q)) true):=by
 refine Pure.of ?_;have hM:=Mx;refine qH nb ?_;have hs:=Sn
 conv=>whnf
 repeat'((first|apply st|(apply sq;intro K U)|(apply si;intro A B Y Z)|(apply Y;clear Z B Y A)|(apply U;clear U K)|fail)<;>conv=>whnf)
 refine B4 xs.length (fun k v=>[(5,v),(10,eI (A6 k))]) (fun k v=>[.own v 1 (iL ((xs.take k).filter q))]) (fun _ _=>True) (.l [] true) rfl trivial (Ey hs 1) ?_;clear hs;rintro k v σ hk - hs;have hfl:=LV q (xs.take k);rw[LW]at hfl;rcases BH xs hk with⟨y,hy,hlt⟩|hke
 ·have hpy:=hpf y (B2 hy)
  have hst:(xs.take (k+1)).filter q=if q y then(xs.take k).filter q++[y]else(xs.take k).filter q:=by
   rw[AR hy,List.filter_append];cases hp:q y<;>simp[hp]
  generalize (xs.take k).filter q=zs at *;have hll:zs.length<Ad∧(zs.length+1)*8≤140737488355328:=by omega
  conv=>whnf
  repeat'((first|apply st|(apply sq;intro K U)|(apply si;intro A B Y Z)|(apply Y;clear Z B Y A)|(apply U;clear U K)|refine⟨rfl,?_⟩|refine ix ?_|refine aq fun v σ hs hsl=>?_|(refine CS (fun hc=>?_)<;>(try rw[hc])<;>clear hc)|refine Bp (Pure.use hpy ?_)|(constructor<;>intro hc<;>(try rw[hc])<;>(replace hc:=bp hc))|clear U K)<;>conv=>whnf)
  ·rw[if_pos (by assumption)]at hst
   exact⟨hlt,_,rfl,trivial,by rw[hst];exact hs⟩
  ·rw[if_neg (by simp[*])]at hst
   exact⟨hlt,_,rfl,trivial,by rw[hst];exact hs⟩
 ·rw[Ar hke]at hs
  conv=>whnf
  repeat'((first|apply st|(apply sq;intro K U)|(apply si;intro A B Y Z)|(apply Y;clear Z B Y A)|(apply U;clear U K)|refine⟨rfl,?_⟩|(refine Dh (fun hc=>?_)<;>(try rw[hc])<;>clear hc)|clear U K)<;>conv=>whnf)
  refine(N3 (xs.filter q) v (by have:=LV q xs;omega)).use (rest:=[]) (by simpa using hs) ?_;clear hs;rintro r post σ ⟨rfl,rfl⟩ hs
  conv=>whnf
  repeat'((first|apply st|(apply Y;clear Z B Y A)|(apply U;clear U K)|fail)<;>conv=>whnf)
  exact AO (by rfl)
theorem pX (x y:Int):Pure Tryz.prog 132 [eI y,.rp [eI x]] (.b (y != x)):=by
 refine nI nb ?_;have hs:=Sn
 conv=>whnf
 repeat'((first|apply st|(apply sq;intro K U)|(apply si;intro A B Y Z)|(apply Y;clear Z B Y A)|(apply U;clear U K)|refine⟨rfl,?_⟩|fail)<;>conv=>whnf)
 all_goals exact AI (by rfl)
theorem Lz (xs:List Int) (f:Bool) (x:Int) (hxl:xs.length≤1000):Pure Tryz.prog 98 [.l (iL xs) f,eI x] (.l (iL (xs.filter (· != x))) true):=by
 have c1:=Ta 132 [] [.rp [eI x]] (· != x) xs (fun y _=>pX x y) f hxl;refine p8 nb ?_;have hs:=Sn
 conv=>whnf
 repeat'((first|apply st|(apply sq;intro K U)|(apply si;intro A B Y Z)|(apply Y;clear Z B Y A)|(apply U;clear U K)|refine Pure.use c1 ?_|fail)<;>conv=>whnf)
 all_goals exact AI (by rfl)
end Go.Gl
namespace Go.Gl
open Go.Proofs
attribute [local irreducible] BL A4 Aj AW AM Ai AV AX AN Ah AS AU A8 BJ Sat Ac BF Ak W
theorem Ro (l:List Int) (f kd:Bool):Pure Tryz.prog 66 [.pn,.l (iL l) f,.b kd] (.b false):=by
 have c1:=Z2 l f;refine Zd nb ?_;have hs:=Sn
 conv=>whnf
 repeat'((first|apply st|(apply sq;intro K U)|(apply si;intro A B Y Z)|(apply Y;clear Z B Y A)|(apply U;clear U K)|refine E0 ?_|refine Pure.use (by assumption) ?_|clear U K)<;>conv=>whnf)
 all_goals exact AI rfl
theorem bP {M:List Int} {x:Int} (h:M.contains x=false):Nc M x=M++[x]:=by
 rw[Nc,if_neg (by rw[h];decide)]
set_option maxHeartbeats 2000000 in
theorem Um (p:Prog) (L:Nat) (l:List Int) (f kd:Bool) (hl:l.length≤1000):Pure Tryz.prog 66 [Fs p L,.l (iL l) f,.b kd] (.b (DU p l kd)):=by
 refine Pure.fit (by kernel_rfl) fun hf=>?_
 have hM:=Mx;have c1:=gd p L l f;cases hm:l.all (A0 p)<;>rw[hm]at c1
 ·have hb:DU p l kd=false:=by
   rw[←Bool.not_eq_true];intro h;rw[DU,BZ,Em]at h;rw[←Bool.not_eq_true,Em]at hm;refine hm fun x hx=>?_
   have:=h.1 x hx;simp only[V2,BZ]at this;exact this.1
  refine Zd nb ?_;have hs:=Sn
  conv=>whnf
  repeat'((first|apply st|(apply sq;intro K U)|(apply si;intro A B Y Z)|(apply Y;clear Z B Y A)|(apply U;clear U K)|refine E0 ?_|refine Pure.use c1 ?_|clear U K)<;>conv=>whnf)
  all_goals exact AI (by rw[hb])
 rw[Em]at hm;refine Zd nb ?_;have hs:=Sn
 conv=>whnf
 repeat'((first|apply st|(apply sq;intro K U)|(apply si;intro A B Y Z)|(apply Y;clear Z B Y A)|(apply U;clear U K)|refine D2 ?_|refine Pure.use c1 ?_|(intro nn hnn;generalize hg:BC _ nn _=σ;refine Cm hg fun hs=>?_;clear hg)|fail)<;>conv=>whnf)
 clear c1;replace hs:Sat σ [.map nn (Q8 [])]:=hs;refine B4 l.length (fun i (_:Unit)=>[(17,eI (A6 i))]) (fun i _=>[.map nn (Q8 (l.take i))]) (fun i _=>(∀k y,k<i→l[k]? =some y→V2 p l kd y=true)∧(l.take i).Nodup) () rfl ⟨fun k y h=>by omega,by simp⟩ hs ?_;clear hs;rintro i - σ hi ⟨ho,hn⟩ hs;rcases BH l hi with⟨x,hx,hlt⟩|hie
 ·have hci : A6 i=i:=AL (by omega)
  obtain⟨z,hz⟩: ∃z,l[0]? =some z:=⟨_,Cu (by omega)⟩
  have hz0:=CG hz;have hmx:=hm x (B2 hx);have hmz:=hm z (B2 hz);have hbad:=fun h=>QV (p:=p) (kd:=kd) hx h
  rw[V2,hz0]at hbad;have hxP:=Bs hmx;have hzP:=Bs hmz;have c2:=NW p L x z hmx hmz;have hxr:=hmx;have hzr:=hmz;simp only[A0,BZ,CX]at hxr hzr;cases hcon:(l.take i).contains x
  ·have hne : ∀k y,k<i→l[k]? =some y→y≠x:=fun k y h h2 e=>by
    rw[←Bool.not_eq_true,List.contains_iff_mem]at hcon;exact hcon (B2 (i:=k) (by rw[List.getElem?_take,if_pos h,h2,e]))
   have hnd:=Ov hx hn hne;have hput:=bP hcon;rw[←AR hx]at hput;by_cases hg:(BG p x).gen=(BG p z).gen
   ·have hoxF:(!kd||Bw p x z)=true→V2 p l kd x=true:=fun h=>by rw[V2,hz0,hmx,hg,h];simp
    cases hal:Bw p x z<;>rw[hal]at c2 hoxF<;>cases kd
    all_goals
     conv=>whnf
     repeat'((first|apply st|(apply sq;intro K U)|(apply si;intro A B Y Z)|(apply Y;clear Z B Y A)|(apply U;clear U K)|apply dr|refine⟨rfl,?_⟩|refine ix ?_|refine F6 ?_|refine E0 ?_|refine D2 ?_|(refine CS (fun hc=>?_)<;>(try rw[hc])<;>clear hc)|refine Pure.use c2 ?_|(refine JF hs 0 rfl rfl (HV _) ?_;rw[K2,hcon])|(refine Hu hs 0 rfl rfl (HV _) fun σ hs=>?_)|(constructor<;>intro hc<;>(try rw[hc])<;>(replace hc:=bp hc)<;>try(exfalso;omega))|clear U K)<;>conv=>whnf)
    all_goals first
     | exact AI (by rw[hbad (by simp[hal,hg])])
     | (exfalso;simp[hg]at hc;done)
     | (have hox:=hoxF rfl
        refine⟨hlt,(),rfl,⟨fun k' y' h h2=>?_,hnd⟩,?_⟩
        ·rcases Nat.lt_or_ge k' i with h'|h'
         ·exact ho k' y' h' h2
         ·rw[show k'=i by omega,hx]at h2
          rw[←Option.some.inj h2];exact hox
        ·replace hs:Sat σ [.map nn (EO (eI x) (.b true) (Q8 (l.take i)))]:=hs
         rw[Wr,hput]at hs
         exact hs)
   ·conv=>whnf
    repeat'((first|apply st|(apply sq;intro K U)|(apply si;intro A B Y Z)|(apply Y;clear Z B Y A)|(apply U;clear U K)|apply dr|refine⟨rfl,?_⟩|refine ix ?_|refine F6 ?_|(refine CS (fun hc=>?_)<;>(try rw[hc])<;>clear hc)|(refine JF hs 0 rfl rfl (HV _) ?_;rw[K2,hcon])|(constructor<;>intro hc<;>(try rw[hc])<;>(replace hc:=bp hc)<;>try(exfalso;omega))|clear U K)<;>conv=>whnf)
    all_goals first
     | exact AI (by rw[hbad (by simp[hg])])
     | (exfalso;have q:(BG p x).gen=(BG p z).gen:=(by assumption);exact hg q)
     | (exfalso;simp[hg]at hc;done)
  ·obtain⟨k,hk⟩:=List.getElem?_of_mem (List.contains_iff_mem.1 hcon)
   rw[List.getElem?_take]at hk;split at hk
   ·conv=>whnf
    repeat'((first|apply st|(apply sq;intro K U)|(apply si;intro A B Y Z)|(apply Y;clear Z B Y A)|(apply U;clear U K)|apply dr|refine⟨rfl,?_⟩|refine ix ?_|(refine CS (fun hc=>?_)<;>(try rw[hc])<;>clear hc)|(refine JF hs 0 rfl rfl (HV _) ?_;rw[K2,hcon])|clear U K)<;>conv=>whnf)
    all_goals exact AI (by rw[QU hx hk (by assumption)])
   ·cases hk
 ·conv=>whnf
  repeat'((first|apply st|(apply sq;intro K U)|(apply si;intro A B Y Z)|(apply Y;clear Z B Y A)|(apply U;clear U K)|refine⟨rfl,?_⟩|(refine Dh (fun hc=>?_)<;>(try rw[hc])<;>clear hc)|clear U K)<;>conv=>whnf)
  have hall:DU p l kd=true:=by
   rw[DU,BZ,Em];refine⟨fun y hy=>?_,decide_eq_true (by rw[hie,List.take_length]at hn;exact hn)⟩;obtain⟨k,hk⟩:=List.getElem?_of_mem hy;exact ho k y (by rw[hie];exact(Hi.1 hk).1) hk
  exact AI (by rw[hall])
def Ll (M:List (Int×Int)) (x:Int×Int):List (Int×Int):=if M.contains x then M else M++[x]
def Nk (p:Prog) (M:List (Int×Int)) (m n:Int):List (Int×Int):=if Dc p m n then Ll (Ll M (m,n)) (n,m)else Ll M (m,n)
theorem H6 (p:Prog) (L:Nat) (m n:Int) (hk:DF p) (hgw:CR (AP p)) (hfm: ∀x∈p.methods,Ce (AP p) x.fact=true) (hm:A0 p m=true) (hn:A0 p n=true) (M:List (Int×Int)) :
 Bh Tryz.prog 54 [Fs p L,eI m,eI n] [.map L (FK p M)] fun r post=>r= .ret (.b (Dc p m n))∧post= [.map L (FK p (Ll M (m,n)))]:=by
 intro σ hs;have hxm:=Bs hm;have hxn:=Bs hn;have hmm:=B2 hxm;have hmn:=B2 hxn;have hip:=Q4 (AP p) hgw (BG p m).fact (BG p n).fact (hfm _ hmm) (hfm _ hmn) (hk.facts _ hmm).1 (hk.facts _ hmn).1 (by have:=(hk.facts _ hmm).2;have:=(hk.facts _ hmn).2;omega);simp only[A0,BZ,CX]at hm hn;have hfd:=OG p (m,n) M;refine gr nb ?_;cases hc:M.contains (m,n)
 ·rw[hc,if_neg (by decide)]at hfd
  conv=>whnf
  repeat'((first|apply st|(apply sq;intro K U)|(apply si;intro A B Y Z)|(apply Y;clear Z B Y A)|(apply U;clear U K)|apply dr|refine⟨nb,?_⟩|refine F6 ?_|refine ld ?_|refine Dm fun σ hs=>?_|refine E0 ?_|refine Lt hs 1 rfl rfl (HU _ _) hfd ?_|refine Hu hs 1 rfl rfl (HU _ _) fun σ hs=>?_|refine Pure.use hip ?_|(intro nn hnn;generalize hg:BC _ nn _=σ;refine Cm hg fun hs=>?_;clear hg)|fail)<;>conv=>whnf)
  replace hs:Sat σ [.box nn [eI m,eI n],.map L (EO (kM (m,n)) (.b (Dc p m n)) (FK p M))]:=hs;rw[Rr p (m,n) M hc]at hs;exact AO ⟨_,⟨rfl,rfl⟩,by rw[Ll,hc];exact hs.less (Jn _ _)⟩
 ·rw[hc,if_pos rfl]at hfd
  conv=>whnf
  repeat'((first|apply st|(apply sq;intro K U)|(apply si;intro A B Y Z)|(apply Y;clear Z B Y A)|(apply U;clear U K)|apply dr|refine⟨nb,?_⟩|refine ld ?_|refine Dm fun σ hs=>?_|refine D2 ?_|refine Lt hs 1 rfl rfl (HU _ _) hfd ?_|(intro nn hnn;generalize hg:BC _ nn _=σ;refine Cm hg fun hs=>?_;clear hg)|fail)<;>conv=>whnf)
  exact AO ⟨_,⟨rfl,rfl⟩,by rw[Ll,hc];exact hs.less (Jn _ _)⟩
theorem OZ (p:Prog) (L:Nat) (m n:Int) (hk:DF p) (hgw:CR (AP p)) (hfm: ∀x∈p.methods,Ce (AP p) x.fact=true) (hm:A0 p m=true) (hn:A0 p n=true) (M:List (Int×Int)) :
 Bh Tryz.prog 45 [Fs p L,eI m,eI n] [.map L (FK p M)] fun r post=>r= .ret (.b (Ag p m n))∧post= [.map L (FK p (Nk p M m n))]:=by
 intro σ hs;have h1:=fun M=>H6 p L m n hk hgw hfm hm hn M
 have h2:=fun M=>H6 p L n m hk hgw hfm hn hm M
 unfold Ag Nk;cases hb1:Dc p m n<;>cases hb2:Dc p n m<;>rw[hb1]at h1<;>rw[hb2]at h2
 all_goals
  refine gv nb ?_
  conv=>whnf
  repeat'((first|(apply sq;intro K U)|(apply si;intro A B Y Z)|(apply Y;clear Z B Y A)|(apply U;clear U K)|fail)<;>conv=>whnf)
  refine(h1 M).use (rest:=[]) (by simpa using hs) ?_;clear hs;rintro r post σ ⟨rfl,rfl⟩ hs
  conv=>whnf
  repeat'((first|apply st|(apply Y;clear Z B Y A)|(apply U;clear U K)|fail)<;>conv=>whnf)
 ·exact AO ⟨_,⟨rfl,rfl⟩,hs⟩
 ·exact AO ⟨_,⟨rfl,rfl⟩,hs⟩
 all_goals
  refine(h2 _).use (rest:=[]) (by simpa using hs) ?_;clear hs;rintro r post σ ⟨rfl,rfl⟩ hs
  conv=>whnf
  repeat'((first|apply st|(apply Y;clear Z B Y A)|(apply U;clear U K)|fail)<;>conv=>whnf)
  exact AO ⟨_,⟨rfl,rfl⟩,hs⟩
theorem F4: ∀ {l:List Int} {i:Nat} {x:Int},l.Nodup→l[i]? =some x→l.filter (· != x)=l.eraseIdx i
 | y::r,0,x,hn,hx=>by
   obtain rfl:y=x:=by simpa using hx
   rw[List.nodup_cons]at hn;rw[List.filter_cons,if_neg (by simp),List.eraseIdx_cons_zero];exact List.filter_eq_self.2 fun z hz=>by rw[uj];rintro rfl;exact hn.1 hz
 | y::r,i+1,x,hn,hx=>by
   rw[List.nodup_cons]at hn;rw[oh]at hx;have hyx:y≠x:=fun e=>hn.1 (e ▸ B2 hx)
   rw[List.filter_cons,if_pos (by simpa using hyx),List.eraseIdx_cons_succ,F4 hn.2 hx]
theorem Yf {A:Int→Int→Bool} {l:List Int} {i:Nat} (hi:i<l.length) (h:Gr A l i l.length=true) (hn: ∀j,j<i→Gr A l j l.length=false):Eb A l=some i:=by
 rw[Eb,List.find?_range_eq_some];exact⟨h,List.mem_range.2 hi,fun j hj=>by rw[hn j hj];rfl⟩
theorem Yd {A:Int→Int→Bool} {l:List Int} (hn: ∀j,j<l.length→Gr A l j l.length=false):Eb A l=none:=by
 rw[Eb,List.find?_range_eq_none];exact fun j hj=>by rw[hn j hj];rfl
theorem dx {A:Int→Int→Bool} {l:List Int} {i k n:Nat} (hk:k<n) (h:(k==i||A (l.getD i 0) (l.getD k 0))=false):Gr A l i n=false:=by
 rw[Gr,←Bool.not_eq_true,Em];intro h2;rw[h2 k (List.mem_range.2 hk)]at h;cases h
theorem bc {l:List Int} (hn:l.Nodup) {i k:Nat} {x y:Int} (hx:l[i]? =some x) (hy:l[k]? =some y) (h:k≠i):x≠y:=by
 rintro rfl;have hi:=(Hi.1 hx)
 have hj:=(Hi.1 hy)
 have:=(List.nodup_iff_pairwise_ne.1 hn)
 rw[List.pairwise_iff_getElem]at this;rcases Nat.lt_or_gt_of_ne h with h'|h'
 ·exact this k i hj.1 hi.1 h' (by rw[hj.2,hi.2])
 ·exact this i k hi.1 hj.1 h' (by rw[hj.2,hi.2])
set_option maxHeartbeats 4000000 in
theorem R0 (p : Prog) (L:Nat) (l:List Int) (f:Bool) (hok:DF p) (hgw:CR (AP p)) (hfm: ∀x∈p.methods,Ce (AP p) x.fact=true) (hl:Jx p l) (hnd:l.Nodup) (M:List (Int×Int)) :
 Bh Tryz.prog 67 [Fs p L,.l (iL l) f] [.map L (FK p M)] fun r post=>r= .ret (.t [.l (iL (Ba (Ag p) l.length l).1) true,.b (Ba (Ag p) l.length l).2])∧ ∃M',post= [.map L (FK p M')]:=by
 intro σ hs;have hM:=Mx;refine qT nb ?_
 conv=>whnf
 repeat'((first|apply st|(apply sq;intro K U)|(apply si;intro A B Y Z)|(apply Y;clear Z B Y A)|(apply U;clear U K)|fail)<;>conv=>whnf)
 refine EF (fun(x:List Int×Bool×V×List Int×List (Int×Int))=>x.1.length) (fun x=>[(1,.l (iL x.1) x.2.1),(6,x.2.2.1)]) (fun x=>[.own x.2.2.1 1 (iL x.2.2.2.1),.map L (FK p x.2.2.2.2)])
  (fun x=>(∀y∈x.1,A0 p y=true)∧x.1.Nodup∧x.2.2.2.1.length+x.1.length≤16∧Ba (Ag p) l.length l=(x.2.2.2.1++(Ba (Ag p) x.1.length x.1).1,(Ba (Ag p) x.1.length x.1).2)) (l,f,.l [] true,[],M) rfl ⟨hl.HK,hnd,by simpa using hl.many,by simp⟩ (Cv hs 1) ?_
 clear hs;rintro⟨l',f',v,out,M⟩ σ ⟨hme,hn,hlen,hm⟩ hs;dsimp only at hme hn hlen hm hs;dsimp only;have hll:out.length<Ad∧(out.length+1)*8≤140737488355328:=by omega
 by_cases hz:l'.length=0
 ·rw[hz]at hm
  simp only[Ba,Hj]at hm
  conv=>whnf
  repeat'((first|apply st|(apply sq;intro K U)|(apply si;intro A B Y Z)|(apply Y;clear Z B Y A)|(apply U;clear U K)|refine⟨rfl,?_⟩|(constructor<;>intro hc<;>(try rw[hc])<;>(replace hc:=bp hc)<;>(try simp(disch:=omega) only[BE,wrap64,AL]at hc)<;>try(exfalso;omega))|clear U K)<;>conv=>whnf)
  refine(N3 out v (by omega)).use (rest:=[_]) hs ?_;clear hs;rintro r post σ ⟨rfl,rfl⟩ hs
  conv=>whnf
  repeat'((first|apply st|(apply Y;clear Z B Y A)|(apply U;clear U K)|fail)<;>conv=>whnf)
  exact AO ⟨_,⟨by rw[hm],M,rfl⟩,hs⟩
 ·obtain ⟨n,hnn⟩: ∃n,l'.length=n+1:=⟨l'.length - 1,by omega⟩
  have hne:l'.isEmpty=false:=by cases l' with
   | nil=>simp at hz
   | cons=>rfl
  rw[hnn,Ba]at hm
  conv=>whnf
  repeat'((first|apply st|(apply sq;intro K U)|(apply si;intro A B Y Z)|(apply Y;clear Z B Y A)|(apply U;clear U K)|refine⟨rfl,?_⟩|(constructor<;>intro hc<;>(try rw[hc])<;>(replace hc:=bp hc)<;>(try simp(disch:=omega) only[BE,wrap64,AL]at hc)<;>try(exfalso;omega))|fail)<;>conv=>whnf)
  refine B4 l'.length (fun i (_:List (Int×Int))=>[(16,eI (A6 i))]) (fun _ M=>[.own v 1 (iL out),.map L (FK p M)]) (fun i _=> ∀j,j<i→Gr (Ag p) l' j l'.length=false) M rfl (fun j h=>by omega) hs ?_;clear hs;rintro i M σ hi hno hs;rcases BH l' hi with⟨x,hx,hlt⟩|hie
  ·have hmx:=hme x (B2 hx)
   conv=>whnf
   repeat'((first|apply st|(apply sq;intro K U)|(apply si;intro A B Y Z)|(apply Y;clear Z B Y A)|(apply U;clear U K)|refine⟨rfl,?_⟩|refine ix ?_|(refine CS (fun hc=>?_)<;>(try rw[hc])<;>clear hc)|fail)<;>conv=>whnf)
   refine B4 l'.length (fun k (_:List (Int×Int))=>[(22,eI (A6 k))]) (fun _ M=>[.own v 1 (iL out),.map L (FK p M)]) (fun k _=>Gr (Ag p) l' i k=true) M rfl rfl hs ?_;clear hs;rintro k M σ hk htop hs;rcases BH l' hk with⟨y,hy,hklt⟩|hke
   ·have hmy:=hme y (B2 hy)
    have hsu:=QA (Ag p) l' i k;rw[CG hx,CG hy,htop,Fm]at hsu;by_cases hki:k=i
    ·obtain rfl:x=y:=by
      rw[hki,hx]at hy;exact Option.some.inj hy
     conv=>whnf
     repeat'((first|apply st|(apply sq;intro K U)|(apply si;intro A B Y Z)|(apply Y;clear Z B Y A)|(apply U;clear U K)|refine⟨rfl,?_⟩|refine ix ?_|(refine CS (fun hc=>?_)<;>(try rw[hc])<;>clear hc)|(constructor<;>intro hc<;>(try rw[hc])<;>(replace hc:=bp hc)<;>(try simp(disch:=omega) only[BE,wrap64,AL]at hc)<;>try(exfalso;omega))|clear U K)<;>conv=>whnf)
     exact⟨hklt,M,rfl,by rw[hsu,hki];simp,hs⟩
    ·have hxy:=bc hn hx hy hki
     have c5:=OZ p L x y hok hgw hfm hmx hmy M;cases hah:Ag p x y<;>rw[hah]at c5
     all_goals
      conv=>whnf
      repeat'((first|apply st|(apply sq;intro K U)|(apply si;intro A B Y Z)|(apply Y;clear Z B Y A)|(apply U;clear U K)|refine⟨rfl,?_⟩|refine ix ?_|(refine CS (fun hc=>?_)<;>(try rw[hc])<;>clear hc)|(constructor<;>intro hc<;>(try rw[hc])<;>(replace hc:=bp hc)<;>try(exfalso;omega))|fail)<;>conv=>whnf)
      refine c5.use (rest:=[_]) (hs.perm (.swap _ _ _)) ?_;clear hs;rintro r post σ ⟨rfl,rfl⟩ hs
      conv=>whnf
      repeat'((first|apply st|(apply si;intro A B Y Z)|(apply Y;clear Z B Y A)|(apply U;clear U K)|refine⟨rfl,?_⟩|refine E0 ?_|refine D2 ?_|clear U K)<;>conv=>whnf)
     ·refine⟨hlt,_,rfl,fun j hj=>?_,hs.perm (.swap _ _ _)⟩
      rcases Nat.lt_or_ge j i with h'|h'
      ·exact hno j h'
      ·rw[show j=i by omega]
       exact dx hklt (by rw[CG hx,CG hy,hah];simpa using hki)
     ·exact⟨hklt,_,rfl,by rw[hsu,hah];simp,hs.perm (.swap _ _ _)⟩
   ·have c1:=Lz l' f' x (by omega)
    rw[F4 hn hx]at c1;have hel:=List.length_eraseIdx_of_lt hlt;rw[Yf hlt (hke ▸ htop) hno]at hm;dsimp only at hm;rw[CG hx]at hm
    conv=>whnf
    repeat'((first|apply st|(apply sq;intro K U)|(apply si;intro A B Y Z)|(apply Y;clear Z B Y A)|(apply U;clear U K)|refine⟨rfl,?_⟩|refine aq fun v σ hs hsl=>?_|(refine Dh (fun hc=>?_)<;>(try rw[hc])<;>clear hc)|refine Pure.use c1 ?_|clear U K)<;>conv=>whnf)
    refine⟨(l'.eraseIdx i,true,v,out++[x],M),by dsimp only;omega,rfl,⟨fun y hy=>hme y (List.mem_of_mem_eraseIdx hy),hn.sublist (List.eraseIdx_sublist _ _),by simp;omega,?_⟩,hs⟩;dsimp only;rw[hm,hel,show l'.length - 1=n by omega];simp
  ·rw[Yd fun j hj=>hno j (by omega)]at hm
   dsimp only at hm;rw[hne,Hj]at hm
   conv=>whnf
   repeat'((first|apply st|(apply sq;intro K U)|(apply si;intro A B Y Z)|(apply Y;clear Z B Y A)|(apply U;clear U K)|refine⟨rfl,?_⟩|(refine Dh (fun hc=>?_)<;>(try rw[hc])<;>clear hc)|clear U K)<;>conv=>whnf)
   refine(N3 out v (by omega)).use (rest:=[_]) hs ?_;clear hs;rintro r post σ ⟨rfl,rfl⟩ hs
   conv=>whnf
   repeat'((first|apply st|(apply Y;clear Z B Y A)|(apply U;clear U K)|clear U K)<;>conv=>whnf)
   exact AO ⟨_,⟨by rw[hm];rfl,M,rfl⟩,hs⟩
theorem XJ (p:Prog) (l:List Int) (f:Bool) (hl:l.length≤1000):Pure Tryz.prog 31 [.a (BK p),.l (iL l) f] (.t [.l (iL (Cx p l).1.1) true,.b (Cx p l).1.2,eI (Cx p l).2]):=by
 refine Pure.of ?_;have hr:=GK p;refine ql nb ?_;have hs:=Sn
 conv=>whnf
 repeat'((first|apply st|(apply sq;intro K U)|(apply si;intro A B Y Z)|(apply Y;clear Z B Y A)|(apply U;clear U K)|refine⟨nb,?_⟩|fail)<;>conv=>whnf)
 refine hr.use (rest:=[]) (by simpa using hs) ?_;clear hs;cases h:(BO p).isSome
 ·have c1:=Ro l f true
  rintro r post σ ⟨rfl,rfl⟩ hs
  conv=>whnf
  repeat'((first|apply st|(apply sq;intro K U)|(apply si;intro A B Y Z)|(apply Y;clear Z B Y A)|(apply U;clear U K)|refine E0 ?_|refine Pure.use c1 ?_|clear U K)<;>conv=>whnf)
  exact AO (by simp[Cx,h])
 ·rintro r post σ ⟨L,rfl,rfl⟩ hs
  have c1:=Um p L l f true hl;have hok:=look_ok h;cases h2:DU p l true<;>rw[h2]at c1
  ·conv=>whnf
   repeat'((first|apply st|(apply sq;intro K U)|(apply si;intro A B Y Z)|(apply Y;clear Z B Y A)|(apply U;clear U K)|refine E0 ?_|refine Pure.use c1 ?_|clear U K)<;>conv=>whnf)
   exact AO (by simp[Cx,h,h2])
  ·have ho:=K1 hok h2
   conv=>whnf
   repeat'((first|apply st|(apply sq;intro K U)|(apply si;intro A B Y Z)|(apply Y;clear Z B Y A)|(apply U;clear U K)|refine D2 ?_|refine Pure.use c1 ?_|fail)<;>conv=>whnf)
   refine(R0 p L l f hok (MX h) (JG h) ho.1 ho.2 []).use (rest:=[]) hs ?_;clear hs;rintro r post σ ⟨rfl,M',rfl⟩ hs
   conv=>whnf
   repeat'((first|apply st|(apply sq;intro K U)|(apply si;intro A B Y Z)|(apply Y;clear Z B Y A)|(apply U;clear U K)|fail)<;>conv=>whnf)
   exact AO (by simp[Cx,h,h2])
end Go.Gl
