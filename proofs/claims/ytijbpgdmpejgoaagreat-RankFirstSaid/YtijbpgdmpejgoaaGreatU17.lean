import Derived.Test.YtijbpgdmpejgoaaGreatU11
import Derived.Test.YtijbpgdmpejgoaaGreatU12
import Derived.Test.YtijbpgdmpejgoaaGreatU13
import Derived.Test.YtijbpgdmpejgoaaGreatU14
import Derived.Test.YtijbpgdmpejgoaaGreatU16
set_option linter.all false
set_option linter.defProp false
noncomputable section
namespace Go.Gl
open Go.Proofs
attribute [local irreducible] BJ A2 Ak AW AM Aj AV AX AN Ai AR AU A5 BF Sat Ad BD Al W
def TP (g:FuncId) (fi ca:List V) (q:Int→Bool) (xs:List Int) (hpf: ∀y∈xs,Pure Tryz.prog g (fi++[eI y]++ca) (.b (q y))) (f:Bool) (hxl:xs.length≤1000):Pure Tryz.prog 83 [.l (iL xs) f,.f (.func g) fi ca] (.l (iL (xs.filter q)) true):=by
 refine Pure.of ?_;have hM:=Mx;refine pg kZ ?_;have hs:=Sn
 conv=>whnf
 repeat'((first|apply st|(apply sq;intro K U)|(apply si;intro A B Y Z)|(apply Y;clear Z B Y A)|(apply U;clear U K)|fail)<;>conv=>whnf)
 refine B2 xs.length (fun k v=>[(5,v),(10,eI (A4 k))]) (fun k v=>[.own v 1 (iL ((xs.take k).filter q))]) (fun _ _=>True) (.l [] true) rfl trivial (E9 hs 1) ?_;clear hs;rintro k v σ hk - hs;have hfl:=KD q (xs.take k);rw[KG]at hfl;rcases BC xs hk with⟨y,hy,hlt⟩|hke
 ·have hpy:=hpf y (B5 hy)
  have hst:(xs.take (k+1)).filter q=if q y then(xs.take k).filter q++[y]else(xs.take k).filter q:=by
   rw[AO hy,List.filter_append];cases hp:q y<;>simp[hp]
  generalize (xs.take k).filter q=zs at *;have hll:zs.length<Af∧(zs.length+1)*8≤140737488355328:=by omega
  conv=>whnf
  repeat'((first|apply st|(apply sq;intro K U)|(apply si;intro A B Y Z)|(apply Y;clear Z B Y A)|(apply U;clear U K)|refine⟨rfl,?_⟩|refine ix ?_|refine aq fun v σ hs hsl=>?_|(refine CK (fun hc=>?_)<;>(try rw[hc])<;>clear hc)|refine Bp (hpy.use ?_)|(constructor<;>intro hc<;>(try rw[hc])<;>(replace hc:=bp hc))|clear U K)<;>conv=>whnf)
  ·rw[if_pos (by assumption)]at hst
   exact⟨hlt,_,rfl,trivial,by rw[hst];exact hs⟩
  ·rw[if_neg (by simp[*])]at hst
   exact⟨hlt,_,rfl,trivial,by rw[hst];exact hs⟩
 ·rw[Ar hke]at hs
  conv=>whnf
  repeat'((first|apply st|(apply sq;intro K U)|(apply si;intro A B Y Z)|(apply Y;clear Z B Y A)|(apply U;clear U K)|refine⟨rfl,?_⟩|(refine DR (fun hc=>?_)<;>(try rw[hc])<;>clear hc)|clear U K)<;>conv=>whnf)
  refine(Nt (xs.filter q) v (by have:=KD q xs;omega)).use (rest:=[]) (by simpa using hs) ?_;clear hs;rintro r post σ ⟨rfl,rfl⟩ hs
  conv=>whnf
  repeat'((first|apply st|(apply Y;clear Z B Y A)|(apply U;clear U K)|fail)<;>conv=>whnf)
  exact AQ (by rfl)
def o0 (x y:Int):Pure Tryz.prog 132 [eI y,.rp [eI x]] (.b (y != x)):=by
 refine mY kZ ?_;have hs:=Sn
 conv=>whnf
 repeat'((first|apply st|(apply sq;intro K U)|(apply si;intro A B Y Z)|(apply Y;clear Z B Y A)|(apply U;clear U K)|refine⟨rfl,?_⟩|fail)<;>conv=>whnf)
 all_goals exact AI (by rfl)
def Lq (xs:List Int) (f:Bool) (x:Int) (hxl:xs.length≤1000):Pure Tryz.prog 98 [.l (iL xs) f,eI x] (.l (iL (xs.filter (· != x))) true):=by
 have c1:=TP 132 [] [.rp [eI x]] (· != x) xs (fun y _=>o0 x y) f hxl;refine pU kZ ?_;have hs:=Sn
 conv=>whnf
 repeat'((first|apply st|(apply sq;intro K U)|(apply si;intro A B Y Z)|(apply Y;clear Z B Y A)|(apply U;clear U K)|refine c1.use ?_|fail)<;>conv=>whnf)
 all_goals exact AI (by rfl)
def dx (l:List Int) (f kd:Bool):Pure Tryz.prog 66 [.pn,.l (iL l) f,.b kd] (.b false):=by
 have c1:=Zg l f;refine ZG kZ ?_;have hs:=Sn
 conv=>whnf
 repeat'((first|apply st|(apply sq;intro K U)|(apply si;intro A B Y Z)|(apply Y;clear Z B Y A)|(apply U;clear U K)|refine Er ?_|refine Pure.use (by assumption) ?_|clear U K)<;>conv=>whnf)
 all_goals exact AI rfl
def aj {M:List Int} {x:Int} (h:M.contains x=false):NQ M x=M++[x]:=by
 rw[NQ,if_neg (by rw[h];decide)]
set_option maxHeartbeats 2000000 in
def jJ (p : Prog) (L:Nat) (l:List Int) (f kd:Bool) (hl:l.length≤1000):Pure Tryz.prog 66 [Ft p L,.l (iL l) f,.b kd] (.b (Ef p l kd)):=by
 refine Pure.fit (by kernel_rfl) fun hf=>?_
 have hM:=Mx;have c1:=fw p L l f;cases hm:l.all (A1 p)<;>rw[hm]at c1
 ·have hb:Ef p l kd=false:=by
   rw[←Bool.not_eq_true];intro h;rw[Ef,BY,EN]at h;rw[←Bool.not_eq_true,EN]at hm;refine hm fun x hx=>?_
   have:=h.1 x hx;simp only[UJ,BY]at this;exact this.1
  refine ZG kZ ?_;have hs:=Sn
  conv=>whnf
  repeat'((first|apply st|(apply sq;intro K U)|(apply si;intro A B Y Z)|(apply Y;clear Z B Y A)|(apply U;clear U K)|refine Er ?_|refine c1.use ?_|clear U K)<;>conv=>whnf)
  all_goals exact AI (by rw[hb])
 rw[EN]at hm;refine ZG kZ ?_;have hs:=Sn
 conv=>whnf
 repeat'((first|apply st|(apply sq;intro K U)|(apply si;intro A B Y Z)|(apply Y;clear Z B Y A)|(apply U;clear U K)|refine De ?_|refine c1.use ?_|(intro nn hnn;generalize hg:BA _ nn _=σ;refine Ct hg fun hs=>?_;clear hg)|fail)<;>conv=>whnf)
 clear c1;replace hs:Sat σ [.map nn (Qy [])]:=hs;refine B2 l.length (fun i (_:Unit)=>[(17,eI (A4 i))]) (fun i _=>[.map nn (Qy (l.take i))]) (fun i _=>(∀k y,k<i→l[k]? =some y→UJ p l kd y=true)∧(l.take i).Nodup) () rfl ⟨fun k y h=>by omega,by simp⟩ hs ?_;clear hs;rintro i - σ hi ⟨ho,hn⟩ hs;rcases BC l hi with⟨x,hx,hlt⟩|hie
 ·have hci : A4 i=i:=AL (by omega)
  obtain⟨z,hz⟩: ∃z,l[0]? =some z:=⟨_,DJ (by omega)⟩
  have hz0:=C9 hz;have hmx:=hm x (B5 hx);have hmz:=hm z (B5 hz);have hbad:=fun h=>QJ (p:=p) (kd:=kd) hx h
  rw[UJ,hz0]at hbad;have hxP:=Br hmx;have hzP:=Br hmz;have c2:=NM p L x z hmx hmz;have hxr:=hmx;have hzr:=hmz;simp only[A1,BY,Ce]at hxr hzr;cases hcon:(l.take i).contains x
  ·have hne : ∀k y,k<i→l[k]? =some y→y≠x:=fun k y h h2 e=>by
    rw[←Bool.not_eq_true,List.contains_iff_mem]at hcon;exact hcon (B5 (i:=k) (by rw[List.getElem?_take,if_pos h,h2,e]))
   have hnd:=Oe hx hn hne;have hput:=aj hcon;rw[←AO hx]at hput;by_cases hg:(BN p x).gen=(BN p z).gen
   ·have hoxF:(!kd||CR p x z)=true→UJ p l kd x=true:=fun h=>by rw[UJ,hz0,hmx,hg,h];simp
    cases hal:CR p x z<;>rw[hal]at c2 hoxF<;>cases kd
    all_goals
     conv=>whnf
     repeat'((first|apply st|(apply sq;intro K U)|(apply si;intro A B Y Z)|(apply Y;clear Z B Y A)|(apply U;clear U K)|apply dr|refine⟨rfl,?_⟩|refine ix ?_|refine GX ?_|refine Er ?_|refine De ?_|(refine CK (fun hc=>?_)<;>(try rw[hc])<;>clear hc)|refine c2.use ?_|(refine JD hs 0 rfl rfl (HZ _) ?_;rw[Ky,hcon])|(refine Hy hs 0 rfl rfl (HZ _) fun σ hs=>?_)|(constructor<;>intro hc<;>(try rw[hc])<;>(replace hc:=bp hc)<;>try(exfalso;omega))|clear U K)<;>conv=>whnf)
    all_goals first
     | exact AI (by rw[hbad (by simp[hal,hg])])
     | (exfalso;simp[hg]at hc;done)
     | (have hox:=hoxF rfl
        refine⟨hlt,(),rfl,⟨fun k' y' h h2=>?_,hnd⟩,?_⟩
        ·rcases Nat.lt_or_ge k' i with h'|h'
         ·exact ho k' y' h' h2
         ·rw[show k'=i by omega,hx]at h2
          rw[←Option.some.inj h2];exact hox
        ·replace hs:Sat σ [.map nn (EF (eI x) (.b true) (Qy (l.take i)))]:=hs
         rw[WX,hput]at hs
         exact hs)
   ·conv=>whnf
    repeat'((first|apply st|(apply sq;intro K U)|(apply si;intro A B Y Z)|(apply Y;clear Z B Y A)|(apply U;clear U K)|apply dr|refine⟨rfl,?_⟩|refine ix ?_|refine GX ?_|(refine CK (fun hc=>?_)<;>(try rw[hc])<;>clear hc)|(refine JD hs 0 rfl rfl (HZ _) ?_;rw[Ky,hcon])|(constructor<;>intro hc<;>(try rw[hc])<;>(replace hc:=bp hc)<;>try(exfalso;omega))|clear U K)<;>conv=>whnf)
    all_goals first
     | exact AI (by rw[hbad (by simp[hg])])
     | (exfalso;have q:(BN p x).gen=(BN p z).gen:=(by assumption);exact hg q)
     | (exfalso;simp[hg]at hc;done)
  ·obtain⟨k,hk⟩:=List.getElem?_of_mem (List.contains_iff_mem.1 hcon)
   rw[List.getElem?_take]at hk;split at hk
   ·conv=>whnf
    repeat'((first|apply st|(apply sq;intro K U)|(apply si;intro A B Y Z)|(apply Y;clear Z B Y A)|(apply U;clear U K)|apply dr|refine⟨rfl,?_⟩|refine ix ?_|(refine CK (fun hc=>?_)<;>(try rw[hc])<;>clear hc)|(refine JD hs 0 rfl rfl (HZ _) ?_;rw[Ky,hcon])|clear U K)<;>conv=>whnf)
    all_goals exact AI (by rw[QI hx hk (by assumption)])
   ·cases hk
 ·conv=>whnf
  repeat'((first|apply st|(apply sq;intro K U)|(apply si;intro A B Y Z)|(apply Y;clear Z B Y A)|(apply U;clear U K)|refine⟨rfl,?_⟩|(refine DR (fun hc=>?_)<;>(try rw[hc])<;>clear hc)|clear U K)<;>conv=>whnf)
  have hall:Ef p l kd=true:=by
   rw[Ef,BY,EN];refine⟨fun y hy=>?_,decide_eq_true (by rw[hie,List.take_length]at hn;exact hn)⟩;obtain⟨k,hk⟩:=List.getElem?_of_mem hy;exact ho k y (by rw[hie];exact(G7.1 hk).1) hk
  exact AI (by rw[hall])
def Lf (M:List (Int×Int)) (x:Int×Int):List (Int×Int):=if M.contains x then M else M++[x]
def NX (p:Prog) (M:List (Int×Int)) (m n:Int):List (Int×Int):=if EP p m n then Lf (Lf M (m,n)) (n,m)else Lf M (m,n)
def H9 (p:Prog) (L:Nat) (m n:Int) (hk:Db p) (hgw:CQ (AS p)) (hfm: ∀x∈p.methods,Cf (AS p) x.fact=true) (hm:A1 p m=true) (hn:A1 p n=true) (M:List (Int×Int)) :
    Bk Tryz.prog 54 [Ft p L,eI m,eI n] [.map L (FI p M)] fun r post=>r= .ret (.b (EP p m n))∧post= [.map L (FI p (Lf M (m,n)))]:=by
 intro σ hs;have hxm:=Br hm;have hxn:=Br hn;have hmm:=B5 hxm;have hmn:=B5 hxn;have hip:=Qu (AS p) hgw (BN p m).fact (BN p n).fact (hfm _ hmm) (hfm _ hmn) (hk.facts _ hmm).1 (hk.facts _ hmn).1 (by have:=(hk.facts _ hmm).2;have:=(hk.facts _ hmn).2;omega);simp only[A1,BY,Ce]at hm hn;have hfd:=N5 p (m,n) M;refine gJ kZ ?_;cases hc:M.contains (m,n)
 ·rw[hc,if_neg (by decide)]at hfd
  conv=>whnf
  repeat'((first|apply st|(apply sq;intro K U)|(apply si;intro A B Y Z)|(apply Y;clear Z B Y A)|(apply U;clear U K)|apply dr|refine⟨kZ,?_⟩|refine GX ?_|refine ld ?_|refine Dy fun σ hs=>?_|refine Er ?_|refine Lm hs 1 rfl rfl (HY _ _) hfd ?_|refine Hy hs 1 rfl rfl (HY _ _) fun σ hs=>?_|refine hip.use ?_|(intro nn hnn;generalize hg:BA _ nn _=σ;refine Ct hg fun hs=>?_;clear hg)|fail)<;>conv=>whnf)
  replace hs:Sat σ [.box nn [eI m,eI n],.map L (EF (kM (m,n)) (.b (EP p m n)) (FI p M))]:=hs;rw[Rg p (m,n) M hc]at hs;exact AQ ⟨_,⟨rfl,rfl⟩,by rw[Lf,hc];exact hs.less (Ji _ _)⟩
 ·rw[hc,if_pos rfl]at hfd
  conv=>whnf
  repeat'((first|apply st|(apply sq;intro K U)|(apply si;intro A B Y Z)|(apply Y;clear Z B Y A)|(apply U;clear U K)|apply dr|refine⟨kZ,?_⟩|refine ld ?_|refine Dy fun σ hs=>?_|refine De ?_|refine Lm hs 1 rfl rfl (HY _ _) hfd ?_|(intro nn hnn;generalize hg:BA _ nn _=σ;refine Ct hg fun hs=>?_;clear hg)|fail)<;>conv=>whnf)
  exact AQ ⟨_,⟨rfl,rfl⟩,by rw[Lf,hc];exact hs.less (Ji _ _)⟩
def ON (p:Prog) (L:Nat) (m n:Int) (hk:Db p) (hgw:CQ (AS p)) (hfm: ∀x∈p.methods,Cf (AS p) x.fact=true) (hm:A1 p m=true) (hn:A1 p n=true) (M:List (Int×Int)) :
    Bk Tryz.prog 45 [Ft p L,eI m,eI n] [.map L (FI p M)] fun r post=>r= .ret (.b (AY p m n))∧post= [.map L (FI p (NX p M m n))]:=by
 intro σ hs;have h1:=fun M=>H9 p L m n hk hgw hfm hm hn M
 have h2:=fun M=>H9 p L n m hk hgw hfm hn hm M
 unfold AY NX;cases hb1:EP p m n<;>cases hb2:EP p n m<;>rw[hb1]at h1<;>rw[hb2]at h2
 all_goals
  refine gL kZ ?_
  conv=>whnf
  repeat'((first|(apply sq;intro K U)|(apply si;intro A B Y Z)|(apply Y;clear Z B Y A)|(apply U;clear U K)|fail)<;>conv=>whnf)
  refine(h1 M).use (rest:=[]) (by simpa using hs) ?_;clear hs;rintro r post σ ⟨rfl,rfl⟩ hs
  conv=>whnf
  repeat'((first|apply st|(apply Y;clear Z B Y A)|(apply U;clear U K)|fail)<;>conv=>whnf)
 ·exact AQ ⟨_,⟨rfl,rfl⟩,hs⟩
 ·exact AQ ⟨_,⟨rfl,rfl⟩,hs⟩
 all_goals
  refine(h2 _).use (rest:=[]) (by simpa using hs) ?_;clear hs;rintro r post σ ⟨rfl,rfl⟩ hs
  conv=>whnf
  repeat'((first|apply st|(apply Y;clear Z B Y A)|(apply U;clear U K)|fail)<;>conv=>whnf)
  exact AQ ⟨_,⟨rfl,rfl⟩,hs⟩
def E5: ∀ {l:List Int} {i:Nat} {x:Int},l.Nodup→l[i]? =some x→l.filter (· != x)=l.eraseIdx i
 | y::r,0,x,hn,hx=>by
   obtain rfl:y=x:=by simpa using hx
   rw[List.nodup_cons]at hn;rw[List.filter_cons,if_neg (by simp),List.eraseIdx_cons_zero];exact List.filter_eq_self.2 fun z hz=>by rw[uG];rintro rfl;exact hn.1 hz
 | y::r,i+1,x,hn,hx=>by
   rw[List.nodup_cons]at hn;rw[na]at hx;have hyx:y≠x:=fun e=>hn.1 (e ▸ B5 hx)
   rw[List.filter_cons,if_pos (by simpa using hyx),List.eraseIdx_cons_succ,E5 hn.2 hx]
def YK {A:Int→Int→Bool} {l:List Int} {i:Nat} (hi:i<l.length) (h:KK A l i l.length=true) (hn: ∀j,j<i→KK A l j l.length=false):G1 A l=some i:=by
 rw[G1,List.find?_range_eq_some];exact⟨h,List.mem_range.2 hi,fun j hj=>by rw[hn j hj];rfl⟩
def YJ {A:Int→Int→Bool} {l:List Int} (hn: ∀j,j<l.length→KK A l j l.length=false):G1 A l=none:=by
 rw[G1,List.find?_range_eq_none];exact fun j hj=>by rw[hn j hj];rfl
def dL {A:Int→Int→Bool} {l:List Int} {i k n:Nat} (hk:k<n) (h:(k==i||A (l.getD i 0) (l.getD k 0))=false):KK A l i n=false:=by
 rw[KK,←Bool.not_eq_true,EN];intro h2;rw[h2 k (List.mem_range.2 hk)]at h;cases h
def a8 {l:List Int} (hn:l.Nodup) {i k:Nat} {x y:Int} (hx:l[i]? =some x) (hy:l[k]? =some y) (h:k≠i):x≠y:=by
 rintro rfl;have hi:=(G7.1 hx)
 have hj:=(G7.1 hy)
 have:=(List.nodup_iff_pairwise_ne.1 hn)
 rw[List.pairwise_iff_getElem]at this;rcases Nat.lt_or_gt_of_ne h with h'|h'
 ·exact this k i hj.1 hi.1 h' (by rw[hj.2,hi.2])
 ·exact this i k hi.1 hj.1 h' (by rw[hj.2,hi.2])
set_option maxHeartbeats 4000000 in
def Rp (p : Prog) (L:Nat) (l:List Int) (f:Bool) (hok:Db p) (hgw:CQ (AS p)) (hfm: ∀x∈p.methods,Cf (AS p) x.fact=true) (hl:Gz p l) (hnd:l.Nodup) (M:List (Int×Int)) :
    Bk Tryz.prog 67 [Ft p L,.l (iL l) f] [.map L (FI p M)] fun r post=>r= .ret (.t [.l (iL (Bf (AY p) l.length l).1) true,.b (Bf (AY p) l.length l).2])∧ ∃M',post= [.map L (FI p M')]:=by
 intro σ hs;have hM:=Mx;refine pz kZ ?_
 conv=>whnf
 repeat'((first|apply st|(apply sq;intro K U)|(apply si;intro A B Y Z)|(apply Y;clear Z B Y A)|(apply U;clear U K)|fail)<;>conv=>whnf)
 refine Fo (fun(x:List Int×Bool×V×List Int×List (Int×Int))=>x.1.length) (fun x=>[(1,.l (iL x.1) x.2.1),(6,x.2.2.1)]) (fun x=>[.own x.2.2.1 1 (iL x.2.2.2.1),.map L (FI p x.2.2.2.2)])
  (fun x=>(∀y∈x.1,A1 p y=true)∧x.1.Nodup∧x.2.2.2.1.length+x.1.length≤16∧Bf (AY p) l.length l=(x.2.2.2.1++(Bf (AY p) x.1.length x.1).1,(Bf (AY p) x.1.length x.1).2)) (l,f,.l [] true,[],M) rfl ⟨hl.Fb,hnd,by simpa using hl.many,by simp⟩ (C7 hs 1) ?_
 clear hs;rintro⟨l',f',v,out,M⟩ σ ⟨hme,hn,hlen,hm⟩ hs;dsimp only at hme hn hlen hm hs;dsimp only;have hll:out.length<Af∧(out.length+1)*8≤140737488355328:=by omega
 by_cases hz:l'.length=0
 ·rw[hz]at hm
  simp only[Bf,Ig]at hm
  conv=>whnf
  repeat'((first|apply st|(apply sq;intro K U)|(apply si;intro A B Y Z)|(apply Y;clear Z B Y A)|(apply U;clear U K)|refine⟨rfl,?_⟩|(constructor<;>intro hc<;>(try rw[hc])<;>(replace hc:=bp hc)<;>(try simp(disch:=omega) only[BQ,wrap64,AL]at hc)<;>try(exfalso;omega))|clear U K)<;>conv=>whnf)
  refine(Nt out v (by omega)).use (rest:=[_]) hs ?_;clear hs;rintro r post σ ⟨rfl,rfl⟩ hs
  conv=>whnf
  repeat'((first|apply st|(apply Y;clear Z B Y A)|(apply U;clear U K)|fail)<;>conv=>whnf)
  exact AQ ⟨_,⟨by rw[hm],M,rfl⟩,hs⟩
 ·obtain ⟨n,hnn⟩: ∃n,l'.length=n+1:=⟨l'.length - 1,by omega⟩
  have hne:l'.isEmpty=false:=by cases l' with
   | nil=>simp at hz
   | cons=>rfl
  rw[hnn,Bf]at hm
  conv=>whnf
  repeat'((first|apply st|(apply sq;intro K U)|(apply si;intro A B Y Z)|(apply Y;clear Z B Y A)|(apply U;clear U K)|refine⟨rfl,?_⟩|(constructor<;>intro hc<;>(try rw[hc])<;>(replace hc:=bp hc)<;>(try simp(disch:=omega) only[BQ,wrap64,AL]at hc)<;>try(exfalso;omega))|fail)<;>conv=>whnf)
  refine B2 l'.length (fun i (_:List (Int×Int))=>[(16,eI (A4 i))]) (fun _ M=>[.own v 1 (iL out),.map L (FI p M)]) (fun i _=> ∀j,j<i→KK (AY p) l' j l'.length=false) M rfl (fun j h=>by omega) hs ?_;clear hs;rintro i M σ hi hno hs;rcases BC l' hi with⟨x,hx,hlt⟩|hie
  ·have hmx:=hme x (B5 hx)
   conv=>whnf
   repeat'((first|apply st|(apply sq;intro K U)|(apply si;intro A B Y Z)|(apply Y;clear Z B Y A)|(apply U;clear U K)|refine⟨rfl,?_⟩|refine ix ?_|(refine CK (fun hc=>?_)<;>(try rw[hc])<;>clear hc)|fail)<;>conv=>whnf)
   refine B2 l'.length (fun k (_:List (Int×Int))=>[(22,eI (A4 k))]) (fun _ M=>[.own v 1 (iL out),.map L (FI p M)]) (fun k _=>KK (AY p) l' i k=true) M rfl rfl hs ?_;clear hs;rintro k M σ hk htop hs;rcases BC l' hk with⟨y,hy,hklt⟩|hke
   ·have hmy:=hme y (B5 hy)
    have hsu:=XT (AY p) l' i k;rw[C9 hx,C9 hy,htop,E7]at hsu;by_cases hki:k=i
    ·obtain rfl:x=y:=by
      rw[hki,hx]at hy;exact Option.some.inj hy
     conv=>whnf
     repeat'((first|apply st|(apply sq;intro K U)|(apply si;intro A B Y Z)|(apply Y;clear Z B Y A)|(apply U;clear U K)|refine⟨rfl,?_⟩|refine ix ?_|(refine CK (fun hc=>?_)<;>(try rw[hc])<;>clear hc)|(constructor<;>intro hc<;>(try rw[hc])<;>(replace hc:=bp hc)<;>(try simp(disch:=omega) only[BQ,wrap64,AL]at hc)<;>try(exfalso;omega))|clear U K)<;>conv=>whnf)
     exact⟨hklt,M,rfl,by rw[hsu,hki];simp,hs⟩
    ·have hxy:=a8 hn hx hy hki
     have c5:=ON p L x y hok hgw hfm hmx hmy M;cases hah:AY p x y<;>rw[hah]at c5
     all_goals
      conv=>whnf
      repeat'((first|apply st|(apply sq;intro K U)|(apply si;intro A B Y Z)|(apply Y;clear Z B Y A)|(apply U;clear U K)|refine⟨rfl,?_⟩|refine ix ?_|(refine CK (fun hc=>?_)<;>(try rw[hc])<;>clear hc)|(constructor<;>intro hc<;>(try rw[hc])<;>(replace hc:=bp hc)<;>try(exfalso;omega))|fail)<;>conv=>whnf)
      refine c5.use (rest:=[_]) (hs.perm (.swap _ _ _)) ?_;clear hs;rintro r post σ ⟨rfl,rfl⟩ hs
      conv=>whnf
      repeat'((first|apply st|(apply si;intro A B Y Z)|(apply Y;clear Z B Y A)|(apply U;clear U K)|refine⟨rfl,?_⟩|refine Er ?_|refine De ?_|clear U K)<;>conv=>whnf)
     ·refine⟨hlt,_,rfl,fun j hj=>?_,hs.perm (.swap _ _ _)⟩
      rcases Nat.lt_or_ge j i with h'|h'
      ·exact hno j h'
      ·rw[show j=i by omega]
       exact dL hklt (by rw[C9 hx,C9 hy,hah];simpa using hki)
     ·exact⟨hklt,_,rfl,by rw[hsu,hah];simp,hs.perm (.swap _ _ _)⟩
   ·have c1:=Lq l' f' x (by omega)
    rw[E5 hn hx]at c1;have hel:=List.length_eraseIdx_of_lt hlt;rw[YK hlt (hke ▸ htop) hno]at hm;dsimp only at hm;rw[C9 hx]at hm
    conv=>whnf
    repeat'((first|apply st|(apply sq;intro K U)|(apply si;intro A B Y Z)|(apply Y;clear Z B Y A)|(apply U;clear U K)|refine⟨rfl,?_⟩|refine aq fun v σ hs hsl=>?_|(refine DR (fun hc=>?_)<;>(try rw[hc])<;>clear hc)|refine c1.use ?_|clear U K)<;>conv=>whnf)
    refine⟨(l'.eraseIdx i,true,v,out++[x],M),by dsimp only;omega,rfl,⟨fun y hy=>hme y (List.mem_of_mem_eraseIdx hy),hn.sublist (List.eraseIdx_sublist _ _),by simp;omega,?_⟩,hs⟩;dsimp only;rw[hm,hel,show l'.length - 1=n by omega];simp
  ·rw[YJ fun j hj=>hno j (by omega)]at hm
   dsimp only at hm;rw[hne,Ig]at hm
   conv=>whnf
   repeat'((first|apply st|(apply sq;intro K U)|(apply si;intro A B Y Z)|(apply Y;clear Z B Y A)|(apply U;clear U K)|refine⟨rfl,?_⟩|(refine DR (fun hc=>?_)<;>(try rw[hc])<;>clear hc)|clear U K)<;>conv=>whnf)
   refine(Nt out v (by omega)).use (rest:=[_]) hs ?_;clear hs;rintro r post σ ⟨rfl,rfl⟩ hs
   conv=>whnf
   repeat'((first|apply st|(apply Y;clear Z B Y A)|(apply U;clear U K)|clear U K)<;>conv=>whnf)
   exact AQ ⟨_,⟨by rw[hm];rfl,M,rfl⟩,hs⟩
def Wv (p:Prog) (l:List Int) (f:Bool) (hl:l.length≤1000):Pure Tryz.prog 31 [.a (BR p),.l (iL l) f] (.t [.l (iL (Gm p l).1.1) true,.b (Gm p l).1.2,eI (Gm p l).2]):=by
 refine Pure.of ?_;have hr:=HV p;refine qO kZ ?_;have hs:=Sn
 conv=>whnf
 repeat'((first|apply st|(apply sq;intro K U)|(apply si;intro A B Y Z)|(apply Y;clear Z B Y A)|(apply U;clear U K)|refine⟨kZ,?_⟩|fail)<;>conv=>whnf)
 refine hr.use (rest:=[]) (by simpa using hs) ?_;clear hs;cases h:(BV p).isSome
 ·have c1:=dx l f true
  rintro r post σ ⟨rfl,rfl⟩ hs
  conv=>whnf
  repeat'((first|apply st|(apply sq;intro K U)|(apply si;intro A B Y Z)|(apply Y;clear Z B Y A)|(apply U;clear U K)|refine Er ?_|refine c1.use ?_|clear U K)<;>conv=>whnf)
  exact AQ (by simp[Gm,h])
 ·rintro r post σ ⟨L,rfl,rfl⟩ hs
  have c1:=jJ p L l f true hl;have hok:=look_ok h;cases h2:Ef p l true<;>rw[h2]at c1
  ·conv=>whnf
   repeat'((first|apply st|(apply sq;intro K U)|(apply si;intro A B Y Z)|(apply Y;clear Z B Y A)|(apply U;clear U K)|refine Er ?_|refine c1.use ?_|clear U K)<;>conv=>whnf)
   exact AQ (by simp[Gm,h,h2])
  ·have ho:=bK hok h2
   conv=>whnf
   repeat'((first|apply st|(apply sq;intro K U)|(apply si;intro A B Y Z)|(apply Y;clear Z B Y A)|(apply U;clear U K)|refine De ?_|refine c1.use ?_|fail)<;>conv=>whnf)
   refine(Rp p L l f hok (Nd h) (Kj h) ho.1 ho.2 []).use (rest:=[]) hs ?_;clear hs;rintro r post σ ⟨rfl,M',rfl⟩ hs
   conv=>whnf
   repeat'((first|apply st|(apply sq;intro K U)|(apply si;intro A B Y Z)|(apply Y;clear Z B Y A)|(apply U;clear U K)|fail)<;>conv=>whnf)
   exact AQ (by simp[Gm,h,h2])
end Go.Gl
namespace Go.Gl
open Go.Proofs
inductive UH where
 | int (n:Int)
 | Ym
 | obj (AF:Nat→Bool) (kid:Int→UH)
def KO (w:AK):UH→Prop
 | .int n=> -1000000000≤n∧n≤1000000000
 | .Ym=>True
 | .obj AF kid=>(∀c,3≤c→AF c=true→ ∀q∈par w.parents c,AF q.toNat=true)∧ ∀s,KO w (kid s)
def Iq (t:UH) (f:Fact):Bool:=match t with
 | .int n=>if f.op=2 then !decide (f.cls > 1)else if f.op=3 then decide (n<f.n)else decide (n=f.n)
 | .Ym=>f.op==2&&(f.cls==0||f.cls==2)
 | .obj AF _=>f.op==2&&(f.cls==0||(decide (3≤f.cls)&&AF f.cls.toNat))
def SD (w:AK):UH→List Int→Fact→Bool
 | t,[],f=>Iq t f
 | .obj AF kid,s::r,f=>AF (CV w s).toNat&&SD w (kid s) r f
 | _,_::_,_=>false
structure Ia (w:AK) (l:Fact):Prop where
 op:(A0 l).1.op=2∨(A0 l).1.op=3∨(A0 l).1.op=4
 cls:(A0 l).1.op=2→0≤(A0 l).1.cls∧(A0 l).1.cls<3+w.parents.length
 arg:0≤(A0 l).1.arg∧(A0 l).1.arg<3
 path: ∀s∈(A0 l).1.path,(0:Int)≤s∧s<w.owner.length
 short:(A0 l).1.path.length≤2
def WV {w:AK} {l:Fact} (h:Ib w l):Ia w l:=by
 obtain⟨-,hn,hl⟩:=HX h;have hlo:=F2 hl;have q:=I1 (w:=w) (l:=[l]) (fun x hx=>by rw[LV.1 hx];exact h);rw[Ch,BY]at hn;have hn:=hn.1;simp only[DB,BY,Ce]at hn;obtain⟨ho,-,ha1,ha2,hp,-⟩:=hn;simp only[Es,BY,EN,HM,Ce]at hp;exact⟨hlo,q.2.1 l (.head _),⟨ha1,ha2⟩,fun s hs=>hp.1 s hs,hp.2⟩
def gh (t:Int×Int×List Int) (m:Int):Prop:=t.1≤m∧m≤t.2.1∧m∉t.2.2
def XY {w:AK} {l:Fact} (hl:Ia w l) (t:Int×Int×List Int) (m:Int):(∃t',HL (A0 l) t=some t'∧gh t' m)↔gh t m∧Iq (.int m) (A0 l).1= !(A0 l).2:=by
 have h1:=hl.op;generalize A0 l=x at *;obtain⟨f,b⟩:=x;obtain⟨lo,hi,no⟩:=t;simp only[HL,gh,Iq]at *;rcases h1 with h|h|h
 ·rw[if_pos h,if_pos h]
  by_cases hc:f.cls > 1<;>cases b<;>simp[hc]
 ·have h2: ¬f.op=2:=by omega
  rw[if_neg h2,if_pos h,if_neg h2,if_pos h];cases b
  ·simp only[LS,if_false,IH,exists_eq_left',Bool.not_false,Ce]
   split<;>constructor<;>rintro⟨h3,h4⟩
   ·exact⟨⟨h3,by omega,h4.2⟩,by omega⟩
   ·exact⟨h3.1,by omega,h3.2.2⟩
   ·exact⟨⟨h3,h4⟩,by omega⟩
   ·exact h3
  ·simp only[if_true,IH,exists_eq_left',Bool.not_true,decide_eq_false_iff_not]
   split<;>constructor<;>rintro⟨h3,h4⟩
   ·exact⟨⟨by omega,h4⟩,by omega⟩
   ·exact⟨by omega,h3.2⟩
   ·exact⟨⟨h3,h4⟩,by omega⟩
   ·exact h3
 ·have h2: ¬f.op=2:=by omega
  have h3: ¬f.op=3:=by omega
  rw[if_neg h2,if_neg h3,if_neg h2,if_neg h3];cases b
  ·simp only[LS,if_false,IH,exists_eq_left',Bool.not_false,Ce]
   constructor
   ·rintro⟨h3,h4,h5⟩
    split at h3<;>split at h4<;>exact⟨⟨by omega,by omega,h5⟩,by omega⟩
   ·rintro⟨⟨h3,h4,h5⟩,rfl⟩
    refine⟨?_,?_,h5⟩
    ·split<;>omega
    ·split<;>omega
  ·simp only[if_true,IH,exists_eq_left',Bool.not_true,decide_eq_false_iff_not,Fs,LV,not_or]
   constructor
   ·rintro⟨h3,h4,h5,h6⟩
    exact⟨⟨h3,h4,h5⟩,h6⟩
   ·rintro⟨⟨h3,h4,h5⟩,h6⟩
    exact⟨h3,h4,h5,h6⟩
def JN {w:AK} (m:Int): ∀(os:List Fact) (t:Int×Int×List Int),(∀l∈os,Ia w l)→((∃t',foldI os t=some t'∧gh t' m)↔gh t m∧ ∀l∈os,Iq (.int m) (A0 l).1= !(A0 l).2)
 | [],t,_=>by simp[foldI]
 | x ::r,t,h=>by
   have h1:=XY (h x (.head _)) t m;constructor
   ·rintro⟨t',h2,h3⟩
    rw[foldI,Option.bind_eq_some_iff]at h2;obtain⟨u,h4,h5⟩:=h2;obtain⟨h6,h7⟩:=(JN m r u fun l hl=>h l (.tail _ hl)).1 ⟨t',h5,h3⟩;obtain⟨h8,h9⟩:=h1.1 ⟨u,h4,h6⟩;refine⟨h8,fun l hl=>?_⟩;rcases GB.1 hl with rfl|hl
    ·exact h9
    ·exact h7 l hl
   ·rintro⟨h2,h3⟩
    obtain⟨u,h4,h5⟩:=h1.2 ⟨h2,h3 x (.head _)⟩;obtain⟨t',h6,h7⟩:=(JN m r u fun l hl=>h l (.tail _ hl)).2 ⟨h5,fun l hl=>h3 l (.tail _ hl)⟩;exact⟨t',by rw[foldI,h4];exact h6,h7⟩
def P1 (t:Int×Int×List Int):(Nb t).isSome=true↔ ∃m,gh t m:=by
 obtain⟨lo,hi,no⟩:=t;rw[Nb,Lu];constructor
 ·rintro⟨j,h1,h2⟩
  exact⟨lo+j,by simp only[gh]at *;omega,by simp only[]at *;omega,h2⟩
 ·rintro⟨m,h1,h2,h3⟩
  dsimp only at h1 h2 h3 ⊢;exact⟨(m - lo).toNat,by omega,by rw[show lo+((m - lo).toNat:Int)=m by omega];exact h3⟩
def Hu {a:Int} {p:List Int} {l:Fact}:Gr a p l=true↔(A0 l).1.arg=a∧(A0 l).1.path=p:=by
 rw[Gr,BY,Dx,Dx]
def bR {w:AK} {ls:List Fact} (hl: ∀l∈ls,Ia w l) (a:Int) (p:List Int):(Ic ls a p).isSome=true↔ ∃m,(-1000000000≤m∧m≤1000000000)∧ ∀l∈ls,(A0 l).1.arg=a→(A0 l).1.path=p→Iq (.int m) (A0 l).1= !(A0 l).2:=by
 have hL: ∀l∈ls.filter (Gr a p),Ia w l:=fun l h=>hl l (JV.1 h).1
 rw[Ic];constructor
 ·intro h
  cases hf:foldI (ls.filter (Gr a p)) t0 with
  | none=>rw[hf]at h;cases h
  | some t=>
    rw[hf]at h;obtain⟨m,hm⟩:=(P1 t).1 h;obtain⟨h1,h2⟩:=(JN m _ t0 hL).1 ⟨t,hf,hm⟩;exact⟨m,⟨h1.1,h1.2.1⟩,fun l h3 h4 h5=>h2 l (JV.2 ⟨h3,Hu.2 ⟨h4,h5⟩⟩)⟩
 ·rintro⟨m,h1,h2⟩
  obtain⟨t,h3,h4⟩:=(JN m (ls.filter (Gr a p)) t0 hL).2 ⟨⟨h1.1,h1.2,by simp[t0]⟩,fun l h=>by
   obtain⟨h5,h6⟩:=JV.1 h
   exact h2 l h5 (Hu.1 h6).1 (Hu.1 h6).2⟩
  rw[h3];exact(P1 t).2 ⟨m,h4⟩
def K6 {ls:List Fact} {a:Int} {p:List Int}:EH ls a p=true↔ ∀l∈ls,(A0 l).1.arg=a→ ∀q,(A0 l).1.path=p++q→(A0 l).2=true:=by
 rw[EH,EN];constructor
 ·intro h l hl ha q hq
  have:=h l hl;rw[Fq]at this;rcases this with h1|h1
  ·exact h1
  ·rw[ha,hq]at h1
   have h2:Bx (p++q) p=true:=Cc.2 ⟨q,rfl⟩;simp[h2]at h1
 ·intro h l hl
  rw[Fq];by_cases h1:(A0 l).1.arg=a∧Bx (A0 l).1.path p=true
  ·obtain⟨q,hq⟩:=Cc.1 h1.2
   exact .inl (h l hl h1.1 q hq)
  ·right
   simp only[Bool.not_eq_true',Bool.and_eq_false_iff,beq_eq_false_iff_ne];rcases Classical.em ((A0 l).1.arg=a)with e|e
   ·exact .inr (by simpa[e]using h1)
   ·exact .inl e
def P3 {w:AK} {ls:List Fact} (hl: ∀l∈ls,Ia w l) {a:Int} {p:List Int} {s:Int}:s∈Bs w.owner.length ls a p↔ ∃l∈ls,(A0 l).1.arg=a∧ ∃q,(A0 l).1.path=p++s::q:=by
 rw[Bs,JV,JU,FR];constructor
 ·rintro⟨-,l,h1,h2⟩
  rw[Vl,BY,Dx]at h2;obtain⟨q,hq⟩:=Cc.1 h2.2;exact⟨l,h1,h2.1,q,by rw[hq];simp⟩
 ·rintro⟨l,h1,h2,q,hq⟩
  refine⟨(hl l h1).path s (by rw[hq];simp),l,h1,?_⟩;rw[Vl,BY,Dx];exact⟨h2,Cc.2 ⟨q,by rw[hq];simp⟩⟩
def TQ {w:AK} {ls:List Fact} (hl: ∀l∈ls,Ia w l) {a:Int} {p:List Int}:FG w.owner.length ls a p=true↔ ∀l∈ls,(A0 l).1.arg=a→ ∀s q,(A0 l).1.path=p++s::q→(A0 l).2=true:=by
 rw[FG,EN];constructor
 ·intro h l h1 h2 s q hq
  exact K6.1 (h s ((P3 hl).2 ⟨l,h1,h2,q,hq⟩)) l h1 h2 q (by rw[hq];simp)
 ·intro h s _
  exact K6.2 fun l h1 h2 q hq=>h l h1 h2 s q (by rw[hq];simp)
def RF {w:AK} (hw:KE w) {s:Int} (h:0≤s∧s<(w.owner.length:Int)):3≤CV w s∧CV w s<3+w.parents.length:=by
 have hs:s.toNat<w.owner.length:=by omega
 have:CV w s=w.owner[s.toNat]:=by rw[CV,DY,DJ hs];rfl
 rw[this];exact hw.own _ (List.getElem_mem hs)
def fX (t:BB) (AF:Nat→Bool):Prop:=(∀c,t.1.getD c false=true→c=0∨AF c=true)∧ ∀c,t.2.getD c false=true→c≠0∧AF c=false
def Qz (t t':BB):Prop:=t.1.length=t'.1.length∧t.2.length=t'.2.length∧(∀c,t.1.getD c false=true→t'.1.getD c false=true)∧ ∀c,t.2.getD c false=true→t'.2.getD c false=true
def Qz.cr {t:BB}:Qz t t:=⟨rfl,rfl,fun _ h=>h,fun _ h=>h⟩
def Qz.trans {t u v:BB} (h:Qz t u) (k:Qz u v):Qz t v:=⟨h.1.trans k.1,h.2.1.trans k.2.1,fun c hc=>k.2.2.1 c (h.2.2.1 c hc),fun c hc=>k.2.2.2 c (h.2.2.2 c hc)⟩
def Kp {l:List Bool} {c b:Nat} (h:(l.set c true).getD b false=true):l.getD b false=true∨b=c:=by
 by_cases e:b=c
 ·exact .inr e
 ·rw[DY,List.getElem?_set_ne (fun h=>e h.symm),←DY]at h
  exact .inl h
def Kr {l:List Bool} {c b:Nat} (h:l.getD b false=true):(l.set c true).getD b false=true:=by
 by_cases e:c<l.length
 ·rw[E2 e]
  split
  ·rfl
  ·exact h
 ·rw[List.set_eq_of_length_le (by omega)];exact h
def Kq {l:List Bool} {c:Nat} (h:c<l.length):(l.set c true).getD c false=true:=by
 rw[E2 h,if_pos rfl]
def Qz.uj {t:BB} (c:Nat):Qz t (t.1.set c true,t.2):=⟨by simp,rfl,fun _ h=>Kr h,fun _ h=>h⟩
def Qz.ui {t:BB} (c:Nat):Qz t (t.1,t.2.set c true):=⟨rfl,by simp,fun _ h=>h,fun _ h=>Kr h⟩
def US (t:BB) (f:Fact) (b:Bool):Prop:=if f.op≠2∨f.cls=1∨f.cls=2 then b=true else if b then t.2.getD f.cls.toNat false=true else t.1.getD f.cls.toNat false=true
def Ql {t t':BB} (h:Qz t t') {f:Fact} {b:Bool} (k:US t f b):US t' f b:=by
 unfold US at *;split
 ·rename_i h1;rw[if_pos h1]at k;exact k
 ·rename_i h1;rw[if_neg h1]at k
  split
  ·rename_i h2;rw[if_pos h2]at k;exact h.2.2.2 _ k
  ·rename_i h2;rw[if_neg h2]at k;exact h.2.2.1 _ k
def aT {w:AK} {l:Fact} (hl:Ia w l) {t t':BB} (hn:t.1.length=3+w.parents.length∧t.2.length=3+w.parents.length) (h:GF (A0 l) t=some t'):Qz t t'∧US t' (A0 l).1 (A0 l).2:=by
 have hc:=hl.cls;generalize A0 l=x at *;obtain⟨f,b⟩:=x;simp only[GF,US]at *;split at h
 ·rename_i h1
  rw[if_pos h1];cases b
  ·cases h
  ·obtain rfl:=Option.some.inj h
   exact⟨Qz.cr,rfl⟩
 ·rename_i h1
  rw[if_neg h1]
  have h2:f.op=2:=by
   rcases Classical.em (f.op=2)with e|e
   ·exact e
   ·exact absurd (Or.inl e) h1
  have:=hc h2;cases b
  ·obtain rfl:=Option.some.inj h
   exact⟨.uj _,by rw[if_neg (by decide)];exact Kq (by omega)⟩
  ·obtain rfl:=Option.some.inj h
   exact⟨.ui _,by rw[if_pos rfl];exact Kq (by omega)⟩
def XV {w:AK} {l:Fact} (hl:Ia w l) {t:BB} {AF:Nat→Bool} {kid:Int→UH} (hi:fX t AF) (h:Iq (.obj AF kid) (A0 l).1= !(A0 l).2): ∃t',GF (A0 l) t=some t'∧fX t' AF:=by
 have hc:=hl.cls;generalize A0 l=x at *;obtain⟨f,b⟩:=x;simp only[GF,Iq]at *;by_cases h1:f.op≠2∨f.cls=1∨f.cls=2
 ·rw[if_pos h1]
  have h2:(f.op==2&&(f.cls==0||(decide (3≤f.cls)&&AF f.cls.toNat)))=false:=by
   rcases h1 with h1|h1|h1
   ·simp[h1]
   ·simp[h1]
   ·simp[h1]
  rw[h2]at h;cases b
  ·cases h
  ·exact⟨t,rfl,hi⟩
 ·rw [if_neg h1]
  have h2:f.op=2:=by
   rcases Classical.em (f.op=2)with e|e
   ·exact e
   ·exact absurd (Or.inl e) h1
  have hr:=hc h2;have h3:f.cls≠1∧f.cls≠2:=⟨fun e=>h1 (.inr (.inl e)),fun e=>h1 (.inr (.inr e))⟩
  have h4:(f.op==2&&(f.cls==0||(decide (3≤f.cls)&&AF f.cls.toNat)))=(decide (f.cls=0)||AF f.cls.toNat):=by
   rw[h2];rcases Classical.em (f.cls=0)with e|e
   ·simp[e]
   ·have:3≤f.cls:=by omega
    simp[e,this]
  rw[h4]at h;cases b
  ·refine⟨_,rfl,fun c hh=>?_,hi.2⟩
   rcases Kp hh with hh|rfl
   ·exact hi.1 c hh
   ·simp only[Bool.not_false,Fq,Ce]at h
    rcases h with h|h
    ·exact .inl (by omega)
    ·exact .inr h
  ·refine⟨_,rfl,hi.1,fun c hh=>?_⟩
   rcases Kp hh with hh|rfl
   ·exact hi.2 c hh
   ·simp only[Bool.not_true,Bool.or_eq_false_iff,decide_eq_false_iff_not]at h
    exact⟨by omega,h.2⟩
def OE {w:AK}: ∀(os:List Fact) {t t':BB},(∀l∈os,Ia w l)→(t.1.length=3+w.parents.length∧t.2.length=3+w.parents.length)→D5 os t=some t'→Qz t t'∧ ∀l∈os,US t' (A0 l).1 (A0 l).2
 | [],t,t',_,_,h=>by
   obtain rfl:=Option.some.inj h;exact⟨Qz.cr,fun l hl=>by cases hl⟩
 | x::r,t,t',hl,hn,h=>by
   rw[D5,Option.bind_eq_some_iff]at h;obtain⟨u,h1,h2⟩:=h;obtain⟨h3,h4⟩:=aT (hl x (.head _)) hn h1;obtain⟨h5,h6⟩:=OE r (fun l h=>hl l (.tail _ h)) ⟨by rw[←h3.1];exact hn.1,by rw[←h3.2.1];exact hn.2⟩ h2;refine⟨h3.trans h5,fun l h=>?_⟩;rcases GB.1 h with rfl|h
   ·exact Ql h5 h4
   ·exact h6 l h
def QX {w:AK} {AF:Nat→Bool} {kid:Int→UH}: ∀(os:List Fact) {t:BB},(∀l∈os,Ia w l)→fX t AF→(∀l∈os,Iq (.obj AF kid) (A0 l).1= !(A0 l).2)→ ∃t',D5 os t=some t'∧fX t' AF
 | [],t,_,hi,_=>⟨t,rfl,hi⟩
 | x::r,t,hl,hi,h=>by
   obtain⟨u,h1,h2⟩:=XV (hl x (.head _)) hi (h x (.head _));obtain⟨t',h3,h4⟩:=QX r (fun l h=>hl l (.tail _ h)) h2 fun l hh=>h l (.tail _ hh)
   exact⟨t',by rw[D5,h1];exact h3,h4⟩
def iA (w:AK) (ls:List Fact) (a:Int) (p:List Int) (can:Int→Bool) (s:Int) (t:BB):Prop:=
 (EH ls a (p++[s])=false→t.1.getD (CV w s).toNat false=true∧can s=true)∧(can s=false→t.2.getD (CV w s).toNat false=true)
def OD {w:AK} (hw:KE w) {ls:List Fact} {a:Int} {p:List Int} {can:Int→Bool}: ∀(sl:List Int) {t t':BB},(∀s∈sl,0≤s∧s<(w.owner.length:Int))→(t.1.length=3+w.parents.length∧t.2.length=3+w.parents.length)→Dp w ls a p can sl t=some t'→Qz t t'∧ ∀s∈sl,iA w ls a p can s t'
 | [],t,t',_,_,h=>by
   obtain rfl:=Option.some.inj h;exact⟨Qz.cr,fun l hl=>by cases hl⟩
 | s ::r,t,t',hs,hn,h=>by
   rw[Dp,Option.bind_eq_some_iff]at h;obtain⟨u,h1,h2⟩:=h;have ho:=RF hw (hs s (.head _))
   have h3:Qz t u∧iA w ls a p can s u:=by
    rw[II]at h1;split at h1
    ·cases h1
    ·rename_i hne
     obtain rfl:=Option.some.inj h1;simp only[iA];cases hb:EH ls a (p++[s])<;>cases hc:can s
     ·simp[hb,hc]at hne
     ·exact⟨⟨by simp,rfl,fun c h=>Kr h,fun c h=>h⟩,fun _=>⟨Kq (by omega),rfl⟩,fun h=>(by cases h)⟩
     ·exact⟨⟨rfl,by simp,fun c h=>h,fun c h=>Kr h⟩,fun h=>(by cases h),fun _=>Kq (by omega)⟩
     ·exact⟨Qz.cr,fun h=>(by cases h),fun h=>(by cases h)⟩
   obtain⟨h5,h6⟩:=OD hw r (fun l h=>hs l (.tail _ h)) ⟨by rw[←h3.1.1];exact hn.1,by rw[←h3.1.2.1];exact hn.2⟩ h2;refine⟨h3.1.trans h5,fun l h=>?_⟩;rcases GB.1 h with rfl|h
   ·exact⟨fun hb=>⟨h5.2.2.1 _ (h3.2.1 hb).1,(h3.2.1 hb).2⟩,fun hc=>h5.2.2.2 _ (h3.2.2 hc)⟩
   ·exact h6 l h
def QW {w : AK} (hw:KE w) {ls:List Fact} {a:Int} {p:List Int} {can:Int→Bool} {AF:Nat→Bool}: ∀(sl:List Int) {t:BB},(∀s∈sl,0≤s∧s<(w.owner.length:Int))→fX t AF→
    (∀s∈sl,(EH ls a (p++[s])=false→AF (CV w s).toNat=true)∧(AF (CV w s).toNat=true→can s=true))→ ∃t',Dp w ls a p can sl t=some t'∧fX t' AF
 | [],t,_,hi,_=>⟨t,rfl,hi⟩
 | s :: r, t,hs,hi,h=>by
   have ho:=RF hw (hs s (.head _));obtain⟨k1,k2⟩:=h s (.head _)
   have h1 : ∃u,II w ls a p can s t=some u∧fX u AF:=by
    rw[II];cases hb:EH ls a (p++[s])
    ·rw[k2 (k1 hb)]
     refine⟨_,rfl,fun c hh=>?_,hi.2⟩;rcases Kp hh with hh|rfl
     ·exact hi.1 c hh
     ·exact .inr (k1 hb)
    ·cases hc:can s
     ·refine⟨_,rfl,hi.1,fun c hh=>?_⟩
      rcases Kp hh with hh|rfl
      ·exact hi.2 c hh
      ·refine⟨by omega,?_⟩
       rw[←Bool.not_eq_true];intro e;rw[k2 e]at hc;cases hc
     ·exact⟨_,rfl,hi⟩
   obtain⟨u,h2,h3⟩:=h1;obtain⟨t',h4,h5⟩:=QW hw r (fun l h=>hs l (.tail _ h)) h3 fun l hh=>h l (.tail _ hh)
   exact⟨t',by rw[Dp,h2];exact h4,h5⟩
def df {w:AK} {AF:Nat→Bool}:fX (tO w) AF:=by
 have: ∀c,(List.replicate (3+w.parents.length) false).getD c false=false:=fun c=>by
  rw[DY];cases h:(List.replicate (3+w.parents.length) false)[c]? with
  | none=>rfl
  | some b=>rw[List.eq_of_mem_replicate (B5 h)];rfl
 exact⟨fun c h=>absurd ((this c).symm.trans h) (by decide),fun c h=>absurd ((this c).symm.trans h) (by decide)⟩
def YW {g:List (List Int)} (ho:ordered g) {AF:Nat→Bool} (hC: ∀c,3≤c→AF c=true→ ∀q∈par g c,AF q.toNat=true): ∀d b:Nat,3≤d→AF d=true→JR g d b=true→AF b=true:=by
 intro d
 induction d using Nat.strongRecOn with
 | _ d ih=>
   intro b h3 hd h;rw[Et ho]at h;simp only[Fq,Dx,JU]at h;rcases h with rfl|⟨p,hp,h⟩
   ·exact hd
   ·have:=ho d p hp
    exact ih p.toNat (by omega) b (by omega) (hC d h3 hd p hp) h
def a7 {w : AK} (hw : KE w) {ls:List Fact} (hl: ∀l∈ls,Ia w l) {a:Int} {p:List Int} {can:Int→Bool} {T:Int→UH→Prop} (hcan: ∀s,s∈Bs w.owner.length ls a p→(can s=true↔ ∃t,KO w t∧T s t))
    (hT: ∀s t,T s t↔ ∀l∈ls,(A0 l).1.arg=a→ ∀q,(A0 l).1.path=p++s::q→SD w t q (A0 l).1= !(A0 l).2) :
    (Jj w ls a p can).isSome=true↔ ∃AF kid,KO w (.obj AF kid)∧ ∀l∈ls,(A0 l).1.arg=a→ ∀q,(A0 l).1.path=p++q→SD w (.obj AF kid) q (A0 l).1= !(A0 l).2:=by
 have hL: ∀l∈ls.filter (Gr a p),Ia w l:=fun l h=>hl l (JV.1 h).1
 have hS: ∀s∈Bs w.owner.length ls a p,0≤s∧s<(w.owner.length:Int):=fun s h=>JJ h
 have hn0:(tO w).1.length=3+w.parents.length∧(tO w).2.length=3+w.parents.length:=by simp[tO]
 constructor
 ·intro h
  rw[Jj]at h;cases h1:D5 (ls.filter (Gr a p)) (tO w)with
  | none=>rw[h1]at h;cases h
  | some t=>
    rw[h1,Option.bind_some]at h;obtain⟨g1,g2⟩:=OE _ hL hn0 h1;have hn1:t.1.length=3+w.parents.length∧t.2.length=3+w.parents.length:=⟨by rw[←g1.1];exact hn0.1,by rw[←g1.2.1];exact hn0.2⟩
    cases h2:Dp w ls a p can (Bs w.owner.length ls a p) t with
    | none=>rw[h2]at h;cases h
    | some u=>
      rw[h2,Option.bind_some,SO]at h;obtain⟨g3,g4⟩:=OD hw _ hS hn1 h2;have hn2:u.1.length=3+w.parents.length∧u.2.length=3+w.parents.length:=⟨by rw[←g3.1];exact hn1.1,by rw[←g3.2.1];exact hn1.2⟩
      split at h
      ·cases h
      ·rename_i h0
       split at h
       ·cases h
       ·rename_i h3
        clear h;have hSl:(u.1.set 0 false).length=3+w.parents.length:=by simpa using hn2.1
        generalize hSd:B9 w.parents (3+w.parents.length) w.parents.length (u.1.set 0 false)=S at *
        have hin: ∀c,3≤c→u.1.getD c false=true→S.getD c false=true:=fun c hc h=>by
         rw[←hSd];refine I6 hw.ord hSl _ _ ?_;rw[DY,List.getElem?_set_ne (by omega),←DY];exact h
        have hdis: ∀c,S.getD c false=true→u.2.getD c false=true→False:=fun c k1 k2=>by
         have hc:c<3+w.parents.length:=by
          rcases Nat.lt_or_ge c (3+w.parents.length)with h|h
          ·exact h
          ·rw[DY,List.getElem?_eq_none (by omega)]at k2
           cases k2
         refine h3 (JU.2 ⟨c,List.mem_range.2 hc,?_⟩);rw[k1,k2];rfl
        have hkid: ∀s,∃t,KO w t∧((∃t,KO w t∧T s t)→T s t):=fun s=>by
         rcases Classical.em (∃t,KO w t∧T s t)with⟨t,k1,k2⟩|k
         ·exact⟨t,k1,fun _=>k2⟩
         ·exact⟨.Ym,trivial,fun h=>absurd h k⟩
        refine⟨fun c=>S.getD c false,fun s=>Classical.choose (hkid s),⟨fun c hc h q hq=>?_,fun s=>(Classical.choose_spec (hkid s)).1⟩,fun l h1 h2 q hq=>?_⟩
        ·change S.getD c false=true at h
         change S.getD q.toNat false=true
         have hcl:c<3+w.parents.length:=by
          rcases Nat.lt_or_ge c (3+w.parents.length)with h'|h'
          ·exact h'
          ·rw[DY,List.getElem?_eq_none (by rw[←hSd,EZ];omega)]at h
           cases h
         rw[←hSd]at h ⊢;exact G6 hw.ord hSl _ c (by omega) (by omega) h q hq
        ·cases q with
         | nil =>
           have k:=g2 l (JV.2 ⟨h1,Hu.2 ⟨h2,by simpa using hq⟩⟩);have k:=Ql g3 k;have hc:=(hl l h1).cls;generalize A0 l=x at *;obtain⟨f,b⟩:=x;simp only[SD,Iq,US]at *;by_cases e1:f.op≠2∨f.cls=1∨f.cls=2
           ·rw[if_pos e1]at k
            subst k;rcases e1 with e1|e1|e1
            ·simp[e1]
            ·simp[e1]
            ·simp[e1]
           ·rw [if_neg e1]at k
            have e2:f.op=2:=by
             rcases Classical.em (f.op=2)with e|e
             ·exact e
             ·exact absurd (Or.inl e) e1
            have hr:=hc e2;have e3:f.cls≠1∧f.cls≠2:=⟨fun e=>e1 (.inr (.inl e)),fun e=>e1 (.inr (.inr e))⟩
            rw[e2];rcases Classical.em (f.cls=0)with e|e
            ·rw[e]at k ⊢
             cases b
             ·rfl
             ·exfalso;exact h0 k
            ·have e4:(f.cls==0)=false:=by simpa using e
             have e5:decide (3≤f.cls)=true:=decide_eq_true (by omega);rw[e4,e5];cases b
             ·rw[if_neg (by decide)]at k
              rw[hin _ (by omega) k];rfl
             ·rw[if_pos rfl]at k
              have:S.getD f.cls.toNat false=false:=by
               rw[←Bool.not_eq_true];exact fun e=>hdis _ e k
              rw[this];rfl
         | cons s q=>
           have hs:s∈Bs w.owner.length ls a p:=(P3 hl).2 ⟨l,h1,h2,q,hq⟩;have hso:=RF hw (hS s hs);obtain⟨k1,k2⟩:=g4 s hs;simp only[SD];cases hm:S.getD (CV w s).toNat false
           ·rw[Bool.false_and]
            cases hb:EH ls a (p++[s])
            ·have:=hin _ (by omega) (k1 hb).1
             rw[hm]at this;cases this
            ·rw[K6.1 hb l h1 h2 q (by rw[hq];simp)];rfl
           ·rw[E7]
            cases hc:can s
            ·exact absurd (k2 hc) fun e=>hdis _ hm e
            ·exact(hT s _).1 ((Classical.choose_spec (hkid s)).2 ((hcan s hs).1 hc)) l h1 h2 q hq
 ·rintro ⟨AF,kid,⟨hC,U⟩,h⟩
  obtain⟨t,h1,h2⟩:=QX (AF:=AF) (kid:=kid) (ls.filter (Gr a p)) (t:=tO w) hL df fun l k=>by
   obtain⟨k1,k2⟩:=JV.1 k;obtain⟨k3,k4⟩:=Hu.1 k2;exact h l k1 k3 [] (by simpa using k4)
  obtain ⟨u,h3,h4⟩:=QW hw (AF:=AF) (can:=can) (ls:=ls) (a:=a) (p:=p) (Bs w.owner.length ls a p) (t:=t) hS h2 fun s hs=>by
   constructor
   ·intro hb
    cases e:AF (CV w s).toNat
    ·rw[K6.2 fun l k1 k2 q hq=>by
      have:=h l k1 k2 (s::q) (by rw[hq];simp);simp only[SD,e,Bool.false_and]at this
      simpa using this.symm]at hb
     cases hb
    ·rfl
   ·intro e
    refine(hcan s hs).2 ⟨kid s,U s,(hT s _).2 fun l k1 k2 q hq=>?_⟩;have:=h l k1 k2 (s::q) hq;simpa only[SD,e,E7]using this
  rw[Jj,h1,Option.bind_some,h3,Option.bind_some,SO]
  have h0:u.2.getD 0 false=false:=by
   rw[←Bool.not_eq_true];exact fun e=>(h4.2 0 e).1 rfl
  rw[h0,if_neg (by decide),if_neg]
  ·rfl
  ·rw [JU]
   rintro⟨c,-,hc⟩;rw[BY]at hc;have q1:=(OE _ hL hn0 h1).1;have q2:=(OD hw _ hS ⟨by rw[←q1.1];exact hn0.1,by rw[←q1.2.1];exact hn0.2⟩ h3).1;have hlen:(u.1.set 0 false).length=3+w.parents.length:=by rw[List.length_set,←q2.1,←q1.1];exact hn0.1
   obtain⟨d,k1,k2⟩:=F6 hw.ord hlen _ _ hc.1
   have hd0:d≠0:=by
    rintro rfl;rw[DY,List.getElem?_set_self (by rw[List.length_set]at hlen;omega)]at k1;cases k1
   rw[DY,List.getElem?_set_ne (fun e=>hd0 e.symm),←DY]at k1;have hCd:AF d=true:=(h4.1 d k1).resolve_left hd0
   have hCc:AF c=true:=by
    rcases Nat.lt_or_ge d 3 with hd|hd
    ·rw[Et hw.ord,show par w.parents d= [] from if_pos hd]at k2
     simp only[List.any_nil,Bool.or_false,Dx]at k2;subst k2;exact hCd
    ·exact YW hw.ord hC d c hd hCd k2
   have:=(h4.2 c hc.2).2;rw[hCc]at this;cases this
def TT (w:AK) (ls:List Fact) (a:Int) (p:List Int) (t:UH):Prop:= ∀l∈ls,(A0 l).1.arg=a→ ∀q,(A0 l).1.path=p++q→SD w t q (A0 l).1= !(A0 l).2
def Xt {w:AK} {ls:List Fact} (hl: ∀l∈ls,Ia w l) {a:Int} {p:List Int}:HP w.owner.length ls a p=true↔TT w ls a p .Ym:=by
 rw[HP,BY,EN,TQ hl];constructor
 ·rintro⟨h1,h2⟩ l k1 k2 q hq
  cases q with
  | nil=>
    have:=h1 l (JV.2 ⟨k1,Hu.2 ⟨k2,by simpa using hq⟩⟩);simp only[SD,Iq,IJ]at *
    revert this
    cases((A0 l).1.op==2&&((A0 l).1.cls==0||(A0 l).1.cls==2))<;>cases(A0 l).2<;>decide
  | cons s q=>simp[SD,h2 l k1 k2 s q hq]
 ·intro h
  refine⟨fun l k=>?_,fun l k1 k2 s q hq=>?_⟩
  ·obtain⟨k1,k2⟩:=JV.1 k
   obtain⟨k3,k4⟩:=Hu.1 k2;have:=h l k1 k3 [] (by simpa using k4);simp only[SD,Iq,IJ]at *
   revert this
   cases((A0 l).1.op==2&&((A0 l).1.cls==0||(A0 l).1.cls==2))<;>cases(A0 l).2<;>decide
  ·have:=h l k1 k2 (s::q) hq
   simpa[SD]using this.symm
def bS {w:AK} {ls:List Fact} (hl: ∀l∈ls,Ia w l) {a:Int} {p:List Int}:((Ic ls a p).isSome&&FG w.owner.length ls a p)=true↔ ∃m,KO w (.int m)∧TT w ls a p (.int m):=by
 rw[BY,TQ hl,bR hl];constructor
 ·rintro⟨⟨m,h1,h2⟩,h3⟩
  refine⟨m,h1,fun l k1 k2 q hq=>?_⟩;cases q with
  | nil=>exact h2 l k1 k2 (by simpa using hq)
  | cons s q=>simp[SD,h3 l k1 k2 s q hq]
 ·rintro⟨m,h1,h2⟩
  refine⟨⟨m,h1,fun l k1 k2 k3=>h2 l k1 k2 [] (by simpa using k3)⟩,fun l k1 k2 s q hq=>?_⟩;have:=h2 l k1 k2 (s::q) hq;simpa[SD]using this.symm
def Wx {w:AK} (hw:KE w) {ls:List Fact} (hl: ∀l∈ls,Ia w l) {a:Int} {p:List Int} {can:Int→Bool} (hcan: ∀s,s∈Bs w.owner.length ls a p→(can s=true↔ ∃t,KO w t∧TT w ls a (p++[s]) t)) :
    (((Ic ls a p).isSome&&FG w.owner.length ls a p)||(HP w.owner.length ls a p||(Jj w ls a p can).isSome))=true↔ ∃t,KO w t∧TT w ls a p t:=by
 rw[Fq,Fq,bS hl,Xt hl,a7 hw hl (T:=fun s t=>TT w ls a (p++[s]) t) hcan fun s t=>by simp only[TT,UC,List.singleton_append]];constructor
 ·rintro(⟨m,h1,h2⟩|h|⟨AF,kid,h1,h2⟩)
  ·exact⟨_,h1,h2⟩
  ·exact⟨.Ym,trivial,h⟩
  ·exact⟨_,h1,h2⟩
 ·rintro⟨t,h1,h2⟩
  cases t with
  | int m=>exact .inl ⟨m,h1,h2⟩
  | Ym=>exact .inr (.inl h2)
  | obj AF kid=>exact .inr (.inr ⟨AF,kid,h1,h2⟩)
def OH {w:AK} (hw:KE w) {ls:List Fact} (hl: ∀l∈ls,Ia w l) (a:Int): ∀(d:Nat) (p:List Int),p.length+d=2→(KT w ls a d p=true↔ ∃t,KO w t∧TT w ls a p t)
 | 0,p,hp=>by
   rw[KT];refine Wx hw hl fun s hs=>?_
   rw[Lx (m:=2) (fun l h=>(hl l h).short) (by omega)]at hs;cases hs
 | d+1,p,hp=>by
   rw[KT];exact Wx hw hl fun s hs=>OH hw hl a d (p++[s]) (by simp;omega)
def Q4 (w:AK) (M:Int→UH) (l:Fact):Prop:=SD w (M (A0 l).1.arg) (A0 l).1.path (A0 l).1= !(A0 l).2
def Sw {w:AK} (hw:KE w) {ls:List Fact} (hl: ∀l∈ls,Ia w l):Gs w ls=true↔ ∃M:Int→UH,(∀a,KO w (M a))∧ ∀l∈ls,Q4 w M l:=by
 rw[Gs,EN];constructor
 ·intro h
  have hk: ∀a:Int,∃t,KO w t∧(0≤a∧a<3→TT w ls a [] t):=fun a=>by
   rcases Classical.em (0≤a∧a<3)with e|e
   ·obtain⟨t,h1,h2⟩:=(OH hw hl a 2 [] rfl).1 (h a (FR.2 e))
    exact⟨t,h1,fun _=>h2⟩
   ·exact⟨.Ym,trivial,fun k=>absurd k e⟩
  exact⟨fun a=>Classical.choose (hk a),fun a=>(Classical.choose_spec (hk a)).1,fun l k=>(Classical.choose_spec (hk (A0 l).1.arg)).2 (hl l k).arg l k rfl _ rfl⟩
 ·rintro⟨M,h1,h2⟩ a _
  refine(OH hw hl a 2 [] rfl).2 ⟨M a,h1 a,fun l k1 k2 q hq=>?_⟩;have:=h2 l k1;rw[Q4,k2]at this;rw[List.nil_append]at hq;rw[←hq];exact this
def nj (w:AK) (M:Int→UH) (f:Fact) (l:List Bool):Bool:=
 if f.op=1 then true else if f.op=5 then !l.getD 0 false else if f.op=6 then l.getD 0 false&&l.getD 1 false else if f.op=7 then l.getD 0 false||l.getD 1 false else SD w (M f.arg) f.path f
def Vm (w:AK) (M:Int→UH) (f:Fact):Bool:=f.HK (nj w M)
def Uc (w:AK) (M:Int→UH) (f:Fact):Vm w M f=nj w M f (f.kids.map (Vm w M)):=Fact.Dg (nj w M) f
def TJ (a:List Fact) (Q:Fact→Prop): ∀b:List Fact,(∀x∈CW a b,Q x)↔(∀x∈a,Q x)∧ ∀x∈b,Q x:=by
 intro b
 induction b generalizing a with
 | nil=>simp[CW]
 | cons y r ih=>
   rw[CW,ih];split
   ·rename_i h
    obtain⟨z,h1,h2⟩:=JU.1 h;have:=(Ly y z).1 h2;subst this;simp only[List.forall_mem_cons];constructor
    ·rintro⟨h3,h4⟩;exact⟨h3,h3 _ h1,h4⟩
    ·rintro⟨h3,_,h4⟩;exact⟨h3,h4⟩
   ·simp only[List.forall_mem_append,List.forall_mem_cons,List.forall_mem_nil]
    constructor
    ·rintro⟨⟨h1,h2,_⟩,h3⟩;exact⟨h1,h2,h3⟩
    ·rintro⟨h1,h2,h3⟩;exact⟨⟨h1,h2,fun _ h=>by cases h⟩,h3⟩
def Qh {w : AK} {M:Int→UH} (f:Fact):Bj w f=true→ ∀c,(∃l∈BS f c,∀x∈l,Q4 w M x)↔Vm w M f= !c:=by
 induction f using Fact.ind with
 | h f ih=>
   intro h c;have har:=C0 f h;have h':=h;rw[Ch,BY,EN]at h';rw[F8,FN,Uc,nj];by_cases h1:f.op=1
   ·rw[if_pos h1,if_pos h1]
    cases c<;>simp
   rw[if_neg h1,if_neg h1];by_cases h5:f.op=5
   ·obtain⟨a,ha,hb⟩:=H2 har h5
    rw[if_pos h5,if_pos h5,ha];have:=ih a (by rw[ha];exact .head _) (h'.2 a (by rw[ha];exact .head _)) (!c);simp only[E8,List.map_nil,List.getD_cons_zero];rw[this];cases Vm w M a<;>cases c<;>decide
   rw[if_neg h5,if_neg h5];by_cases h6:f.op=6∨f.op=7
   ·obtain⟨a,b,ha,hb1,hb2⟩:=H0 har h6
    rw[if_pos h6,ha];have i1:=ih a (by rw[ha];exact .head _) (h'.2 a (by rw[ha];exact .head _)) c;have j1:=ih b (by rw[ha];exact .tail _ (.head _)) (h'.2 b (by rw[ha];exact .tail _ (.head _))) c;simp only[E8,List.map_nil,List.getD_cons_zero,List.getD_cons_succ]
    have happ:(∃l∈BS a c++BS b c,∀x∈l,Q4 w M x)↔Vm w M a= !c∨Vm w M b= !c:=by
     rw[←i1,←j1];constructor
     ·rintro⟨l,hl,hx⟩
      rcases Fs.1 hl with hl|hl
      ·exact .inl ⟨l,hl,hx⟩
      ·exact .inr ⟨l,hl,hx⟩
     ·rintro(⟨l,hl,hx⟩|⟨l,hl,hx⟩)
      ·exact⟨l,PL _ hl,hx⟩
      ·exact⟨l,PH _ hl,hx⟩
    have hprod:(∃l∈Dl (BS a c) (BS b c),∀x∈l,Q4 w M x)↔Vm w M a= !c∧Vm w M b= !c:=by
     rw[←i1,←j1];simp only[Dl,List.mem_flatMap,Mk];constructor
     ·rintro⟨l,⟨y,hy,z,hz,rfl⟩,hx⟩
      rw[TJ]at hx;exact⟨⟨y,hy,hx.1⟩,z,hz,hx.2⟩
     ·rintro⟨⟨y,hy,h1⟩,z,hz,h2⟩
      exact⟨_,⟨y,hy,z,hz,rfl⟩,(TJ y _ z).2 ⟨h1,h2⟩⟩
    rcases h6 with h6|h6
    ·rw[if_pos h6,h6]
     cases c
     ·rw[if_neg (by decide),hprod]
      simp
     ·rw[if_pos (by decide),happ]
      simp only[Bool.not_true,Bool.and_eq_false_iff]
    ·rw[if_neg (by omega: ¬f.op=6),if_pos h6,h6]
     cases c
     ·rw[if_pos (by decide),happ]
      simp
     ·rw[if_neg (by decide),hprod]
      simp only[Bool.not_true,Bool.or_eq_false_iff]
   ·rw[if_neg h6,if_neg (fun e=>h6 (.inl e)),if_neg (fun e=>h6 (.inr e))]
    have e1:Q4 w M f↔SD w (M f.arg) f.path f=true:=by rw[Q4,A0,if_neg h5];exact Iff.rfl
    have e2:Q4 w M (FX f)↔SD w (M f.arg) f.path f=false:=by
     rw[Q4,show A0 (FX f)=(f,true) from rfl];exact Iff.rfl
    cases c
    ·simp[e1]
    ·simp[e2]
def an {w:AK} (hw:KE w) {f:Fact} (hn:Bj w f=true):PO w f=true↔ ∃M:Int→UH,(∀a,KO w (M a))∧Vm w M f=true:=by
 rw[PO,JU];constructor
 ·rintro⟨l,h1,h2⟩
  obtain⟨M,h3,h4⟩:=(Sw hw fun x hx=>WV (Em f hn false l h1 x hx)).1 h2;exact⟨M,h3,(Qh f hn false).1 ⟨l,h1,h4⟩⟩
 ·rintro⟨M,h1,h2⟩
  obtain⟨l,h3,h4⟩:=(Qh f hn false).2 h2;exact⟨l,h3,(Sw hw fun x hx=>WV (Em f hn false l h3 x hx)).2 ⟨M,h1,h4⟩⟩
def N8 {w:AK} (hw:KE w) {a b:Fact} (ha:Bj w a=true) (hb:Bj w b=true):Q7 w a b=true↔ ∀M:Int→UH,(∀x,KO w (M x))→Vm w M a=true→Vm w M b=true:=by
 have he: ∀M,Vm w M (Mq a (FX b))=(Vm w M a&& !Vm w M b):=fun M=>by
  rw[Uc];simp only[nj,Mq,Fact.op,Fact.kids,E8,List.map_nil,List.getD_cons_zero,List.getD_cons_succ];rw[Uc w M (FX b)];simp[nj,FX,Fact.op,Fact.kids]
 rw[Q7,Bool.not_eq_true',←Bool.not_eq_true,an hw (N2 ha hb)];constructor
 ·intro h M h1 h2
  rw[←Bool.not_eq_false];exact fun h3=>h ⟨M,h1,by rw[he,h2,h3];rfl⟩
 ·rintro h ⟨M,h1,h2⟩
  rw[he,BY]at h2;rw[h M h1 h2.1]at h2;simp at h2
def imp_trans {w:AK} (hw:KE w) {a b c:Fact} (ha:Bj w a=true) (hb:Bj w b=true) (hc:Bj w c=true) (h1:Q7 w a b=true) (h2:Q7 w b c=true):Q7 w a c=true:=
 (N8 hw ha hc).2 fun M hM h=>(N8 hw hb hc).1 h2 M hM ((N8 hw ha hb).1 h1 M hM h)
def Ox {p:Prog} (hok:Db p) {i j k:Int} (hi:A1 p i=true) (hj:A1 p j=true) (hk:A1 p k=true) (h1:EP p i j=true) (h2:EP p j k=true):EP p i k=true:=
 imp_trans hok.nc (hok.facts _ (B5 (Br hi))).1 (hok.facts _ (B5 (Br hj))).1 (hok.facts _ (B5 (Br hk))).1 h1 h2
def Vj {p:Prog} {i j:Int}:AY p i j=true↔EP p i j=true∧EP p j i=false:=by
 rw[AY,BY,Bool.not_eq_true']
def PD {p:Prog} (i:Int):AY p i i=false:=by
 rw[AY];cases EP p i i<;>rfl
def R7 {p:Prog} (hok:Db p) {i j k:Int} (hi:A1 p i=true) (hj:A1 p j=true) (hk:A1 p k=true) (h1:AY p i j=true) (h2:AY p j k=true):AY p i k=true:=by
 rw[Vj]at *;refine⟨Ox hok hi hj hk h1.1 h2.1,?_⟩;rw[←Bool.not_eq_true];intro e;have:=Ox hok hk hi hj e h1.1;rw[h2.2]at this;cases this
def av {p:Prog} {gen kind:Int} {i j:Nat}:IZ p gen kind i j=true↔((BN p i).gen=gen∧(BN p i).kind=kind)∧((BN p j).gen=gen∧(BN p j).kind=kind)∧AY p i j=true:=by
 simp only[IZ,CR,BY,Dx];constructor
 ·rintro⟨h1,h2,⟨h3,h4⟩,h5⟩
  exact⟨⟨h1,h2⟩,⟨by rw[←h3,h1],by rw[←h4,h2]⟩,h5⟩
 ·rintro⟨⟨h1,h2⟩,⟨h3,h4⟩,h5⟩
  exact⟨h1,h2,⟨by rw[h1,h3],by rw[h2,h4]⟩,h5⟩
def dK {p:Prog} {gen:Int} {i j:Nat} (h:SB p gen i j=true):((BN p i).gen=gen∧(BN p j).gen=gen)∧(BN p i).kind=(BN p j).kind∧EP p i j=true∧EP p j i=true:=by
 simp only[SB,CR,BY,Dx]at h;obtain⟨-,h1,⟨h2,h3⟩,h4,h5⟩:=h;exact⟨⟨h1,by rw[←h2,h1]⟩,h3,h4,h5⟩
end Go.Gl
namespace Go.Gl
open Go.Proofs
attribute [local irreducible] BJ A2 Ak AW AM Aj AV AX AN Ai AR AU A5 BF Sat Ad BD Al W
def dN (p:Prog) (L:Nat) (m:Int) (hok:Db p) (hgw:CQ (AS p)) (hfm: ∀x∈p.methods,Cf (AS p) x.fact=true) (hm:A1 p m=true) :
    DC Tryz.prog (.f (.func 105) [] [.rp [Ft p L],.rp [eI m]]) eI (fun M=>[.map L (FI p M)]) (fun y M=>(AY p y m,NX p M y m)) (fun y _=>A1 p y=true):=by
 intro y M hy σ hs;refine Bp ?_;show BJ Tryz.prog 105 ([]++[eI y]++[.rp [Ft p L],.rp [eI m]]) σ _;refine m8 kZ ?_
 conv=>whnf
 repeat'((first|apply st|(apply sq;intro K U)|(apply si;intro A B Y Z)|(apply Y;clear Z B Y A)|(apply U;clear U K)|fail)<;>conv=>whnf)
 refine(ON p L y m hok hgw hfm hy hm M).use (rest:=[]) (by simpa using hs) ?_;clear hs;rintro r post σ ⟨rfl,rfl⟩ hs
 conv=>whnf
 repeat'((first|apply st|(apply Y;clear Z B Y A)|(apply U;clear U K)|fail)<;>conv=>whnf)
 exact Ap hs (List.sublist_append_left _ _) (.refl _) fun σ' hs'=>⟨rfl,hs'⟩
def Qb {S:Type} {stp:Int→S→Bool×S} {q:Int→Bool}: ∀(xs:List Int) (k:Nat) (s:S),(∀y∈xs,∀s,(stp y s).1=q y)→(Bo stp xs k s).1=match(List.range xs.length).find? fun i=>q (xs.getD i 0)with|some i=>((k+i:Nat):Int)|none=> -1
 | [],_,_,_=>rfl
 | y ::r,k,s,h=>by
   rw[Bo,h y (.head _)];have ih:=Qb r (k+1) (stp y s).2 fun z hz=>h z (.tail _ hz)
   rw[KH,List.range_succ_eq_map,List.find?_cons,List.getD_cons_zero];cases hq:q y
   ·rw[if_neg (by decide),ih]
    simp only[List.find?_map,Function.comp_def,Nat.succ_eq_add_one,List.getD_cons_succ];cases(List.range r.length).find? fun i=>q (r.getD i 0)with
    | none=>rfl
    | some i=>simp only[Yk];congr 1;omega
   ·rw[if_pos rfl];simp
def n8 (p:Prog) (l:List Int) (m:Int) (M:List (Int×Int)):List (Int×Int):=(Bo (fun y M=>(AY p y m,NX p M y m)) l 0 M).2
def V3 (p:Prog) (L nb:Nat) (l:List Int) (f:Bool) (hok:Db p) (hgw:CQ (AS p)) (hfm: ∀x∈p.methods,Cf (AS p) x.fact=true) (hl: ∀x∈l,A1 p x=true) :
    DC Tryz.prog (.f (.func 104) [] [.p nb 0,.rp [Ft p L]]) eI (fun M=>[.box nb [.l (iL l) f],.map L (FI p M)]) (fun m M=>(!(decide ((Bo (fun y M=>(AY p y m,NX p M y m)) l 0 M).1≥0)),n8 p l m M)) (fun m _=>A1 p m=true):=by
 intro m M hm σ hs;refine Bp ?_;show BJ Tryz.prog 104 ([]++[eI m]++[.p nb 0,.rp [Ft p L]]) σ _;refine m9 kZ ?_
 conv=>whnf
 repeat'((first|(apply sq;intro K U)|(apply si;intro A B Y Z)|(apply Y;clear Z B Y A)|(apply U;clear U K)|refine ld ?_|fail)<;>conv=>whnf)
 refine(GU 105 [] [.rp [Ft p L],.rp [eI m]] (fun M=>[.map L (FI p M)]) _ _ (dN p L m hok hgw hfm hm) l f M (Gy fun y hy _=>hl y hy)).use (rest:=[_]) (hs.perm (.swap _ _ _)) ?_;clear hs;rintro r post σ ⟨rfl,rfl⟩ hs
 conv=>whnf
 repeat'((first|apply st|(apply Y;clear Z B Y A)|(apply U;clear U K)|fail)<;>conv=>whnf)
 exact Ap (hs.perm (.swap _ _ _)) (List.Sublist.refl _) (.refl _) fun σ' hs'=>⟨rfl,hs'⟩
def ZY {p:Prog} (hok:Db p): ∀(l:List Int),l≠[]→(∀x∈l,A1 p x=true)→ ∃x∈l,∀y∈l,AY p y x=false
 | [],h,_=>absurd rfl h
 | x ::r,_,h=>by
   by_cases hr:r= []
   ·subst hr
    exact⟨x,.head _,fun y hy=>by rw[LV.1 hy];exact PD x⟩
   obtain⟨z,hz,hz2⟩:=ZY hok r hr fun y hy=>h y (.tail _ hy)
   cases hxz:AY p x z
   ·refine⟨z,.tail _ hz,fun y hy=>?_⟩
    rcases GB.1 hy with rfl|hy
    ·exact hxz
    ·exact hz2 y hy
   ·refine⟨x,.head _,fun y hy=>?_⟩
    rcases GB.1 hy with rfl|hy
    ·exact PD y
    ·rw[←Bool.not_eq_true]
     intro e;have:=R7 hok (h y (.tail _ hy)) (h x (.head _)) (h z (.tail _ hz)) e hxz;rw[hz2 y hy]at this;cases this
def L2 {p:Prog} (hok:Db p) {l:List Int} (hl:l≠[]) (h: ∀x∈l,A1 p x=true): ∃i,PQ (AY p) l=some i:=by
 obtain⟨x,hx,hx2⟩:=ZY hok l hl h;obtain⟨i,hi⟩:=List.getElem?_of_mem hx;cases hm:PQ (AY p) l with
 | some i=>exact⟨i,rfl⟩
 | none=>
   rw[PQ,List.find?_range_eq_none]at hm;have h1:=hm i (G7.1 hi).1
   have h2:UN (AY p) l i l.length=true:=by
    rw[UN,EN];intro k hk;rw[C9 hi,hx2 _ (QU (List.mem_range.1 hk))];rfl
   rw[h2]at h1;cases h1
end Go.Gl
namespace Go.Gl
variable {P:Program} {σ:AH}
def aM {L:Nat} {args:List V} {Q:R→AH→Prop} (h:NZ P L args σ Q):A5 P (.f (.yield L) [] []) args σ Q:=h
def El {L:Nat} {E:Env} {ps:List Nat} {a b:AJ} {args:List V} {l:List At} (hl:args.length=ps.length) (hs:Sat σ (.obj L (.loop .ready E (B8 P ps a b))::l)) {Q:R→AH→Prop}
    (h: ∀σ,Sat σ l→W P a (Cp (W P b fun ex env' σ'=>σ' L=none→RP L E (B8 P ps a b) Q ex env' σ')) (Jv ps args E) σ):NZ P L args σ Q:=
 O7 (hs.get (i:=0) rfl) hl (h _ hs.del)
end Go.Gl
namespace Go.Gl
open Go.Proofs
attribute [local irreducible] BJ A2 Ak AW AM Aj AV AX AN Ai AR AU A5 BF Sat Ad BD Al W
def Pz (xs:List Int) (f:Bool):Pure Tryz.prog 102 [.l (iL xs) f] (.f (.func 136) [] [.rp [.l (iL xs) f]]):=by
 refine nA kZ ?_;have hs:=Sn
 conv=>whnf
 repeat'((first|apply st|(apply sq;intro K U)|(apply si;intro A B Y Z)|(apply Y;clear Z B Y A)|(apply U;clear U K)|fail)<;>conv=>whnf)
 all_goals exact AI rfl
def dH (xs:List Int) (f:Bool) (hxl:xs.length≤1000) {S:Type} {fn:Fn} {fi ca:List V} {H:S→List At} (Inv:Nat→S→Prop) {s:S} (h0:Inv 0 s)
    (hT: ∀(k:Nat) s y,xs[k]? =some y→Inv k s→ ∀σ:AH,Sat σ (H s)→A5 Tryz.prog (.f fn fi ca) [eI y] σ fun r σ'=> ∃s',r= .ret (.b true)∧Inv (k+1) s'∧Sat σ' (H s')) (σ:AH) (hs:Sat σ (H s)) :
    BJ Tryz.prog 136 [.f fn fi ca,.rp [.l (iL xs) f]] σ fun r σ'=> ∃s',r= .ret (.t [])∧Inv xs.length s'∧Sat σ' (H s'):=by
 have hM:=Mx;refine mW kZ ?_
 conv=>whnf
 repeat'((first|apply st|(apply sq;intro K U)|(apply si;intro A B Y Z)|(apply Y;clear Z B Y A)|(apply U;clear U K)|fail)<;>conv=>whnf)
 refine B2 xs.length (fun k (_:S)=>[(7,eI (A4 k))]) (fun _ s'=>H s') (fun k s'=>Inv k s') s rfl h0 hs ?_;clear hs;rintro k s' σ hk ho hs;rcases BC xs hk with⟨y,hy,hlt⟩|hke
 ·have hT':=hT k s' y hy ho
  conv=>whnf
  repeat'((first|apply st|(apply sq;intro K U)|(apply si;intro A B Y Z)|(apply Y;clear Z B Y A)|(apply U;clear U K)|refine⟨rfl,?_⟩|refine ix ?_|(refine CK (fun hc=>?_)<;>(try rw[hc])<;>clear hc)|fail)<;>conv=>whnf)
  refine(hT' σ hs).mono ?_;rintro r σ ⟨s2,rfl,hi2,hs⟩
  conv=>whnf
  repeat'((first|apply st|(apply si;intro A B Y Z)|(apply Y;clear Z B Y A)|(apply U;clear U K)|refine⟨rfl,?_⟩|refine De ?_|fail)<;>conv=>whnf)
  exact⟨hlt,_,rfl,hi2,hs⟩
 ·rw[hke]at ho
  conv=>whnf
  repeat'((first|apply st|(apply sq;intro K U)|(apply si;intro A B Y Z)|(apply Y;clear Z B Y A)|(apply U;clear U K)|refine⟨rfl,?_⟩|(refine DR (fun hc=>?_)<;>(try rw[hc])<;>clear hc)|clear U K)<;>conv=>whnf)
  exact AQ ⟨_,rfl,ho,hs⟩
def Yc (xs:List Int) (f:Bool) (hxl:xs.length≤1000):Bk Tryz.prog 118 [.l [] true,.f (.func 136) [] [.rp [.l (iL xs) f]]] [] fun r post=> ∃v,r= .ret v∧post= [.own v 1 (iL xs)]∧((B7 v).isSome=true∨(v= .l [] true∧xs= [])):=by
 intro σ hs;have hM:=Mx;refine Zx kZ ?_
 conv=>whnf
 repeat'((first|apply st|(apply sq;intro K U)|(apply si;intro A B Y Z)|(apply Y;clear Z B Y A)|(apply U;clear U K)|(intro nn hnn;generalize hg:BA _ nn _=σ;refine Ct hg fun hs=>?_;clear hg)|fail)<;>conv=>whnf)
 rename_i nb _ _ _;clear hnn
 revert hs
 generalize hE:([(2,V.p nb 0)]:Env)=E;generalize hk:B8 _ _ _ _=ok;intro hs;refine BJ.mono (dH xs f hxl (fn:= .yield nn) (fi:=[]) (ca:=[]) (H:=fun s:V×List Int=> .obj nn (.loop .ready E ok):: [.box nb [s.1],.own s.1 1 (iL s.2)]) (fun k s=>s.2=xs.take k∧(1≤k→(B7 s.1).isSome=true)∧(k=0→s.1= .l [] true)) (s:=(.l [] true,[])) ⟨rfl,fun h=>by omega,fun _=>rfl⟩ ?_ σ ((C7 hs 1).perm (IL _ _ _ _))) ?_
 ·clear hs
  subst hE hk;rintro k ⟨v,ys⟩ y hy ⟨h1,h2,h3⟩ σ hs;dsimp only at h1 h2 h3 hs;have hkl:k<xs.length:=(G7.1 hy).1;have hyl:ys.length=k:=by rw[h1,KG];omega
  have hll:ys.length<Af∧(ys.length+1)*8≤140737488355328:=by omega
  refine aM (El (l:=[.box nb [v],.own v 1 (iL ys)]) rfl hs ?_);clear hs;intro σ hs
  conv=>whnf
  repeat'((first|apply st|(apply si;intro A B Y Z)|(apply Y;clear Z B Y A)|refine ld ?_|refine FB fun σ hs=>?_|refine aq fun v σ hs hsl=>?_|clear U K)<;>conv=>whnf)
  intro hn;exact⟨(v,ys++[y]),rfl,⟨by rw[AO hy,h1],fun _=>hsl,fun h=>by omega⟩,hs.Jm hn⟩
 ·clear hs
  rintro r σ ⟨⟨v,ys⟩,rfl,⟨h1,h2,h3⟩,hs⟩;dsimp only at h1 h2 h3 hs;refine Fi hs fun σ hs=>?_
  conv=>whnf
  repeat'((first|apply st|(apply sq;intro K U)|(apply si;intro A B Y Z)|(apply Y;clear Z B Y A)|(apply U;clear U K)|refine ld ?_|fail)<;>conv=>whnf)
  rw[List.take_length]at h1;subst h1;refine Ap hs (Ji _ _) (.refl _) fun σ' hs'=>⟨_,⟨v,rfl,rfl,?_⟩,hs'⟩
  rcases Nat.eq_zero_or_pos ys.length with h|h
  ·exact .inr ⟨h3 h,Yq.1 h⟩
  ·exact .inl (h2 h)
def YT (xs:List Int) (f:Bool) (hxl:xs.length≤1000):Bk Tryz.prog 84 [.f (.func 136) [] [.rp [.l (iL xs) f]]] [] fun r post=> ∃v,r= .ret v∧post= [.own v 1 (iL xs)]∧((B7 v).isSome=true∨(v= .l [] true∧xs= [])):=by
 intro σ hs;refine gD kZ ?_
 conv=>whnf
 repeat'((first|(apply sq;intro K U)|(apply si;intro A B Y Z)|(apply Y;clear Z B Y A)|(apply U;clear U K)|fail)<;>conv=>whnf)
 refine(Yc xs f hxl).use (rest:=[]) (by simpa using hs) ?_;clear hs;rintro r post σ ⟨v,rfl,rfl,hv⟩ hs
 conv=>whnf
 repeat'((first|apply st|(apply Y;clear Z B Y A)|(apply U;clear U K)|fail)<;>conv=>whnf)
 exact Ap hs (List.sublist_append_left _ _) (.refl _) fun σ' hs'=>⟨_,⟨v,rfl,rfl,hv⟩,hs'⟩
def P2 (xs:List Int) (f:Bool) (hxl:xs.length≤1000):Pure Tryz.prog 101 [.f (.func 136) [] [.rp [.l (iL xs) f]]] (.l (iL (xs.mergeSort G8)) false):=by
 refine nB kZ ?_;have hs:=Sn
 conv=>whnf
 repeat'((first|(apply sq;intro K U)|(apply si;intro A B Y Z)|(apply Y;clear Z B Y A)|(apply U;clear U K)|fail)<;>conv=>whnf)
 refine(YT xs f hxl).use (rest:=[]) (by simpa using hs) ?_;clear hs;rintro r post σ ⟨v,rfl,rfl,hv⟩ hs
 conv=>whnf
 repeat'((first|(apply sq;intro K U)|(apply si;intro A B Y Z)|(apply Y;clear Z B Y A)|(apply U;clear U K)|fail)<;>conv=>whnf)
 refine(Y5 hv).use (rest:=[]) hs ?_;clear hs;rintro r post σ ⟨rfl,rfl⟩ hs
 conv=>whnf
 repeat'((first|apply st|(apply sq;intro K U)|(apply si;intro A B Y Z)|(apply Y;clear Z B Y A)|(apply U;clear U K)|fail)<;>conv=>whnf)
 exact Bh (hs.Pm 0 rfl)
def Qc {S:Type} {stp:Int→S→Bool×S} {q:Int→Bool}: ∀(xs:List Int) (k:Nat) (s:S),(∀y∈xs,∀s,(stp y s).1=q y)→decide ((Bo stp xs k s).1≥0)=xs.any q
 | [],_,_,_=>rfl
 | y ::r,k,s,h=>by
   rw[Bo,h y (.head _),Qw];cases hq:q y
   ·rw[if_neg (by decide),Bool.false_or]
    exact Qc r (k+1) _ fun z hz=>h z (.tail _ hz)
   ·rw[if_pos rfl,Bool.true_or]
    exact decide_eq_true (Int.natCast_nonneg k)
def Xi (l:List Int) (q:Int→Bool):(List.range l.length).all (fun j=> !q (l.getD j 0))= !l.any q:=by
 rw[LW,EN,Bool.not_eq_true',←Bool.not_eq_true,JU];constructor
 ·rintro h ⟨x,hx,hq⟩
  obtain⟨i,hi⟩:=List.getElem?_of_mem hx;have:=h i (List.mem_range.2 (G7.1 hi).1);rw[C9 hi,hq]at this;cases this
 ·intro h j hj
  cases hq:q (l.getD j 0)
  ·rfl
  ·exact absurd ⟨_,QU (List.mem_range.1 hj),hq⟩ h
def Wm {p:Prog} {l:List Int} {M:List (Int×Int)}:(Bo (fun(m:Int) (M:List (Int×Int))=>(!(decide ((Bo (fun y M=>(AY p y m,NX p M y m)) l 0 M).1≥0)),n8 p l m M)) l 0 M).1=match PQ (AY p) l with|some i=>((i:Nat):Int)|none=> -1:=by
 rw[Qb (q:=fun m=> !l.any fun y=>AY p y m) l 0 M fun m _ s=>by dsimp only;rw[Qc (q:=fun y=>AY p y m) l 0 s fun y _ s=>rfl]];rw[PQ,find_congr (g:=fun i=>UN (AY p) l i l.length) fun i _=>by rw[UN,Xi l fun y=>AY p y (l.getD i 0)]];cases(List.range l.length).find? fun i=>UN (AY p) l i l.length with
 | none=>rfl
 | some i=>simp
set_option maxHeartbeats 4000000 in
def Ya (p:Prog) (L:Nat) (l:List Int) (f:Bool) (hok:Db p) (hgw:CQ (AS p)) (hfm: ∀x∈p.methods,Cf (AS p) x.fact=true) (hl:Gz p l) (hnd:l.Nodup) (M:List (Int×Int)) :
    Bk Tryz.prog 69 [Ft p L,.l (iL l) f] [.map L (FI p M)] fun r post=>r= .ret (.l (iL (Dj (AY p) l.length (l.mergeSort G8))) true)∧ ∃M',post= [.map L (FI p M')]:=by
 intro σ hs;have hM:=Mx;have h16:=hl.many;have hml:(l.mergeSort G8).length=l.length:=List.length_mergeSort _;have c1:=Pz l f;have c2:=P2 l f (by omega);refine gI kZ ?_
 conv=>whnf
 repeat'((first|apply st|(apply sq;intro K U)|(apply si;intro A B Y Z)|(apply Y;clear Z B Y A)|(apply U;clear U K)|refine ld ?_|refine FB fun σ hs=>?_|refine c1.use ?_|refine c2.use ?_|(intro nn hnn;generalize hg:BA _ nn _=σ;refine Ct hg fun hs=>?_;clear hg)|fail)<;>conv=>whnf)
 clear c1 c2 hnn
 refine Fo (fun(x:List Int×Bool×V×List Int×List (Int×Int))=>x.1.length) (fun x=>[(5,x.2.2.1)]) (fun x=>[.box nn [.l (iL x.1) x.2.1],.own x.2.2.1 1 (iL x.2.2.2.1),.map L (FI p x.2.2.2.2)])
  (fun x=>(∀y∈x.1,A1 p y=true)∧x.1.Nodup∧x.2.2.2.1.length+x.1.length≤16∧Dj (AY p) l.length (l.mergeSort G8)=x.2.2.2.1++Dj (AY p) x.1.length x.1) (l.mergeSort G8,false,.l [] true,[],M) rfl ⟨fun y hy=>hl.Fb y (List.mem_mergeSort.1 hy),(List.mergeSort_perm l G8).symm.nodup hnd,by simpa[hml]using h16,by simp[hml]⟩ ((C7 hs 1).perm (.swap _ _ _)) ?_
 clear hs;rintro⟨l',f',v,out,M⟩ σ ⟨hme,hn,hlen,hm⟩ hs;dsimp only at hme hn hlen hm hs;dsimp only;have hll:out.length<Af∧(out.length+1)*8≤140737488355328:=by omega
 by_cases hz:l'.length=0
 ·rw[hz]at hm
  simp only[Dj,Ig]at hm
  conv=>whnf
  repeat'((first|apply st|(apply sq;intro K U)|(apply si;intro A B Y Z)|(apply Y;clear Z B Y A)|(apply U;clear U K)|refine⟨rfl,?_⟩|refine ld ?_|(constructor<;>intro hc<;>(try rw[hc])<;>(replace hc:=bp hc)<;>(try simp(disch:=omega) only[BQ,wrap64,AL]at hc)<;>try(exfalso;omega))|clear U K)<;>conv=>whnf)
  refine(Nt out v (by omega)).use (rest:=[_,_]) (hs.perm (.swap _ _ _)) ?_;clear hs;rintro r post σ ⟨rfl,rfl⟩ hs
  conv=>whnf
  repeat'((first|apply st|(apply Y;clear Z B Y A)|(apply U;clear U K)|fail)<;>conv=>whnf)
  exact Ap hs (Ji _ _) (.refl _) fun σ' hs'=>⟨_,⟨by rw[hm],M,rfl⟩,hs'⟩
 ·obtain⟨n,hnn⟩: ∃n,l'.length=n+1:=⟨l'.length - 1,by omega⟩
  have hne:l'≠[]:=fun e=>hz (by rw[e];rfl)
  obtain⟨i,hi⟩:=L2 hok hne hme;have hil:i<l'.length:=by simpa using List.mem_of_find?_eq_some hi
  obtain⟨x,hx⟩: ∃x,l'[i]? =some x:=⟨_,DJ hil⟩
  rw[hnn,Dj,hi,Option.getD_some,C9 hx]at hm;have c3:=Lq l' f' x (by omega);rw[E5 hn hx]at c3;have hel:=List.length_eraseIdx_of_lt hil
  conv=>whnf
  repeat'((first|apply st|(apply sq;intro K U)|(apply si;intro A B Y Z)|(apply Y;clear Z B Y A)|(apply U;clear U K)|refine⟨rfl,?_⟩|refine ld ?_|(constructor<;>intro hc<;>(try rw[hc])<;>(replace hc:=bp hc)<;>(try simp(disch:=omega) only[BQ,wrap64,AL]at hc)<;>try(exfalso;omega))|fail)<;>conv=>whnf)
  refine(IG 104 [] [.p nn 0,.rp [Ft p L]] (fun M=>[.box nn [.l (iL l') f'],.map L (FI p M)]) _ _ (V3 p L nn l' f' hok hgw hfm hme) l' f' M (Gy fun y hy _=>hme y hy)).use (rest:=[.own v 1 (iL out)]) (hs.perm (.cons _ (.swap _ _ _))) ?_;clear hs;rintro r post σ ⟨rfl,rfl⟩ hs;rw[Wm,hi];generalize (Bo _ l' 0 M).2=M2 at hs;dsimp only
  conv=>whnf
  repeat'((first|apply st|(apply sq;intro K U)|(apply si;intro A B Y Z)|(apply Y;clear Z B Y A)|(apply U;clear U K)|refine GX ?_|refine ld ?_|refine FB fun σ hs=>?_|refine aq fun v σ hs hsl=>?_|refine c3.use ?_|clear U K)<;>conv=>whnf)
  refine⟨(l'.eraseIdx i,true,v,out++[x],M2),by dsimp only;omega,rfl,⟨fun y hy=>hme y (List.mem_of_mem_eraseIdx hy),hn.sublist (List.eraseIdx_sublist _ _),by simp;omega,?_⟩,hs.perm (.cons _ (.swap _ _ _))⟩;dsimp only;rw[hm,hel,show l'.length - 1=n by omega];simp
def Xc: ∀ {l:List Int},l.Nodup→(l.mergeSort G8).Pairwise (· < ·):=fun {l} h=>by
 have h1:=List.pairwise_mergeSort (le:=G8) (fun a b c h1 h2=>by simp only[G8,Ce]at *;omega) (fun a b=>by simp only[G8,Fq,Ce];omega) l;have h2:=List.nodup_iff_pairwise_ne.1 ((List.mergeSort_perm l G8).symm.nodup h);exact(h1.and h2).imp fun⟨a,b⟩=>by simp only[G8,Ce]at a;omega
def Wa {x:Int}: ∀ {out:List Int},out.Pairwise (· < ·)→x∉out→(Gv x out).Pairwise (· < ·)
 | [],_,_=>by simp[Gv]
 | y ::r,h,hx=>by
   rw[List.pairwise_cons]at h;rw[GB,not_or]at hx;by_cases hy:y<x
   ·have e:Gv x (y::r)=y::Gv x r:=by simp[Gv,List.takeWhile_cons,List.dropWhile_cons,hy]
    rw[e,List.pairwise_cons];refine⟨fun z hz=>?_,Wa h.2 hx.2⟩;rcases N7.1 hz with rfl|hz
    ·exact hy
    ·exact h.1 z hz
   ·have e:Gv x (y::r)=x::y::r:=by simp[Gv,List.takeWhile_cons,List.dropWhile_cons,hy]
    rw[e,List.pairwise_cons,List.pairwise_cons];refine⟨fun z hz=>?_,h⟩;rcases GB.1 hz with rfl|hz
    ·have:=hx.1;omega
    ·have:=h.1 z hz
     have:=hx.1;omega
def OC: ∀(l out:List Int),out.Pairwise (· < ·)→l.Nodup→(∀x∈l,x∉out)→(l.foldl (fun out x=>Gv x out) out).Pairwise (· < ·)
 | [],_,h,_,_=>h
 | x::r,out,h,hn,hx=>by
   rw[List.nodup_cons]at hn;refine OC r _ (Wa h (hx x (.head _))) hn.2 fun y hy hm=>?_
   rcases N7.1 hm with rfl|hm
   ·exact hn.1 hy
   ·exact hx y (.tail _ hy) hm
def Lv {l:List Int} (h:l.Nodup):l.mergeSort G8=Cn l:=
 Jy (Xc h) (OC l [] .nil h fun x _ hm=>by cases hm) fun x=>by rw[List.mem_mergeSort,Lw]
end Go.Gl
namespace Go.Gl
open Go.Proofs
def PA (A:Int→Int→Bool): ∀(k:Nat) (l:List Int),l.length=k→(Bf A k l).1.length≤k∧(Bf A k l).2=decide ((Bf A k l).1.length<k)
 | 0,_,_=>⟨JT _,rfl⟩
 | k + 1,l,h=>by
   rw[Bf];cases hf:G1 A l with
   | none=>
     have:l.isEmpty=false:=by cases l with
      | nil=>simp at h
      | cons=>rfl
     simp[this]
   | some i=>
     have hi:=Qa hf;have hel:=List.length_eraseIdx_of_lt hi;obtain⟨h1,h2⟩:=PA A k (l.eraseIdx i) (by omega);simp only[KH,Nat.add_lt_add_iff_right,Nat.add_le_add_iff_right];exact⟨h1,h2⟩
def VN {A:Int→Int→Bool} {l:List Int} {i:Nat} (h:G1 A l=some i):KK A l i l.length=true:=by
 rw[G1,List.find?_range_eq_some]at h;exact h.1
def T8 {A : Int→Int→Bool} {l r:List Int} {x:Int} {t:Bool} (h:Bf A l.length l=(x::r,t)) (hn:l.Nodup) :
    ∃i,l[i]? =some x∧(∀y∈l,y≠x→A x y=true)∧l.filter (· != x)=l.eraseIdx i∧Bf A (l.eraseIdx i).length (l.eraseIdx i)=(r,t):=by
 cases hl:l.length with
 | zero=>rw[hl,Bf]at h;cases h
 | succ k=>
   rw[hl,Bf]at h;cases hf:G1 A l with
   | none=>rw[hf]at h;cases h
   | some i=>
     rw[hf]at h;have hi:=Qa hf;obtain⟨y,hy⟩: ∃y,l[i]? =some y:=⟨_,DJ hi⟩
     dsimp only at h;rw[C9 hy]at h;have h1:=congrArg Prod.fst h;have h2:=congrArg Prod.snd h;dsimp only at h1 h2;obtain⟨rfl,h3⟩:=List.cons.inj h1;have hel:=List.length_eraseIdx_of_lt hi;refine⟨i,hy,fun z hz hne=>?_,E5 hn hy,?_⟩
     ·obtain⟨j,hj⟩:=List.getElem?_of_mem hz
      have ht:=VN hf;rw[KK,EN]at ht;have:=ht j (List.mem_range.2 (G7.1 hj).1);rw[C9 hy,C9 hj,Fq,Dx]at this;rcases this with rfl|h
      ·rw[hj]at hy
       exact absurd (Option.some.inj hy) hne
      ·exact h
     ·rw[show(l.eraseIdx i).length=k by omega]
      exact Prod.ext h3 h2
def Hl {A:Int→Int→Bool}: ∀(k:Nat) (l:List Int),l.length=k→(Dj A k l).Perm l
 | 0,l,h=>by rw[Yq.1 h];exact .refl _
 | k + 1,l,h=>by
   rw[Dj];generalize hi:(PQ A l).getD 0=i
   have hil:i<l.length:=by
    cases hm:PQ A l with
    | none=>rw[hm]at hi;simp at hi;omega
    | some j=>
      have:j<l.length:=by simpa using List.mem_of_find?_eq_some hm
      rw[hm]at hi;simp at hi;omega
   have hel:=List.length_eraseIdx_of_lt hil;obtain⟨x,hx⟩: ∃x,l[i]? =some x:=⟨_,DJ hil⟩
   rw[C9 hx];refine((Hl k (l.eraseIdx i) (by omega)).cons x).trans ?_;have e:=G7.1 hx;rw[List.eraseIdx_eq_take_drop_succ]
   have e2:l=l.take i++x::l.drop (i+1):=by
    rw[←e.2,←List.drop_eq_getElem_cons hil,List.take_append_drop]
   conv=>rhs;rw[e2]
   exact List.perm_middle.symm
def PC {p:Prog} (hok:Db p): ∀(k:Nat) (l:List Int),l.length=k→(∀x∈l,A1 p x=true)→(Dj (AY p) k l).Pairwise fun a b=>AY p b a=false
 | 0,_,_,_=> .nil
 | k+1,l,h,hm=>by
   have hne:l≠[]:=fun e=>by rw[e]at h;simp at h
   obtain⟨i,hi⟩:=L2 hok hne hm;have hil:i<l.length:=by simpa using List.mem_of_find?_eq_some hi
   have hel:=List.length_eraseIdx_of_lt hil;rw[Dj,hi,Option.getD_some];refine .cons (fun y hy=>?_) (PC hok k _ (by omega) fun x hx=>hm x (List.mem_of_mem_eraseIdx hx));have hy2:=List.mem_of_mem_eraseIdx ((Hl k (l.eraseIdx i) (by omega)).mem_iff.1 hy);obtain⟨j,hj⟩:=List.getElem?_of_mem hy2;rw[PQ,List.find?_range_eq_some]at hi;have ht:=hi.1;rw[UN,EN]at ht;have:=ht j (List.mem_range.2 (G7.1 hj).1);rw[C9 hj]at this;simpa using this
def H5 {l l':List Int} (h:l'.Perm l) (hs:l.Pairwise (· < ·)):Cn l'=l:=by
 have hn:l'.Nodup:=(h.symm.nodup_iff.1 (hs.imp fun h e=>by omega))
 refine List.Perm.eq_of_pairwise (le:=fun a b:Int=>a<b) (fun a b _ _ h1 h2=>by omega) ?_ hs ?_
 ·have:=OC l' [] .nil hn (fun x _=>List.not_mem_nil)
  exact this
 ·refine List.Perm.trans ?_ h
  rw[←Lv hn];exact List.mergeSort_perm _ _
end Go.Gl
namespace Go.Gl
variable {P:Program} {σ:AH}
def BJ.Pr {f:FuncId} {args args':List V} {σ σ2:AH} {Q:R→AH→Prop} (h:BJ P f args' σ2 Q) (hsub:Sub σ2 σ) (hf:DK σ σ2 args args'):BJ P f args σ Q:=by
 refine⟨h.1,fun Λ w cs G hv=>?_⟩;exact Calls.mono (h.2 Λ w cs (G.drop hsub) ⟨by rw[hf.length];exact hv.1,hf.rel G hsub (fun _ _ e=>e) hv.2⟩) fun e w' ⟨r,σ',hr,h1,h2,h3⟩=>⟨r,σ',hr,h1,h2,(B4.drop w hsub).trans h3⟩
def Pure.arg {f:FuncId} {args args':List V} {v:V} (h:Pure P f args' v) (hf:DK emp emp args args'):Pure P f args v:=BJ.Pr h (Sub.refl _) hf
def Own.oU {v:V} {sz:Nat} {es es':List (List V)} (h:Own σ v sz es) (G:FK σ emp es es'):GC σ emp v (.l es' false):=by
 rcases h with⟨rfl,_⟩|⟨n,cap,rfl,hn⟩
 ·exact .l (fun h=>(by cases h)) G
 ·exact .arr hn rfl rfl G
def OB {α:Type} {e e':α→List V} (h: ∀x,DK σ emp (e x) (e' x)): ∀xs:List α,FK σ emp (xs.map e) (xs.map e')
 | []=> .nil
 | x::r=> .cons (h x) (OB h r)
inductive XO (σ σ':AH):Env→Env→Prop
 | nil:XO σ σ' [] []
 | cons {k:Nat} {v v':V} {e e':Env}:GC σ σ' v v'→XO σ σ' e e'→XO σ σ' ((k,v)::e) ((k,v')::e')
def XO.w9 {σ σ':AH} {e e':Env} (h:XO σ σ' e e'):uc σ σ' e e':=by
 induction h with
 | nil=>intro j v2 hv;cases hv
 | cons h1 h2 ih=>
   rename_i k v v' e e';intro j v2 hv;simp only[get]at hv ⊢;cases hb:Nat.beq k j with
   | true=>
     rw[hb]at hv;simp only[cond_true,IH]at hv ⊢;subst hv;exact⟨v,rfl,h1⟩
   | false=>
     rw[hb]at hv;simp only[cond_false]at hv ⊢;exact ih j v2 hv
def cW {env:Env} {K:Env→AH→Prop} (h:K env σ):Fz env σ K:= .inl h
def pJ {env env2:Env} {K:Env→AH→Prop} {l:List At} (hs:Sat σ l) (i:Nat) {v:V} {sz:Nat} {es:List (List V)} (hi:l[i]? =some (.own v sz es))
    (he: ∀σ2,GC σ σ2 v (.l es false)→XO σ σ2 env env2) (hk: ∀σ2,Sat σ2 (l.eraseIdx i)→K env2 σ2):Fz env σ K:=by
 obtain⟨σ2,h1,h2,h3⟩:=IM hs i hi;exact .inr ⟨env2,σ2,⟨fun n o2 ho=> .inl (h1 n o2 ho)⟩,(he σ2 h2).w9,hk σ2 h3⟩
def cQ {l:List Nat} {a b:AJ} {Q:Ao→Env→AH→Prop} {env:Env} (h: ∀K:Env→AH→Prop,(∀env σ,(pk l env fun E=>Fz E σ (W P b Q))→K env σ)→W P a (Ao.andThen K Q) env σ):W P (.seq l a b) Q env σ:=nX h
end Go.Gl
