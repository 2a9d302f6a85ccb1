import Derived.Test.YtegbmnmnaijioaaGreatL8
import Derived.Test.YtegbmnmnaijioaaGreatL9
import Derived.Test.YtegbmnmnaijioaaGreatL10
import Derived.Test.YtegbmnmnaijioaaGreatL11
import Derived.Test.YtegbmnmnaijioaaGreatL12
set_option linter.all false
set_option linter.defProp false
noncomputable section
namespace Go.Gl
open Go.Proofs
attribute [local irreducible] As Am Ac AQ AM Ab AP AR AL Aa AN AO Ao Ax Sat AW Au Ad W
def lO (l:List Int) (f kd:Bool):Pure Tryz.prog 201 [.pn,.l (iL l) f,.b kd] (.b false):=by
 have c1:=qm l f;refine XH kZ ?_;have hs:=Sn
 conv=>whnf
 repeat'((first|apply st|(apply sq;intro K U)|(apply si;intro A B Y Z)|(apply Y;clear Z B Y A)|(apply U;clear U K)|refine FX ?_|refine Pure.use (by assumption) ?_|clear U K)<;>conv=>whnf)
 all_goals exact AS rfl
def gi {M:List Int} {x:Int} (h:M.contains x=false):OD M x=M++[x]:=by
 rw[OD,if_neg (by rw[h];decide)]
set_option maxHeartbeats 2000000 in
def qa (p : Prog) (L:Nat) (l:List Int) (f kd:Bool) (hl:l.length<=1000):Pure Tryz.prog 201 [R1 p L,.l (iL l) f,.b kd] (.b (Fa p l kd)):=by
 refine Pure.fit (by kernel_rfl) fun hf=>?_
 have hM:=Mx;have c1:=vo p L l f;cases hm:l.all (Bc p)<;>rw[hm]at c1
 .have hb:Fa p l kd=false:=by
   rw[<-Bool.not_eq_true];intro h;rw[Fa,A8,Dh]at h;rw[<-Bool.not_eq_true,Dh]at hm;refine hm fun x hx=>?_
   have:=h.1 x hx;simp only[jV,A8]at this;exact this.1
  refine XH kZ ?_;have hs:=Sn
  conv=>whnf
  repeat'((first|apply st|(apply sq;intro K U)|(apply si;intro A B Y Z)|(apply Y;clear Z B Y A)|(apply U;clear U K)|refine FX ?_|refine c1.use ?_|clear U K)<;>conv=>whnf)
  all_goals exact AS (by rw[hb])
 rw[Dh]at hm;refine XH kZ ?_;have hs:=Sn
 conv=>whnf
 repeat'((first|apply st|(apply sq;intro K U)|(apply si;intro A B Y Z)|(apply Y;clear Z B Y A)|(apply U;clear U K)|refine Es ?_|refine c1.use ?_|(intro nn hnn;generalize hg:A6 _ nn _=σ;refine Ci hg fun hs=>?_;clear hg)|fail)<;>conv=>whnf)
 clear c1;replace hs:Sat σ [.map nn (R2 [])]:=hs;refine D3 l.length (fun i (_:Unit)=>[(17,eI (Bq i))]) (fun i _=>[.map nn (R2 (l.take i))]) (fun i _=>(∀k y,k<i->l[k]? =some y->jV p l kd y=true)/\(l.take i).Nodup) () rfl ⟨fun k y h=>by omega,by simp⟩ hs ?_;clear hs;rintro i - σ hi ⟨ho,hn⟩ hs;rcases BM l hi with⟨x,hx,hlt⟩|hie
 .have hci : Bq i=i:=AV (by omega)
  obtain⟨z,hz⟩: ∃z,l[0]? =some z:=⟨_,ES (by omega)⟩
  have hz0:=E9 hz;have hmx:=hm x (Dm hx);have hmz:=hm z (Dm hz);have hbad:=fun h=>bG (p:=p) (kd:=kd) hx h
  rw[jV,hz0]at hbad;have hxP:=C0 hmx;have hzP:=C0 hmz;have c2:=m9 p L x z hmx hmz;have hxr:=hmx;have hzr:=hmz;simp only[Bc,A8,Cm]at hxr hzr;cases hcon:(l.take i).contains x
  .have hne : ∀k y,k<i->l[k]? =some y->y≠x:=fun k y h h2 e=>by
    rw[<-Bool.not_eq_true,List.contains_iff_mem]at hcon;exact hcon (Dm (i:=k) (by rw[List.getElem?_take,if_pos h,h2,e]))
   have hnd:=Xj hx hn hne;have hput:=gi hcon;rw[<-Ar hx]at hput;by_cases hg:(B1 p x).gen=(B1 p z).gen
   .have hoxF:(!kd||KA p x z)=true->jV p l kd x=true:=fun h=>by rw[jV,hz0,hmx,hg,h];simp
    cases hal:KA p x z<;>rw[hal]at c2 hoxF<;>cases kd
    all_goals
     conv=>whnf
     repeat'((first|apply st|(apply sq;intro K U)|(apply si;intro A B Y Z)|(apply Y;clear Z B Y A)|(apply U;clear U K)|apply dr|refine⟨rfl,?_⟩|refine ix ?_|refine Kf ?_|refine FX ?_|refine Es ?_|(refine DV (fun hc=>?_)<;>(try rw[hc])<;>clear hc)|refine c2.use ?_|(refine I6 hs 0 rfl rfl (HN _) ?_;rw[LU,hcon])|(refine Hp hs 0 rfl rfl (HN _) fun σ hs=>?_)|(constructor<;>intro hc<;>(try rw[hc])<;>(replace hc:=bp hc)<;>try(exfalso;omega))|clear U K)<;>conv=>whnf)
    all_goals first
     | exact AS (by rw[hbad (by simp[hal,hg])])
     | (exfalso;simp[hg]at hc;done)
     | (have hox:=hoxF rfl
        refine⟨hlt,(),rfl,⟨fun k' y' h h2=>?_,hnd⟩,?_⟩
        .rcases Nat.lt_or_ge k' i with h'|h'
         .exact ho k' y' h' h2
         .rw[show k'=i by omega,hx]at h2
          rw[<-Option.some.inj h2];exact hox
        .replace hs:Sat σ [.map nn (DA (eI x) (.b true) (R2 (l.take i)))]:=hs
         rw[Y5,hput]at hs
         exact hs)
   .conv=>whnf
    repeat'((first|apply st|(apply sq;intro K U)|(apply si;intro A B Y Z)|(apply Y;clear Z B Y A)|(apply U;clear U K)|apply dr|refine⟨rfl,?_⟩|refine ix ?_|refine Kf ?_|(refine DV (fun hc=>?_)<;>(try rw[hc])<;>clear hc)|(refine I6 hs 0 rfl rfl (HN _) ?_;rw[LU,hcon])|(constructor<;>intro hc<;>(try rw[hc])<;>(replace hc:=bp hc)<;>try(exfalso;omega))|clear U K)<;>conv=>whnf)
    all_goals first
     | exact AS (by rw[hbad (by simp[hg])])
     | (exfalso;have q:(B1 p x).gen=(B1 p z).gen:=(by assumption);exact hg q)
     | (exfalso;simp[hg]at hc;done)
  .obtain⟨k,hk⟩:=List.getElem?_of_mem (List.contains_iff_mem.1 hcon)
   rw[List.getElem?_take]at hk;split at hk
   .conv=>whnf
    repeat'((first|apply st|(apply sq;intro K U)|(apply si;intro A B Y Z)|(apply Y;clear Z B Y A)|(apply U;clear U K)|apply dr|refine⟨rfl,?_⟩|refine ix ?_|(refine DV (fun hc=>?_)<;>(try rw[hc])<;>clear hc)|(refine I6 hs 0 rfl rfl (HN _) ?_;rw[LU,hcon])|clear U K)<;>conv=>whnf)
    all_goals exact AS (by rw[bF hx hk (by assumption)])
   .cases hk
 .conv=>whnf
  repeat'((first|apply st|(apply sq;intro K U)|(apply si;intro A B Y Z)|(apply Y;clear Z B Y A)|(apply U;clear U K)|refine⟨rfl,?_⟩|(refine EZ (fun hc=>?_)<;>(try rw[hc])<;>clear hc)|clear U K)<;>conv=>whnf)
  have hall:Fa p l kd=true:=by
   rw[Fa,A8,Dh];refine⟨fun y hy=>?_,decide_eq_true (by rw[hie,List.take_length]at hn;exact hn)⟩;obtain⟨k,hk⟩:=List.getElem?_of_mem hy;exact ho k y (by rw[hie];exact(JX.1 hk).1) hk
  exact AS (by rw[hall])
def aF (M:List (Int×Int)) (x:Int×Int):List (Int×Int):=if M.contains x then M else M++[x]
def aG (p:Prog) (M:List (Int×Int)) (m n:Int):List (Int×Int):=if Ja p m n then aF (aF M (m,n)) (n,m)else aF M (m,n)
def Pm (p:Prog) (L:Nat) (m n:Int) (hk:Ed p) (hgw:CY (AT p)) (hfm: ∀x∈p.methods,EM (AT p) x.fact=true) (hm:Bc p m=true) (hn:Bc p n=true) (M:List (Int×Int)) :
    BK Tryz.prog 310 [R1 p L,eI m,eI n] [.map L (Jv p M)] fun r post=>r= .ret (.b (Ja p m n))/\post= [.map L (Jv p (aF M (m,n)))]:=by
 intro σ hs;have hxm:=C0 hm;have hxn:=C0 hn;have hmm:=Dm hxm;have hmn:=Dm hxn;have hip:=cN (AT p) hgw (B1 p m).fact (B1 p n).fact (hfm _ hmm) (hfm _ hmn) (hk.facts _ hmm).1 (hk.facts _ hmn).1 (by have:=(hk.facts _ hmm).2;have:=(hk.facts _ hmn).2;omega);simp only[Bc,A8,Cm]at hm hn;have hfd:=VH p (m,n) M;refine rn kZ ?_;cases hc:M.contains (m,n)
 .rw[hc,if_neg (by decide)]at hfd
  conv=>whnf
  repeat'((first|apply st|(apply sq;intro K U)|(apply si;intro A B Y Z)|(apply Y;clear Z B Y A)|(apply U;clear U K)|apply dr|refine⟨kZ,?_⟩|refine Kf ?_|refine ld ?_|refine Di fun σ hs=>?_|refine FX ?_|refine MI hs 1 rfl rfl (O2 _ _) hfd ?_|refine Hp hs 1 rfl rfl (O2 _ _) fun σ hs=>?_|refine hip.use ?_|(intro nn hnn;generalize hg:A6 _ nn _=σ;refine Ci hg fun hs=>?_;clear hg)|fail)<;>conv=>whnf)
  replace hs:Sat σ [.box nn [eI m,eI n],.map L (DA (kM (m,n)) (.b (Ja p m n)) (Jv p M))]:=hs;rw[Y4 p (m,n) M hc]at hs;exact AK ⟨_,⟨rfl,rfl⟩,by rw[aF,hc];exact hs.less (Mz _ _)⟩
 .rw[hc,if_pos rfl]at hfd
  conv=>whnf
  repeat'((first|apply st|(apply sq;intro K U)|(apply si;intro A B Y Z)|(apply Y;clear Z B Y A)|(apply U;clear U K)|apply dr|refine⟨kZ,?_⟩|refine ld ?_|refine Di fun σ hs=>?_|refine Es ?_|refine MI hs 1 rfl rfl (O2 _ _) hfd ?_|(intro nn hnn;generalize hg:A6 _ nn _=σ;refine Ci hg fun hs=>?_;clear hg)|fail)<;>conv=>whnf)
  exact AK ⟨_,⟨rfl,rfl⟩,by rw[aF,hc];exact hs.less (Mz _ _)⟩
def Vm (p:Prog) (L:Nat) (m n:Int) (hk:Ed p) (hgw:CY (AT p)) (hfm: ∀x∈p.methods,EM (AT p) x.fact=true) (hm:Bc p m=true) (hn:Bc p n=true) (M:List (Int×Int)) :
    BK Tryz.prog 258 [R1 p L,eI m,eI n] [.map L (Jv p M)] fun r post=>r= .ret (.b (Az p m n))/\post= [.map L (Jv p (aG p M m n))]:=by
 intro σ hs;have h1:=fun M=>Pm p L m n hk hgw hfm hm hn M
 have h2:=fun M=>Pm p L n m hk hgw hfm hn hm M
 unfold Az aG;cases hb1:Ja p m n<;>cases hb2:Ja p n m<;>rw[hb1]at h1<;>rw[hb2]at h2
 all_goals
  refine sX kZ ?_
  conv=>whnf
  repeat'((first|(apply sq;intro K U)|(apply si;intro A B Y Z)|(apply Y;clear Z B Y A)|(apply U;clear U K)|fail)<;>conv=>whnf)
  refine(h1 M).use (rest:=[]) (by simpa using hs) ?_;clear hs;rintro r post σ ⟨rfl,rfl⟩ hs
  conv=>whnf
  repeat'((first|apply st|(apply Y;clear Z B Y A)|(apply U;clear U K)|fail)<;>conv=>whnf)
 .exact AK ⟨_,⟨rfl,rfl⟩,hs⟩
 .exact AK ⟨_,⟨rfl,rfl⟩,hs⟩
 all_goals
  refine(h2 _).use (rest:=[]) (by simpa using hs) ?_;clear hs;rintro r post σ ⟨rfl,rfl⟩ hs
  conv=>whnf
  repeat'((first|apply st|(apply Y;clear Z B Y A)|(apply U;clear U K)|fail)<;>conv=>whnf)
  exact AK ⟨_,⟨rfl,rfl⟩,hs⟩
def Fo: ∀ {l:List Int} {i:Nat} {x:Int},l.Nodup->l[i]? =some x->l.filter (· != x)=l.eraseIdx i
 | y::r,0,x,hn,hx=>by
   obtain rfl:y=x:=by simpa using hx
   rw[List.nodup_cons]at hn;rw[List.filter_cons,if_neg (by simp),List.eraseIdx_cons_zero];exact List.filter_eq_self.2 fun z hz=>by rw[wU];rintro rfl;exact hn.1 hz
 | y::r,i+1,x,hn,hx=>by
   rw[List.nodup_cons]at hn;rw[uO]at hx;have hyx:y≠x:=fun e=>hn.1 (e ▸ Dm hx)
   rw[List.filter_cons,if_pos (by simpa using hyx),List.eraseIdx_cons_succ,Fo hn.2 hx]
def bf {A:Int->Int->Bool} {l:List Int} {i:Nat} (hi:i<l.length) (h:NW A l i l.length=true) (hn: ∀j,j<i->NW A l j l.length=false):Og A l=some i:=by
 rw[Og,List.find?_range_eq_some];exact⟨h,List.mem_range.2 hi,fun j hj=>by rw[hn j hj];rfl⟩
def bc {A:Int->Int->Bool} {l:List Int} (hn: ∀j,j<l.length->NW A l j l.length=false):Og A l=none:=by
 rw[Og,List.find?_range_eq_none];exact fun j hj=>by rw[hn j hj];rfl
def kC {A:Int->Int->Bool} {l:List Int} {i k n:Nat} (hk:k<n) (h:(k==i||A (l.getD i 0) (l.getD k 0))=false):NW A l i n=false:=by
 rw[NW,<-Bool.not_eq_true,Dh];intro h2;rw[h2 k (List.mem_range.2 hk)]at h;cases h
def gx {l:List Int} (hn:l.Nodup) {i k:Nat} {x y:Int} (hx:l[i]? =some x) (hy:l[k]? =some y) (h:k≠i):x≠y:=by
 rintro rfl;have hi:=(JX.1 hx)
 have hj:=(JX.1 hy)
 have:=(List.nodup_iff_pairwise_ne.1 hn)
 rw[List.pairwise_iff_getElem]at this;rcases Nat.lt_or_gt_of_ne h with h'|h'
 .exact this k i hj.1 hi.1 h' (by rw[hj.2,hi.2])
 .exact this i k hi.1 hj.1 h' (by rw[hj.2,hi.2])
set_option maxHeartbeats 4000000 in
def ZU (p : Prog) (L:Nat) (l:List Int) (f:Bool) (hok:Ed p) (hgw:CY (AT p)) (hfm: ∀x∈p.methods,EM (AT p) x.fact=true) (hl:SX p l) (hnd:l.Nodup) (M:List (Int×Int)) :
    BK Tryz.prog 183 [R1 p L,.l (iL l) f] [.map L (Jv p M)] fun r post=>r= .ret (.t [.l (iL (C2 (Az p) l.length l).1) true,.b (C2 (Az p) l.length l).2])/\ ∃M',post= [.map L (Jv p M')]:=by
 intro σ hs;have hM:=Mx;refine tL kZ ?_
 conv=>whnf
 repeat'((first|apply st|(apply sq;intro K U)|(apply si;intro A B Y Z)|(apply Y;clear Z B Y A)|(apply U;clear U K)|fail)<;>conv=>whnf)
 refine Gf (fun(x:List Int×Bool×V×List Int×List (Int×Int))=>x.1.length) (fun x=>[(1,.l (iL x.1) x.2.1),(6,x.2.2.1)]) (fun x=>[.own x.2.2.1 1 (iL x.2.2.2.1),.map L (Jv p x.2.2.2.2)])
  (fun x=>(∀y∈x.1,Bc p y=true)/\x.1.Nodup/\x.2.2.2.1.length+x.1.length<=16/\C2 (Az p) l.length l=(x.2.2.2.1++(C2 (Az p) x.1.length x.1).1,(C2 (Az p) x.1.length x.1).2)) (l,f,.l [] true,[],M) rfl ⟨hl.Kp,hnd,by simpa using hl.many,by simp⟩ (DQ hs 1) ?_
 clear hs;rintro⟨l',f',v,out,M⟩ σ ⟨hme,hn,hlen,hm⟩ hs;dsimp only at hme hn hlen hm hs;dsimp only;have hll:out.length<Ay/\(out.length+1)*8<=140737488355328:=by omega
 by_cases hz:l'.length=0
 .rw[hz]at hm
  simp only[C2,Ep]at hm
  conv=>whnf
  repeat'((first|apply st|(apply sq;intro K U)|(apply si;intro A B Y Z)|(apply Y;clear Z B Y A)|(apply U;clear U K)|refine⟨rfl,?_⟩|(constructor<;>intro hc<;>(try rw[hc])<;>(replace hc:=bp hc)<;>(try simp(disch:=omega) only[Bu,wrap64,AV]at hc)<;>try(exfalso;omega))|clear U K)<;>conv=>whnf)
  refine(On out v (by omega)).use (rest:=[_]) hs ?_;clear hs;rintro r post σ ⟨rfl,rfl⟩ hs
  conv=>whnf
  repeat'((first|apply st|(apply Y;clear Z B Y A)|(apply U;clear U K)|fail)<;>conv=>whnf)
  exact AK ⟨_,⟨by rw[hm],M,rfl⟩,hs⟩
 .obtain ⟨n,hnn⟩: ∃n,l'.length=n+1:=⟨l'.length - 1,by omega⟩
  have hne:l'.isEmpty=false:=by cases l' with
   | nil=>simp at hz
   | cons=>rfl
  rw[hnn,C2]at hm
  conv=>whnf
  repeat'((first|apply st|(apply sq;intro K U)|(apply si;intro A B Y Z)|(apply Y;clear Z B Y A)|(apply U;clear U K)|refine⟨rfl,?_⟩|(constructor<;>intro hc<;>(try rw[hc])<;>(replace hc:=bp hc)<;>(try simp(disch:=omega) only[Bu,wrap64,AV]at hc)<;>try(exfalso;omega))|fail)<;>conv=>whnf)
  refine D3 l'.length (fun i (_:List (Int×Int))=>[(16,eI (Bq i))]) (fun _ M=>[.own v 1 (iL out),.map L (Jv p M)]) (fun i _=> ∀j,j<i->NW (Az p) l' j l'.length=false) M rfl (fun j h=>by omega) hs ?_;clear hs;rintro i M σ hi hno hs;rcases BM l' hi with⟨x,hx,hlt⟩|hie
  .have hmx:=hme x (Dm hx)
   conv=>whnf
   repeat'((first|apply st|(apply sq;intro K U)|(apply si;intro A B Y Z)|(apply Y;clear Z B Y A)|(apply U;clear U K)|refine⟨rfl,?_⟩|refine ix ?_|(refine DV (fun hc=>?_)<;>(try rw[hc])<;>clear hc)|fail)<;>conv=>whnf)
   refine D3 l'.length (fun k (_:List (Int×Int))=>[(22,eI (Bq k))]) (fun _ M=>[.own v 1 (iL out),.map L (Jv p M)]) (fun k _=>NW (Az p) l' i k=true) M rfl rfl hs ?_;clear hs;rintro k M σ hk htop hs;rcases BM l' hk with⟨y,hy,hklt⟩|hke
   .have hmy:=hme y (Dm hy)
    have hsu:=aK (Az p) l' i k;rw[E9 hx,E9 hy,htop,D2]at hsu;by_cases hki:k=i
    .obtain rfl:x=y:=by
      rw[hki,hx]at hy;exact Option.some.inj hy
     conv=>whnf
     repeat'((first|apply st|(apply sq;intro K U)|(apply si;intro A B Y Z)|(apply Y;clear Z B Y A)|(apply U;clear U K)|refine⟨rfl,?_⟩|refine ix ?_|(refine DV (fun hc=>?_)<;>(try rw[hc])<;>clear hc)|(constructor<;>intro hc<;>(try rw[hc])<;>(replace hc:=bp hc)<;>(try simp(disch:=omega) only[Bu,wrap64,AV]at hc)<;>try(exfalso;omega))|clear U K)<;>conv=>whnf)
     exact⟨hklt,M,rfl,by rw[hsu,hki];simp,hs⟩
    .have hxy:=gx hn hx hy hki
     have c5:=Vm p L x y hok hgw hfm hmx hmy M;cases hah:Az p x y<;>rw[hah]at c5
     all_goals
      conv=>whnf
      repeat'((first|apply st|(apply sq;intro K U)|(apply si;intro A B Y Z)|(apply Y;clear Z B Y A)|(apply U;clear U K)|refine⟨rfl,?_⟩|refine ix ?_|(refine DV (fun hc=>?_)<;>(try rw[hc])<;>clear hc)|(constructor<;>intro hc<;>(try rw[hc])<;>(replace hc:=bp hc)<;>try(exfalso;omega))|fail)<;>conv=>whnf)
      refine c5.use (rest:=[_]) (hs.perm (.swap _ _ _)) ?_;clear hs;rintro r post σ ⟨rfl,rfl⟩ hs
      conv=>whnf
      repeat'((first|apply st|(apply si;intro A B Y Z)|(apply Y;clear Z B Y A)|(apply U;clear U K)|refine⟨rfl,?_⟩|refine FX ?_|refine Es ?_|clear U K)<;>conv=>whnf)
     .refine⟨hlt,_,rfl,fun j hj=>?_,hs.perm (.swap _ _ _)⟩
      rcases Nat.lt_or_ge j i with h'|h'
      .exact hno j h'
      .rw[show j=i by omega]
       exact kC hklt (by rw[E9 hx,E9 hy,hah];simpa using hki)
     .exact⟨hklt,_,rfl,by rw[hsu,hah];simp,hs.perm (.swap _ _ _)⟩
   .have c1:=MW l' f' x (by omega)
    rw[Fo hn hx]at c1;have hel:=List.length_eraseIdx_of_lt hlt;rw[bf hlt (hke ▸ htop) hno]at hm;dsimp only at hm;rw[E9 hx]at hm
    conv=>whnf
    repeat'((first|apply st|(apply sq;intro K U)|(apply si;intro A B Y Z)|(apply Y;clear Z B Y A)|(apply U;clear U K)|refine⟨rfl,?_⟩|refine aq fun v σ hs hsl=>?_|(refine EZ (fun hc=>?_)<;>(try rw[hc])<;>clear hc)|refine c1.use ?_|clear U K)<;>conv=>whnf)
    refine⟨(l'.eraseIdx i,true,v,out++[x],M),by dsimp only;omega,rfl,⟨fun y hy=>hme y (List.mem_of_mem_eraseIdx hy),hn.sublist (List.eraseIdx_sublist _ _),by simp;omega,?_⟩,hs⟩;dsimp only;rw[hm,hel,show l'.length - 1=n by omega];simp
  .rw[bc fun j hj=>hno j (by omega)]at hm
   dsimp only at hm;rw[hne,Ep]at hm
   conv=>whnf
   repeat'((first|apply st|(apply sq;intro K U)|(apply si;intro A B Y Z)|(apply Y;clear Z B Y A)|(apply U;clear U K)|refine⟨rfl,?_⟩|(refine EZ (fun hc=>?_)<;>(try rw[hc])<;>clear hc)|clear U K)<;>conv=>whnf)
   refine(On out v (by omega)).use (rest:=[_]) hs ?_;clear hs;rintro r post σ ⟨rfl,rfl⟩ hs
   conv=>whnf
   repeat'((first|apply st|(apply Y;clear Z B Y A)|(apply U;clear U K)|clear U K)<;>conv=>whnf)
   exact AK ⟨_,⟨by rw[hm];rfl,M,rfl⟩,hs⟩
def kF (p:Prog) (L:Nat) (m:Int) (hok:Ed p) (hgw:CY (AT p)) (hfm: ∀x∈p.methods,EM (AT p) x.fact=true) (hm:Bc p m=true) :
    Cu Tryz.prog (.f (.func 263) [] [.rp [R1 p L],.rp [eI m]]) eI (fun M=>[.map L (Jv p M)]) (fun y M=>(Az p y m,aG p M y m)) (fun y _=>Bc p y=true):=by
 intro y M hy σ hs;refine BD ?_;show As Tryz.prog 263 ([]++[eI y]++[.rp [R1 p L],.rp [eI m]]) σ _;refine sS kZ ?_
 conv=>whnf
 repeat'((first|apply st|(apply sq;intro K U)|(apply si;intro A B Y Z)|(apply Y;clear Z B Y A)|(apply U;clear U K)|fail)<;>conv=>whnf)
 refine(Vm p L y m hok hgw hfm hy hm M).use (rest:=[]) (by simpa using hs) ?_;clear hs;rintro r post σ ⟨rfl,rfl⟩ hs
 conv=>whnf
 repeat'((first|apply st|(apply Y;clear Z B Y A)|(apply U;clear U K)|fail)<;>conv=>whnf)
 exact A4 hs (List.sublist_append_left _ _) (.refl _) fun σ' hs'=>⟨rfl,hs'⟩
def RZ {S:Type} {stp:Int->S->Bool×S} {q:Int->Bool}: ∀(xs:List Int) (k:Nat) (s:S),(∀y∈xs,∀s,(stp y s).1=q y)->(Bl stp xs k s).1=match(List.range xs.length).find? fun i=>q (xs.getD i 0)with|some i=>((k+i:Nat):Int)|none=> -1
 | [],_,_,_=>rfl
 | y ::r,k,s,h=>by
   rw[Bl,h y (.head _)];have ih:=RZ r (k+1) (stp y s).2 fun z hz=>h z (.tail _ hz)
   rw[Lz,List.range_succ_eq_map,List.find?_cons,List.getD_cons_zero];cases hq:q y
   .rw[if_neg (by decide),ih]
    simp only[List.find?_map,Function.comp_def,Nat.succ_eq_add_one,List.getD_cons_succ];cases(List.range r.length).find? fun i=>q (r.getD i 0)with
    | none=>rfl
    | some i=>simp only[cS];congr 1;omega
   .rw[if_pos rfl];simp
def um (p:Prog) (l:List Int) (m:Int) (M:List (Int×Int)):List (Int×Int):=(Bl (fun y M=>(Az p y m,aG p M y m)) l 0 M).2
def Yg (p:Prog) (L nb:Nat) (l:List Int) (f:Bool) (hok:Ed p) (hgw:CY (AT p)) (hfm: ∀x∈p.methods,EM (AT p) x.fact=true) (hl: ∀x∈l,Bc p x=true) :
    Cu Tryz.prog (.f (.func 262) [] [.p nb 0,.rp [R1 p L]]) eI (fun M=>[.box nb [.l (iL l) f],.map L (Jv p M)]) (fun m M=>(!(decide ((Bl (fun y M=>(Az p y m,aG p M y m)) l 0 M).1≥0)),um p l m M)) (fun m _=>Bc p m=true):=by
 intro m M hm σ hs;refine BD ?_;show As Tryz.prog 262 ([]++[eI m]++[.p nb 0,.rp [R1 p L]]) σ _;refine sT kZ ?_
 conv=>whnf
 repeat'((first|(apply sq;intro K U)|(apply si;intro A B Y Z)|(apply Y;clear Z B Y A)|(apply U;clear U K)|refine ld ?_|fail)<;>conv=>whnf)
 refine(GF 263 [] [.rp [R1 p L],.rp [eI m]] (fun M=>[.map L (Jv p M)]) _ _ (kF p L m hok hgw hfm hm) l f M (Gk fun y hy _=>hl y hy)).use (rest:=[_]) (hs.perm (.swap _ _ _)) ?_;clear hs;rintro r post σ ⟨rfl,rfl⟩ hs
 conv=>whnf
 repeat'((first|apply st|(apply Y;clear Z B Y A)|(apply U;clear U K)|fail)<;>conv=>whnf)
 exact A4 (hs.perm (.swap _ _ _)) (List.Sublist.refl _) (.refl _) fun σ' hs'=>⟨rfl,hs'⟩
def eg {p:Prog} (hok:Ed p): ∀(l:List Int),l≠[]->(∀x∈l,Bc p x=true)-> ∃x∈l,∀y∈l,Az p y x=false
 | [],h,_=>absurd rfl h
 | x ::r,_,h=>by
   by_cases hr:r= []
   .subst hr
    exact⟨x,.head _,fun y hy=>by rw[My.1 hy];exact P3 x⟩
   obtain⟨z,hz,hz2⟩:=eg hok r hr fun y hy=>h y (.tail _ hy)
   cases hxz:Az p x z
   .refine⟨z,.tail _ hz,fun y hy=>?_⟩
    rcases Fq.1 hy with rfl|hy
    .exact hxz
    .exact hz2 y hy
   .refine⟨x,.head _,fun y hy=>?_⟩
    rcases Fq.1 hy with rfl|hy
    .exact P3 y
    .rw[<-Bool.not_eq_true]
     intro e;have:=Tg hok (h y (.tail _ hy)) (h x (.head _)) (h z (.tail _ hz)) e hxz;rw[hz2 y hy]at this;cases this
def Q7 {p:Prog} (hok:Ed p) {l:List Int} (hl:l≠[]) (h: ∀x∈l,Bc p x=true): ∃i,Wl (Az p) l=some i:=by
 obtain⟨x,hx,hx2⟩:=eg hok l hl h;obtain⟨i,hi⟩:=List.getElem?_of_mem hx;cases hm:Wl (Az p) l with
 | some i=>exact⟨i,rfl⟩
 | none=>
   rw[Wl,List.find?_range_eq_none]at hm;have h1:=hm i (JX.1 hi).1
   have h2:Z2 (Az p) l i l.length=true:=by
    rw[Z2,Dh];intro k hk;rw[E9 hi,hx2 _ (RN (List.mem_range.1 hk))];rfl
   rw[h2]at h1;cases h1
end Go.Gl
namespace Go.Gl
variable {P:Program} {σ:AH}
def uK {L:Nat} {args:List V} {Q:R->AH->Prop} (h:L9 P L args σ Q):Ao P (.f (.yield L) [] []) args σ Q:=h
def Vx {L:Nat} {E:Env} {ps:List Nat} {a b:AX} {args:List V} {l:List At} (hl:args.length=ps.length) (hs:Sat σ (.obj L (.loop .ready E (Bb P ps a b))::l)) {Q:R->AH->Prop}
    (h: ∀σ,Sat σ l->W P a (CK (W P b fun ex env' σ'=>σ' L=none->Oo L E (Bb P ps a b) Q ex env' σ')) (EC ps args E) σ):L9 P L args σ Q:=
 KU (hs.get (i:=0) rfl) hl (h _ hs.del)
end Go.Gl
namespace Go.Gl
open Go.Proofs
attribute [local irreducible] As Am Ac AQ AM Ab AP AR AL Aa AN AO Ao Ax Sat AW Au Ad W
def Qm (xs:List Int) (f:Bool):Pure Tryz.prog 261 [.l (iL xs) f] (.f (.func 312) [] [.rp [.l (iL xs) f]]):=by
 refine sU kZ ?_;have hs:=Sn
 conv=>whnf
 repeat'((first|apply st|(apply sq;intro K U)|(apply si;intro A B Y Z)|(apply Y;clear Z B Y A)|(apply U;clear U K)|fail)<;>conv=>whnf)
 all_goals exact AS rfl
def kA (xs:List Int) (f:Bool) (hxl:xs.length<=1000) {S:Type} {fn:Fn} {fi ca:List V} {H:S->List At} (Inv:Nat->S->Prop) {s:S} (h0:Inv 0 s)
    (hT: ∀(k:Nat) s y,xs[k]? =some y->Inv k s-> ∀σ:AH,Sat σ (H s)->Ao Tryz.prog (.f fn fi ca) [eI y] σ fun r σ'=> ∃s',r= .ret (.b true)/\Inv (k+1) s'/\Sat σ' (H s')) (σ:AH) (hs:Sat σ (H s)) :
    As Tryz.prog 312 [.f fn fi ca,.rp [.l (iL xs) f]] σ fun r σ'=> ∃s',r= .ret (.t [])/\Inv xs.length s'/\Sat σ' (H s'):=by
 have hM:=Mx;refine rl kZ ?_
 conv=>whnf
 repeat'((first|apply st|(apply sq;intro K U)|(apply si;intro A B Y Z)|(apply Y;clear Z B Y A)|(apply U;clear U K)|fail)<;>conv=>whnf)
 refine D3 xs.length (fun k (_:S)=>[(7,eI (Bq k))]) (fun _ s'=>H s') (fun k s'=>Inv k s') s rfl h0 hs ?_;clear hs;rintro k s' σ hk ho hs;rcases BM xs hk with⟨y,hy,hlt⟩|hke
 .have hT':=hT k s' y hy ho
  conv=>whnf
  repeat'((first|apply st|(apply sq;intro K U)|(apply si;intro A B Y Z)|(apply Y;clear Z B Y A)|(apply U;clear U K)|refine⟨rfl,?_⟩|refine ix ?_|(refine DV (fun hc=>?_)<;>(try rw[hc])<;>clear hc)|fail)<;>conv=>whnf)
  refine(hT' σ hs).mono ?_;rintro r σ ⟨s2,rfl,hi2,hs⟩
  conv=>whnf
  repeat'((first|apply st|(apply si;intro A B Y Z)|(apply Y;clear Z B Y A)|(apply U;clear U K)|refine⟨rfl,?_⟩|refine Es ?_|fail)<;>conv=>whnf)
  exact⟨hlt,_,rfl,hi2,hs⟩
 .rw[hke]at ho
  conv=>whnf
  repeat'((first|apply st|(apply sq;intro K U)|(apply si;intro A B Y Z)|(apply Y;clear Z B Y A)|(apply U;clear U K)|refine⟨rfl,?_⟩|(refine EZ (fun hc=>?_)<;>(try rw[hc])<;>clear hc)|clear U K)<;>conv=>whnf)
  exact AK ⟨_,rfl,ho,hs⟩
def cK (xs:List Int) (f:Bool) (hxl:xs.length<=1000):BK Tryz.prog 243 [.l [] true,.f (.func 312) [] [.rp [.l (iL xs) f]]] [] fun r post=> ∃v,r= .ret v/\post= [.own v 1 (iL xs)]/\((Cg v).isSome=true\/(v= .l [] true/\xs= [])):=by
 intro σ hs;have hM:=Mx;refine sd kZ ?_
 conv=>whnf
 repeat'((first|apply st|(apply sq;intro K U)|(apply si;intro A B Y Z)|(apply Y;clear Z B Y A)|(apply U;clear U K)|(intro nn hnn;generalize hg:A6 _ nn _=σ;refine Ci hg fun hs=>?_;clear hg)|fail)<;>conv=>whnf)
 rename_i nb _ _ _;clear hnn
 revert hs
 generalize hE:([(2,V.p nb 0)]:Env)=E;generalize hk:Bb _ _ _ _=ok;intro hs;refine As.mono (kA xs f hxl (fn:= .yield nn) (fi:=[]) (ca:=[]) (H:=fun s:V×List Int=> .obj nn (.loop .ready E ok):: [.box nb [s.1],.own s.1 1 (iL s.2)]) (fun k s=>s.2=xs.take k/\(1<=k->(Cg s.1).isSome=true)/\(k=0->s.1= .l [] true)) (s:=(.l [] true,[])) ⟨rfl,fun h=>by omega,fun _=>rfl⟩ ?_ σ ((DQ hs 1).perm (IX _ _ _ _))) ?_
 .clear hs
  subst hE hk;rintro k ⟨v,ys⟩ y hy ⟨h1,h2,h3⟩ σ hs;dsimp only at h1 h2 h3 hs;have hkl:k<xs.length:=(JX.1 hy).1;have hyl:ys.length=k:=by rw[h1,NT];omega
  have hll:ys.length<Ay/\(ys.length+1)*8<=140737488355328:=by omega
  refine uK (Vx (l:=[.box nb [v],.own v 1 (iL ys)]) rfl hs ?_);clear hs;intro σ hs
  conv=>whnf
  repeat'((first|apply st|(apply si;intro A B Y Z)|(apply Y;clear Z B Y A)|refine ld ?_|refine EK fun σ hs=>?_|refine aq fun v σ hs hsl=>?_|clear U K)<;>conv=>whnf)
  intro hn;exact⟨(v,ys++[y]),rfl,⟨by rw[Ar hy,h1],fun _=>hsl,fun h=>by omega⟩,hs.aH hn⟩
 .clear hs
  rintro r σ ⟨⟨v,ys⟩,rfl,⟨h1,h2,h3⟩,hs⟩;dsimp only at h1 h2 h3 hs;refine Io hs fun σ hs=>?_
  conv=>whnf
  repeat'((first|apply st|(apply sq;intro K U)|(apply si;intro A B Y Z)|(apply Y;clear Z B Y A)|(apply U;clear U K)|refine ld ?_|fail)<;>conv=>whnf)
  rw[List.take_length]at h1;subst h1;refine A4 hs (Mz _ _) (.refl _) fun σ' hs'=>⟨_,⟨v,rfl,rfl,?_⟩,hs'⟩
  rcases Nat.eq_zero_or_pos ys.length with h|h
  .exact .inr ⟨h3 h,Zm.1 h⟩
  .exact .inl (h2 h)
def cD (xs:List Int) (f:Bool) (hxl:xs.length<=1000):BK Tryz.prog 171 [.f (.func 312) [] [.rp [.l (iL xs) f]]] [] fun r post=> ∃v,r= .ret v/\post= [.own v 1 (iL xs)]/\((Cg v).isSome=true\/(v= .l [] true/\xs= [])):=by
 intro σ hs;refine tR kZ ?_
 conv=>whnf
 repeat'((first|(apply sq;intro K U)|(apply si;intro A B Y Z)|(apply Y;clear Z B Y A)|(apply U;clear U K)|fail)<;>conv=>whnf)
 refine(cK xs f hxl).use (rest:=[]) (by simpa using hs) ?_;clear hs;rintro r post σ ⟨v,rfl,rfl,hv⟩ hs
 conv=>whnf
 repeat'((first|apply st|(apply Y;clear Z B Y A)|(apply U;clear U K)|fail)<;>conv=>whnf)
 exact A4 hs (List.sublist_append_left _ _) (.refl _) fun σ' hs'=>⟨_,⟨v,rfl,rfl,hv⟩,hs'⟩
def Qq (xs:List Int) (f:Bool) (hxl:xs.length<=1000):Pure Tryz.prog 260 [.f (.func 312) [] [.rp [.l (iL xs) f]]] (.l (iL (xs.mergeSort Gy)) false):=by
 refine sV kZ ?_;have hs:=Sn
 conv=>whnf
 repeat'((first|(apply sq;intro K U)|(apply si;intro A B Y Z)|(apply Y;clear Z B Y A)|(apply U;clear U K)|fail)<;>conv=>whnf)
 refine(cD xs f hxl).use (rest:=[]) (by simpa using hs) ?_;clear hs;rintro r post σ ⟨v,rfl,rfl,hv⟩ hs
 conv=>whnf
 repeat'((first|(apply sq;intro K U)|(apply si;intro A B Y Z)|(apply Y;clear Z B Y A)|(apply U;clear U K)|fail)<;>conv=>whnf)
 refine(dT hv).use (rest:=[]) hs ?_;clear hs;rintro r post σ ⟨rfl,rfl⟩ hs
 conv=>whnf
 repeat'((first|apply st|(apply sq;intro K U)|(apply si;intro A B Y Z)|(apply Y;clear Z B Y A)|(apply U;clear U K)|fail)<;>conv=>whnf)
 exact B3 (hs.IJ 0 rfl)
def Ra {S:Type} {stp:Int->S->Bool×S} {q:Int->Bool}: ∀(xs:List Int) (k:Nat) (s:S),(∀y∈xs,∀s,(stp y s).1=q y)->decide ((Bl stp xs k s).1≥0)=xs.any q
 | [],_,_,_=>rfl
 | y ::r,k,s,h=>by
   rw[Bl,h y (.head _),QB];cases hq:q y
   .rw[if_neg (by decide),Bool.false_or]
    exact Ra r (k+1) _ fun z hz=>h z (.tail _ hz)
   .rw[if_pos rfl,Bool.true_or]
    exact decide_eq_true (Int.natCast_nonneg k)
def ai (l:List Int) (q:Int->Bool):(List.range l.length).all (fun j=> !q (l.getD j 0))= !l.any q:=by
 rw[Hf,Dh,Bool.not_eq_true',<-Bool.not_eq_true,He];constructor
 .rintro h ⟨x,hx,hq⟩
  obtain⟨i,hi⟩:=List.getElem?_of_mem hx;have:=h i (List.mem_range.2 (JX.1 hi).1);rw[E9 hi,hq]at this;cases this
 .intro h j hj
  cases hq:q (l.getD j 0)
  .rfl
  .exact absurd ⟨_,RN (List.mem_range.1 hj),hq⟩ h
def ZM {p:Prog} {l:List Int} {M:List (Int×Int)}:(Bl (fun(m:Int) (M:List (Int×Int))=>(!(decide ((Bl (fun y M=>(Az p y m,aG p M y m)) l 0 M).1≥0)),um p l m M)) l 0 M).1=match Wl (Az p) l with|some i=>((i:Nat):Int)|none=> -1:=by
 rw[RZ (q:=fun m=> !l.any fun y=>Az p y m) l 0 M fun m _ s=>by dsimp only;rw[Ra (q:=fun y=>Az p y m) l 0 s fun y _ s=>rfl]];rw[Wl,find_congr (g:=fun i=>Z2 (Az p) l i l.length) fun i _=>by rw[Z2,ai l fun y=>Az p y (l.getD i 0)]];cases(List.range l.length).find? fun i=>Z2 (Az p) l i l.length with
 | none=>rfl
 | some i=>simp
set_option maxHeartbeats 4000000 in
def cI (p:Prog) (L:Nat) (l:List Int) (f:Bool) (hok:Ed p) (hgw:CY (AT p)) (hfm: ∀x∈p.methods,EM (AT p) x.fact=true) (hl:SX p l) (hnd:l.Nodup) (M:List (Int×Int)) :
    BK Tryz.prog 184 [R1 p L,.l (iL l) f] [.map L (Jv p M)] fun r post=>r= .ret (.l (iL (Ge (Az p) l.length (l.mergeSort Gy))) true)/\ ∃M',post= [.map L (Jv p M')]:=by
 intro σ hs;have hM:=Mx;have h16:=hl.many;have hml:(l.mergeSort Gy).length=l.length:=List.length_mergeSort _;have c1:=Qm l f;have c2:=Qq l f (by omega);refine fU kZ ?_
 conv=>whnf
 repeat'((first|apply st|(apply sq;intro K U)|(apply si;intro A B Y Z)|(apply Y;clear Z B Y A)|(apply U;clear U K)|refine ld ?_|refine EK fun σ hs=>?_|refine c1.use ?_|refine c2.use ?_|(intro nn hnn;generalize hg:A6 _ nn _=σ;refine Ci hg fun hs=>?_;clear hg)|fail)<;>conv=>whnf)
 clear c1 c2 hnn
 refine Gf (fun(x:List Int×Bool×V×List Int×List (Int×Int))=>x.1.length) (fun x=>[(5,x.2.2.1)]) (fun x=>[.box nn [.l (iL x.1) x.2.1],.own x.2.2.1 1 (iL x.2.2.2.1),.map L (Jv p x.2.2.2.2)])
  (fun x=>(∀y∈x.1,Bc p y=true)/\x.1.Nodup/\x.2.2.2.1.length+x.1.length<=16/\Ge (Az p) l.length (l.mergeSort Gy)=x.2.2.2.1++Ge (Az p) x.1.length x.1) (l.mergeSort Gy,false,.l [] true,[],M) rfl ⟨fun y hy=>hl.Kp y (List.mem_mergeSort.1 hy),(List.mergeSort_perm l Gy).symm.nodup hnd,by simpa[hml]using h16,by simp[hml]⟩ ((DQ hs 1).perm (.swap _ _ _)) ?_
 clear hs;rintro⟨l',f',v,out,M⟩ σ ⟨hme,hn,hlen,hm⟩ hs;dsimp only at hme hn hlen hm hs;dsimp only;have hll:out.length<Ay/\(out.length+1)*8<=140737488355328:=by omega
 by_cases hz:l'.length=0
 .rw[hz]at hm
  simp only[Ge,Ep]at hm
  conv=>whnf
  repeat'((first|apply st|(apply sq;intro K U)|(apply si;intro A B Y Z)|(apply Y;clear Z B Y A)|(apply U;clear U K)|refine⟨rfl,?_⟩|refine ld ?_|(constructor<;>intro hc<;>(try rw[hc])<;>(replace hc:=bp hc)<;>(try simp(disch:=omega) only[Bu,wrap64,AV]at hc)<;>try(exfalso;omega))|clear U K)<;>conv=>whnf)
  refine(On out v (by omega)).use (rest:=[_,_]) (hs.perm (.swap _ _ _)) ?_;clear hs;rintro r post σ ⟨rfl,rfl⟩ hs
  conv=>whnf
  repeat'((first|apply st|(apply Y;clear Z B Y A)|(apply U;clear U K)|fail)<;>conv=>whnf)
  exact A4 hs (Mz _ _) (.refl _) fun σ' hs'=>⟨_,⟨by rw[hm],M,rfl⟩,hs'⟩
 .obtain⟨n,hnn⟩: ∃n,l'.length=n+1:=⟨l'.length - 1,by omega⟩
  have hne:l'≠[]:=fun e=>hz (by rw[e];rfl)
  obtain⟨i,hi⟩:=Q7 hok hne hme;have hil:i<l'.length:=by simpa using List.mem_of_find?_eq_some hi
  obtain⟨x,hx⟩: ∃x,l'[i]? =some x:=⟨_,ES hil⟩
  rw[hnn,Ge,hi,Option.getD_some,E9 hx]at hm;have c3:=MW l' f' x (by omega);rw[Fo hn hx]at c3;have hel:=List.length_eraseIdx_of_lt hil
  conv=>whnf
  repeat'((first|apply st|(apply sq;intro K U)|(apply si;intro A B Y Z)|(apply Y;clear Z B Y A)|(apply U;clear U K)|refine⟨rfl,?_⟩|refine ld ?_|(constructor<;>intro hc<;>(try rw[hc])<;>(replace hc:=bp hc)<;>(try simp(disch:=omega) only[Bu,wrap64,AV]at hc)<;>try(exfalso;omega))|fail)<;>conv=>whnf)
  refine(H0 262 [] [.p nn 0,.rp [R1 p L]] (fun M=>[.box nn [.l (iL l') f'],.map L (Jv p M)]) _ _ (Yg p L nn l' f' hok hgw hfm hme) l' f' M (Gk fun y hy _=>hme y hy)).use (rest:=[.own v 1 (iL out)]) (hs.perm (.cons _ (.swap _ _ _))) ?_;clear hs;rintro r post σ ⟨rfl,rfl⟩ hs;rw[ZM,hi];generalize (Bl _ l' 0 M).2=M2 at hs;dsimp only
  conv=>whnf
  repeat'((first|apply st|(apply sq;intro K U)|(apply si;intro A B Y Z)|(apply Y;clear Z B Y A)|(apply U;clear U K)|refine Kf ?_|refine ld ?_|refine EK fun σ hs=>?_|refine aq fun v σ hs hsl=>?_|refine c3.use ?_|clear U K)<;>conv=>whnf)
  refine⟨(l'.eraseIdx i,true,v,out++[x],M2),by dsimp only;omega,rfl,⟨fun y hy=>hme y (List.mem_of_mem_eraseIdx hy),hn.sublist (List.eraseIdx_sublist _ _),by simp;omega,?_⟩,hs.perm (.cons _ (.swap _ _ _))⟩;dsimp only;rw[hm,hel,show l'.length - 1=n by omega];simp
def aS: ∀ {l:List Int},l.Nodup->(l.mergeSort Gy).Pairwise (· < ·):=fun {l} h=>by
 have h1:=List.pairwise_mergeSort (le:=Gy) (fun a b c h1 h2=>by simp only[Gy,Cm]at *;omega) (fun a b=>by simp only[Gy,EJ,Cm];omega) l;have h2:=List.nodup_iff_pairwise_ne.1 ((List.mergeSort_perm l Gy).symm.nodup h);exact(h1.and h2).imp fun⟨a,b⟩=>by simp only[Gy,Cm]at a;omega
def Y9 {x:Int}: ∀ {out:List Int},out.Pairwise (· < ·)->x∉out->(Na x out).Pairwise (· < ·)
 | [],_,_=>by simp[Na]
 | y ::r,h,hx=>by
   rw[List.pairwise_cons]at h;rw[Fq,not_or]at hx;by_cases hy:y<x
   .have e:Na x (y::r)=y::Na x r:=by simp[Na,List.takeWhile_cons,List.dropWhile_cons,hy]
    rw[e,List.pairwise_cons];refine⟨fun z hz=>?_,Y9 h.2 hx.2⟩;rcases O5.1 hz with rfl|hz
    .exact hy
    .exact h.1 z hz
   .have e:Na x (y::r)=x::y::r:=by simp[Na,List.takeWhile_cons,List.dropWhile_cons,hy]
    rw[e,List.pairwise_cons,List.pairwise_cons];refine⟨fun z hz=>?_,h⟩;rcases Fq.1 hz with rfl|hz
    .have:=hx.1;omega
    .have:=h.1 z hz
     have:=hx.1;omega
def VU: ∀(l out:List Int),out.Pairwise (· < ·)->l.Nodup->(∀x∈l,x∉out)->(l.foldl (fun out x=>Na x out) out).Pairwise (· < ·)
 | [],_,h,_,_=>h
 | x::r,out,h,hn,hx=>by
   rw[List.nodup_cons]at hn;refine VU r _ (Y9 h (hx x (.head _))) hn.2 fun y hy hm=>?_
   rcases O5.1 hm with rfl|hm
   .exact hn.1 hy
   .exact hx y (.tail _ hy) hm
def Qr {l:List Int} (h:l.Nodup):l.mergeSort Gy=Je l:=
 KE (aS h) (VU l [] .nil h fun x _ hm=>by cases hm) fun x=>by rw[List.mem_mergeSort,aT]
end Go.Gl
namespace Go.Gl
open Go.Proofs
def tv {σ:AH} {l:List At} {i:Nat} {v:V} {sz:Nat} {es:List (List V)} (hs:Sat σ l) (hi:l[i]? =some (.own v sz es)) (he: ∀e∈es,e.length=sz) {K:V->AH->Prop} (hk: ∀v' σ',Sat σ' (l.set i (.own v' sz es))->((Cg v').isSome=true\/(v'= .l es true/\v= .l es true))->K v' σ'):AP σ sz v none (some (.i .i64 (es.length:Int))) (some (.i .i64 (es.length:Int))) K:=by
 rcases hs.get hi with⟨rfl,_⟩|⟨n,cap,rfl,hn⟩
 .refine⟨he,?_⟩
  simp only[Nr];refine⟨Int.le_refl _,Int.natCast_nonneg _,Int.le_refl _,trivial,?_⟩
  have hset:l.set i (.own (.l es true) sz es)=l:=by
   refine List.ext_getElem? fun j=>?_
   by_cases hj:i=j
   .subst hj
    rw[List.getElem?_set_self (JX.1 hi).1,hi]
   .rw[List.getElem?_set_ne hj]
  have:=hk (.l es true) σ (by rw[hset];exact hs) (.inr ⟨rfl,rfl⟩);simpa using this
 .unfold AP
  simp only[Nr];refine⟨Int.le_refl _,Int.natCast_nonneg _,Int.le_refl _,trivial,trivial,trivial,?_⟩;rw[hn];refine⟨rfl,rfl,rfl,.inr (hk _ _ ?_ (.inl rfl))⟩;refine hs.change hi (fun b hb ha=>FH hb fun m hm=>?_) (fun b hb ha m hm=>?_) (.inr ⟨n,es.length,rfl,Cz _ _ _⟩)
  .rw[Ca]
   intro e;subst e;exact ha m rfl hm
  .cases hm
   exact ha _ rfl
attribute [local irreducible] As Am Ac AQ AM Ab AP AR AL Aa AN AO Ao Ax Sat AW Au Ad W
def mg (xs:List Int) (v:V) (hl:xs.length<=Ay) (hv:(Cg v).isSome=true\/(v= .l [] true/\xs= [])):BK Tryz.prog 242 [v] [.own v 1 (iL xs)] fun r post=> ∃v',r= .ret v'/\post= [.own v' 1 (iL xs)]/\((Cg v').isSome=true\/(v'= .l [] true/\xs= [])):=by
 intro σ hs;have hg:=EN Eg xs;refine fR kZ ?_
 conv=>whnf
 repeat'((first|(apply sq;intro K U)|(apply si;intro A B Y Z)|(apply Y;clear Z B Y A)|(apply U;clear U K)|refine lo ?_|fail)<;>conv=>whnf)
 refine tv (i:=0) hs rfl hg.1 fun v' σ hs hv'=>?_
 conv=>whnf
 repeat'((first|apply st|(apply Y;clear Z B Y A)|(apply U;clear U K)|fail)<;>conv=>whnf)
 refine A4 hs (List.Sublist.refl _) (.refl _) fun σ' hs'=>⟨_,⟨v',rfl,rfl,?_⟩,hs'⟩
 rcases hv' with h|⟨h1,h2⟩
 .exact .inl h
 .rcases hv with h|⟨h3,h4⟩
  .rw[h2]at h;cases h
  .subst h4
   exact .inr ⟨h1,rfl⟩
def US (xs ys:List Int) (k:Nat):Prop:=ys.length=xs.length/\ ∀t,t<xs.length->ys[t]? =if t<k\/xs.length - k<=t then xs[xs.length - 1 - t]? else xs[t]?
def qo (xs:List Int):US xs xs 0:=⟨rfl,fun t ht=>by rw[if_neg (by omega)]⟩
def iM {xs ys:List Int} {k:Nat} (h:US xs ys k) (hk:xs.length<=2*k+1):ys=xs.reverse:=by
 refine List.ext_getElem? fun t=>?_
 rcases Nat.lt_or_ge t xs.length with ht|ht
 .rw[h.2 t ht,List.getElem?_reverse ht]
  split
  .rfl
  .congr 1;omega
 .rw[List.getElem?_eq_none (by rw[h.1];exact ht),List.getElem?_eq_none (by rw[List.length_reverse];exact ht)]
def bP {xs ys:List Int} {k:Nat} {a b:Int} (h:US xs ys k) (hk:2*k+1<xs.length) (ha:ys[k]? =some a) (hb:ys[xs.length - 1 - k]? =some b):US xs ((ys.set k b).set (xs.length - 1 - k) a) (k+1):=by
 have h1:=h.2 k (by omega);have h2:=h.2 (xs.length - 1 - k) (by omega);rw[if_neg (by omega),ha]at h1;rw[if_neg (by omega),hb]at h2;refine⟨by rw[List.length_set,List.length_set];exact h.1,fun t ht=>?_⟩;have hl:=h.1;by_cases e1:t=xs.length - 1 - k
 .subst e1
  rw[List.getElem?_set_self (by rw[List.length_set];omega),if_pos (by omega),show xs.length - 1 - (xs.length - 1 - k)=k by omega,h1]
 .rw[List.getElem?_set_ne (fun e=>e1 e.symm)]
  by_cases e2:t=k
  .subst e2
   rw[List.getElem?_set_self (by omega),if_pos (by omega),h2]
  .rw[List.getElem?_set_ne (fun e=>e2 e.symm),h.2 t ht]
   by_cases e3:t<k\/xs.length - k<=t
   .rw[if_pos e3,if_pos (by omega)]
   .rw[if_neg e3,if_neg (by omega)]
end Go.Gl
namespace Go.Gl
open Go.Proofs
attribute [local irreducible] As Am Ac AQ AM Ab AP AR AL Aa AN AO Ao Ax Sat AW Au Ad W
set_option maxHeartbeats 1000000 in
def aX (xs:List Int) (v:V) (hl:xs.length<=1000) (hv:(Cg v).isSome=true\/(v= .l [] true/\xs= [])):BK Tryz.prog 185 [v] [.own v 1 (iL xs)] fun r post=>r= .ret (.t [])/\post= [.own v 1 (iL xs.reverse)]:=by
 intro σ hs;have hM:=Mx;have e0:((iL xs).length:Int)=xs.length:=by simp
 have hw0:IntKind.i64.wrap (((iL xs).length:Int) - 1)=(xs.length:Int) - 1:=by rw[e0,wrap64 (by omega) (by omega)]
 refine tK kZ ?_
 conv=>whnf
 repeat'((first|apply st|(apply sq;intro K U)|(apply si;intro A B Y Z)|(apply Y;clear Z B Y A)|(apply U;clear U K)|refine⟨rfl,?_⟩|refine lo ?_|fail)<;>conv=>whnf)
 refine Gf (fun(x:Int×Int×List Int)=>(x.2.1+1).toNat) (fun x=>[(2,eI x.1),(3,eI x.2.1)]) (fun x=>[.own v 1 (iL x.2.2)]) (fun x=> ∃k:Nat,x.1=k/\x.2.1=(xs.length:Int) - 1 - k/\2*k<=xs.length+1/\US xs x.2.2 k) (0,IntKind.i64.wrap (((iL xs).length:Int) - 1),xs) rfl ⟨0,rfl,by rw[hw0];simp,by omega,qo xs⟩ hs ?_;clear hs;rintro⟨i,j,ys⟩ σ ⟨k,hi,hj,hk,hh⟩ hs;dsimp only at hi hj hh hs;dsimp only;have hyl:=hh.1;by_cases hij:i<j
 .have hsv:(Cg v).isSome=true:=by
   rcases hv with h|⟨h1,h2⟩
   .exact h
   .rw[h2]at hj;simp at hj;omega
  have hwi:IntKind.i64.wrap (i+1)=i+1:=wrap64 (by omega) (by omega);have hwj:IntKind.i64.wrap (j - 1)=j - 1:=wrap64 (by omega) (by omega);obtain⟨a,ha⟩: ∃a,ys[i.toNat]? =some a:=⟨_,ES (by omega)⟩
  obtain⟨b,hb⟩: ∃b,ys[j.toNat]? =some b:=⟨_,ES (by omega)⟩
  conv=>whnf
  repeat'((first|apply st|(apply sq;intro K U)|(apply si;intro A B Y Z)|(apply Y;clear Z B Y A)|(apply U;clear U K)|apply dr|refine⟨rfl,?_⟩|refine oi ?_|refine oi2 ?_|refine uS ?_|refine oset fun σ hs=>?_|refine oset (fun σ hs=>?_) (h1:=by rw[List.length_set];omega)|(constructor<;>intro hc<;>(try rw[hc])<;>(replace hc:=bp hc)<;>try(exfalso;omega))|fail)<;>conv=>whnf)
  have hik:i.toNat=k:=by omega
  have hjk:j.toNat=xs.length - 1 - k:=by omega
  refine⟨(IntKind.i64.wrap (i+1),IntKind.i64.wrap (j - 1),(ys.set i.toNat b).set j.toNat a),by dsimp only;rw[hwj];omega,rfl,⟨k+1,by dsimp only;rw[hwi];omega,by dsimp only;rw[hwj];omega,by omega,?_⟩,hs⟩;dsimp only;rw[hik]at ha ⊢;rw[hjk]at hb ⊢;exact bP hh (by omega) ha hb
 .have he:=iM hh (by omega)
  conv=>whnf
  repeat'((first|apply st|(apply sq;intro K U)|(apply si;intro A B Y Z)|(apply Y;clear Z B Y A)|(apply U;clear U K)|refine⟨rfl,?_⟩|(constructor<;>intro hc<;>(try rw[hc])<;>(replace hc:=bp hc)<;>try(exfalso;omega))|clear U K)<;>conv=>whnf)
  subst he;exact A4 hs (List.Sublist.refl _) (.refl _) fun σ' hs'=>⟨_,⟨rfl,rfl⟩,hs'⟩
set_option maxHeartbeats 4000000 in
def YD (p:Prog) (L:Nat) (l:List Int) (f:Bool) (hok:Ed p) (hgw:CY (AT p)) (hfm: ∀x∈p.methods,EM (AT p) x.fact=true) (hl:SX p l) (hnd:l.Nodup) (M:List (Int×Int)) :
    BK Tryz.prog 184 [R1 p L,.l (iL l) f] [.map L (Jv p M)] fun r post=> ∃v M',r= .ret v/\post= [.own v 1 (iL (Ge (Az p) l.length (l.mergeSort Gy))),.map L (Jv p M')]/\((Cg v).isSome=true\/(v= .l [] true/\Ge (Az p) l.length (l.mergeSort Gy)= [])):=by
 intro σ hs;have hM:=Mx;have h16:=hl.many;have hml:(l.mergeSort Gy).length=l.length:=List.length_mergeSort _;have c1:=Qm l f;have c2:=Qq l f (by omega);refine fU kZ ?_
 conv=>whnf
 repeat'((first|apply st|(apply sq;intro K U)|(apply si;intro A B Y Z)|(apply Y;clear Z B Y A)|(apply U;clear U K)|refine ld ?_|refine EK fun σ hs=>?_|refine c1.use ?_|refine c2.use ?_|(intro nn hnn;generalize hg:A6 _ nn _=σ;refine Ci hg fun hs=>?_;clear hg)|fail)<;>conv=>whnf)
 clear c1 c2 hnn
 refine Gf (fun(x:List Int×Bool×V×List Int×List (Int×Int))=>x.1.length) (fun x=>[(5,x.2.2.1)]) (fun x=>[.box nn [.l (iL x.1) x.2.1],.own x.2.2.1 1 (iL x.2.2.2.1),.map L (Jv p x.2.2.2.2)])
  (fun x=>(∀y∈x.1,Bc p y=true)/\x.1.Nodup/\x.2.2.2.1.length+x.1.length<=16/\Ge (Az p) l.length (l.mergeSort Gy)=x.2.2.2.1++Ge (Az p) x.1.length x.1/\((Cg x.2.2.1).isSome=true\/(x.2.2.1= .l [] true/\x.2.2.2.1= []))) (l.mergeSort Gy,false,.l [] true,[],M) rfl ⟨fun y hy=>hl.Kp y (List.mem_mergeSort.1 hy),(List.mergeSort_perm l Gy).symm.nodup hnd,by simpa[hml]using h16,by simp[hml],.inr ⟨rfl,rfl⟩⟩ ((DQ hs 1).perm (.swap _ _ _)) ?_
 clear hs;rintro⟨l',f',v,out,M⟩ σ ⟨hme,hn,hlen,hm,hv⟩ hs;dsimp only at hme hn hlen hm hv hs;dsimp only;have hll:out.length<Ay/\(out.length+1)*8<=140737488355328:=by omega
 by_cases hz:l'.length=0
 .rw[hz]at hm
  simp only[Ge,Ep]at hm
  conv=>whnf
  repeat'((first|apply st|(apply sq;intro K U)|(apply si;intro A B Y Z)|(apply Y;clear Z B Y A)|(apply U;clear U K)|refine⟨rfl,?_⟩|refine ld ?_|(constructor<;>intro hc<;>(try rw[hc])<;>(replace hc:=bp hc)<;>(try simp(disch:=omega) only[Bu,wrap64,AV]at hc)<;>try(exfalso;omega))|clear U K)<;>conv=>whnf)
  refine(mg out v (by omega) hv).use (rest:=[_,_]) (hs.perm (.swap _ _ _)) ?_;clear hs;rintro r post σ ⟨v',rfl,rfl,hv'⟩ hs
  conv=>whnf
  repeat'((first|apply st|(apply Y;clear Z B Y A)|(apply U;clear U K)|fail)<;>conv=>whnf)
  rw[hm];exact A4 hs (.cons₂ _ (Mz _ _)) (.refl _) fun σ' hs'=>⟨_,⟨v',M,rfl,rfl,hv'⟩,hs'⟩
 .obtain⟨n,hnn⟩: ∃n,l'.length=n+1:=⟨l'.length - 1,by omega⟩
  have hne:l'≠[]:=fun e=>hz (by rw[e];rfl)
  obtain⟨i,hi⟩:=Q7 hok hne hme;have hil:i<l'.length:=by simpa using List.mem_of_find?_eq_some hi
  obtain⟨x,hx⟩: ∃x,l'[i]? =some x:=⟨_,ES hil⟩
  rw[hnn,Ge,hi,Option.getD_some,E9 hx]at hm;have c3:=MW l' f' x (by omega);rw[Fo hn hx]at c3;have hel:=List.length_eraseIdx_of_lt hil
  conv=>whnf
  repeat'((first|apply st|(apply sq;intro K U)|(apply si;intro A B Y Z)|(apply Y;clear Z B Y A)|(apply U;clear U K)|refine⟨rfl,?_⟩|refine ld ?_|(constructor<;>intro hc<;>(try rw[hc])<;>(replace hc:=bp hc)<;>(try simp(disch:=omega) only[Bu,wrap64,AV]at hc)<;>try(exfalso;omega))|fail)<;>conv=>whnf)
  refine(H0 262 [] [.p nn 0,.rp [R1 p L]] (fun M=>[.box nn [.l (iL l') f'],.map L (Jv p M)]) _ _ (Yg p L nn l' f' hok hgw hfm hme) l' f' M (Gk fun y hy _=>hme y hy)).use (rest:=[.own v 1 (iL out)]) (hs.perm (.cons _ (.swap _ _ _))) ?_;clear hs;rintro r post σ ⟨rfl,rfl⟩ hs;rw[ZM,hi];generalize (Bl _ l' 0 M).2=M2 at hs;dsimp only
  conv=>whnf
  repeat'((first|apply st|(apply sq;intro K U)|(apply si;intro A B Y Z)|(apply Y;clear Z B Y A)|(apply U;clear U K)|refine Kf ?_|refine ld ?_|refine EK fun σ hs=>?_|refine aq fun v σ hs hsl=>?_|refine c3.use ?_|clear U K)<;>conv=>whnf)
  refine⟨(l'.eraseIdx i,true,v,out++[x],M2),by dsimp only;omega,rfl,⟨fun y hy=>hme y (List.mem_of_mem_eraseIdx hy),hn.sublist (List.eraseIdx_sublist _ _),by simp;omega,?_,.inl hsl⟩,hs.perm (.cons _ (.swap _ _ _))⟩;dsimp only;rw[hm,hel,show l'.length - 1=n by omega];simp
def oP (g:FuncId) (fi ca:List V) (q:Int×Int->Bool):Prop:= ∀v,Pure Tryz.prog g (fi++[.a (pI v)]++ca) (.b (q v))
def oP.use {g:FuncId} {fi ca:List V} {q:Int×Int->Bool} (h:oP g fi ca q) {v:Int×Int} {σ:AH} {k kp:V->AH->Prop} (hk:k (.b (q v)) σ):Ao Tryz.prog (.f (.func g) fi ca) [.a (pI v)] σ (qk k kp):=BD ((h v).use hk)
end Go.Gl
namespace Go.Gl
variable {P:Program} {σ:AH}
def As.Qb {f:FuncId} {args args':List V} {σ σ2:AH} {Q:R->AH->Prop} (h:As P f args' σ2 Q) (hsub:Sub σ2 σ) (hf:C7 σ σ2 args args'):As P f args σ Q:=by
 refine⟨h.1,fun Λ w cs G hv=>?_⟩;exact Calls.mono (h.2 Λ w cs (G.drop hsub) ⟨by rw[hf.length];exact hv.1,hf.rel G hsub (fun _ _ e=>e) hv.2⟩) fun e w' ⟨r,σ',hr,h1,h2,h3⟩=>⟨r,σ',hr,h1,h2,(B2.drop w hsub).trans h3⟩
def Pure.arg {f:FuncId} {args args':List V} {v:V} (h:Pure P f args' v) (hf:C7 emp emp args args'):Pure P f args v:=As.Qb h (Sub.refl _) hf
def Own.pJ {v:V} {sz:Nat} {es es':List (List V)} (h:Own σ v sz es) (G:FF σ emp es es'):Ff σ emp v (.l es' false):=by
 rcases h with⟨rfl,_⟩|⟨n,cap,rfl,hn⟩
 .exact .l (fun h=>(by cases h)) G
 .exact .arr hn rfl rfl G
end Go.Gl
namespace Go.Gl
open Go.Proofs
end Go.Gl
namespace Go.Gl
open Go.Proofs
attribute [local irreducible] As Am Ac AQ AM Ab AP AR AL Aa AN AO Ao Ax Sat AW Au Ad W
def lJ {p:Prog} (h:(Bf p).isSome=true) {x:Ng} (hx:x∈p.methods):(1<=x.kind/\x.kind<=4)/\EM (AT p) x.fact=true/\BT (AT p) x.fact=true/\Ig x.fact<=p.EV.getD x.gen.toNat 0:=by
 have:=(Ft h).2 x hx;simp only[Wd,A8,Cm]at this;have hf:=this.2.2.2.2.1;simp only[EM,A8,Cm]at hf;exact⟨⟨this.1,this.2.1⟩,this.2.2.2.2.1,hf.2.2,this.2.2.2.2.2⟩
structure Pl where
 ar:List Int
 cd:Bool
 be:List Int
 pr:List Int
 prt:Bool
 af:List Int
abbrev plV (x:Pl) (g h:Bool):List V:=[.l (iL x.ar) g,.b x.cd,.l (iL x.be) g,.l (iL x.pr) g,.b x.prt,.l (iL x.af) h]
def Dn (p:Prog) (l:List Int) (k:Int):List Int:=l.filter fun m=>(B1 p m).kind==k
def uf:Pl:=⟨[],false,[],[],false,[]⟩
def vO (A:Int->Int->Bool) (p:Prog) (l:List Int):Pl:=
 ⟨(C2 A (Dn p l 4).length (Dn p l 4)).1,(C2 A (Dn p l 4).length (Dn p l 4)).2,Ge A (Dn p l 2).length (Je (Dn p l 2)),(C2 A (Dn p l 1).length (Dn p l 1)).1,(C2 A (Dn p l 1).length (Dn p l 1)).2,(Ge A (Dn p l 3).length (Je (Dn p l 3))).reverse⟩
def Ko (A:Int->Int->Bool) (p:Prog) (l:List Int):Pl×Bool:=if(Dn p l 1).isEmpty then(uf,false)else(vO A p l,true)
end Go.Gl
namespace Go.Gl
open Go.Proofs
structure YQ (p:Prog) (l:List Int):Prop where
 Kp: ∀x∈l,Bc p x=true
 gen: ∀x∈l,∀y∈l,(B1 p x).gen=(B1 p y).gen
 nodup:l.Nodup
 many:l.length<=16
def Kz {p:Prog} {l:List Int} {k x:Int} (h:x∈Dn p l k):x∈l/\(B1 p x).kind=k:=by
 have:=Jc.1 h;exact⟨this.1,by simpa using this.2⟩
def lC {p:Prog} {l:List Int} {k:Int}:(Dn p l k).length<=l.length:=Wb _ _
def YQ.of {p:Prog} {l:List Int} (h:YQ p l) (k:Int):SX p (Dn p l k)/\(Dn p l k).Nodup:=by
 refine⟨⟨fun x hx=>h.Kp x (Kz hx).1,fun x hx y hy=>?_,Nat.le_trans lC h.many⟩,h.nodup.sublist (List.filter_sublist ..)⟩;rw[KA,h.gen x (Kz hx).1 y (Kz hy).1,(Kz hx).2,(Kz hy).2];simp
def Zx.sub {T:List (List Bool)} {l l':List Int} (h:Zx T l) (hs: ∀x∈l',x∈l) (hl:l'.length<=l.length):Zx T l':=⟨h.len,h.sq,fun x hx=>h.ins x (hs x hx),Nat.le_trans hl h.many⟩
attribute [local irreducible] As Am Ac AQ AM Ab AP AR AL Aa AN AO Ao Ax Sat AW Au Ad W
end Go.Gl
namespace Go.Gl
open Go.Proofs
attribute [local irreducible] As Am Ac AQ AM Ab AP AR AL Aa AN AO Ao Ax Sat AW Au Ad W
def gr {p:Prog} {l:List Int} {k:Nat} {x:Int} (hx:l[k]? =some x) (kd:Int):Dn p (l.take (k+1)) kd=if(B1 p x).kind==kd then Dn p (l.take k) kd++[x]else Dn p (l.take k) kd:=by
 rw[Ar hx,Dn,List.filter_append];cases hp:(B1 p x).kind==kd<;>simp[Dn,hp]
def LQ {p:Prog} {l:List Int} {k:Nat} {kd:Int} (h:l.length<=16):(Dn p (l.take k) kd).length<=16:=by
 have:=Wb (fun m=>(B1 p m).kind==kd) (l.take k);rw[NT]at this;simp only[Dn];omega
set_option maxHeartbeats 4000000 in
def pz (p:Prog) (L:Nat) (l:List Int) (f:Bool) (h:(Bf p).isSome=true) (hG:YQ p l) (M:List (Int×Int)) :
    BK Tryz.prog 124 [R1 p L,.l (iL l) f] [.map L (Jv p M)] fun r post=>r= .ret (.t [.a (plV (Ko (Az p) p l).1 true (!(Ko (Az p) p l).2)),.b (Ko (Az p) p l).2])/\ ∃M',post= [.map L (Jv p M')]:=by
 intro σ hs;have hM:=Mx;have hok:=look_ok h;have hgw:=Qd h;have hfm:=mG h;have h16:=hG.many;have hm16:=hok.many;generalize hX:Ko (Az p) p l=X;refine tn kZ ?_
 conv=>whnf
 repeat'((first|apply st|(apply sq;intro K U)|(apply si;intro A B Y Z)|(apply Y;clear Z B Y A)|(apply U;clear U K)|(intro nn hnn;generalize hg:A6 _ nn _=σ;refine Ci hg fun hs=>?_;clear hg)|fail)<;>conv=>whnf)
 rename_i n4 _ _ _;clear hnn;refine D3 l.length (fun k (_:V×V×V×V)=>[(13,eI (Bq k))]) (fun k x=>[.own x.1 1 (iL (Dn p (l.take k) 1)),.own x.2.1 1 (iL (Dn p (l.take k) 2)),.own x.2.2.1 1 (iL (Dn p (l.take k) 3)),.own x.2.2.2 1 (iL (Dn p (l.take k) 4)),.box nn [.l [] true,x.1,x.2.1,x.2.2.1,x.2.2.2],.box n4 [.l [] true,.b false,.l [] true,.l [] true,.b false,.l [] true],.map L (Jv p M)]) (fun _ _=>True) (.l [] true,.l [] true,.l [] true,.l [] true) rfl trivial (DQ (DQ (DQ (DQ hs 1) 1) 1) 1) ?_;clear hs;rintro k ⟨v1,v2,v3,v4⟩ σ hk - hs;dsimp only at hs;dsimp only;rcases BM l hk with⟨x,hx,hlt⟩|hke
 .have hmx:=hG.Kp x (Dm hx)
  have hxm:=C0 hmx;obtain⟨hkr,-⟩:=lJ h (Dm hxm);have hst:=gr (p:=p) hx;simp only[Bc,A8,Cm]at hmx;have l1:(Dn p (l.take k) 1).length<=16:=LQ h16;have l2:(Dn p (l.take k) 2).length<=16:=LQ h16;have l3:(Dn p (l.take k) 3).length<=16:=LQ h16;have l4:(Dn p (l.take k) 4).length<=16:=LQ h16;have s1:=hst 1;have s2:=hst 2;have s3:=hst 3;have s4:=hst 4;clear hst;generalize B1 p x=y at *;generalize Dn p (l.take k) 1=z1 at *;generalize Dn p (l.take k) 2=z2 at *;generalize Dn p (l.take k) 3=z3 at *;generalize Dn p (l.take k) 4=z4 at *;obtain⟨kd,gn,fc,nd⟩:=y;dsimp only at hkr s1 s2 s3 s4;rcases(show kd=1\/kd=2\/kd=3\/kd=4 by omega)with rfl|rfl|rfl|rfl
  .rw[if_pos (beq_self_eq_true _)]at s1
   rw[if_neg (by decide)]at s2 s3 s4;have hll:z1.length<Ay/\(z1.length+1)*8<=140737488355328:=by omega
   clear l1 l2 l3 l4
   conv=>whnf
   repeat'((first|apply st|(apply sq;intro K U)|(apply si;intro A B Y Z)|(apply Y;clear Z B Y A)|(apply U;clear U K)|refine⟨rfl,?_⟩|refine ix ?_|refine Kf ?_|refine ld ?_|refine EK fun σ hs=>?_|refine aq fun v σ hs hsl=>?_|(refine DV (fun hc=>?_)<;>(try rw[hc])<;>clear hc)|refine WY (j:=1) ?_ (by decide) (by decide)|clear U K)<;>conv=>whnf)
   exact⟨hlt,(v,v2,v3,v4),rfl,trivial,by rw[s1,s2,s3,s4];exact hs⟩
  .rw[if_pos (beq_self_eq_true _)]at s2
   rw[if_neg (by decide)]at s1 s3 s4;have hll:z2.length<Ay/\(z2.length+1)*8<=140737488355328:=by omega
   clear l1 l2 l3 l4
   conv=>whnf
   repeat'((first|apply st|(apply sq;intro K U)|(apply si;intro A B Y Z)|(apply Y;clear Z B Y A)|(apply U;clear U K)|refine⟨rfl,?_⟩|refine ix ?_|refine Kf ?_|refine ld ?_|refine EK fun σ hs=>?_|refine aq fun v σ hs hsl=>?_|(refine DV (fun hc=>?_)<;>(try rw[hc])<;>clear hc)|refine WY (j:=2) ?_ (by decide) (by decide)|clear U K)<;>conv=>whnf)
   exact⟨hlt,(v1,v,v3,v4),rfl,trivial,by rw[s1,s2,s3,s4];exact hs⟩
  .rw[if_pos (beq_self_eq_true _)]at s3
   rw[if_neg (by decide)]at s1 s2 s4;have hll:z3.length<Ay/\(z3.length+1)*8<=140737488355328:=by omega
   clear l1 l2 l3 l4
   conv=>whnf
   repeat'((first|apply st|(apply sq;intro K U)|(apply si;intro A B Y Z)|(apply Y;clear Z B Y A)|(apply U;clear U K)|refine⟨rfl,?_⟩|refine ix ?_|refine Kf ?_|refine ld ?_|refine EK fun σ hs=>?_|refine aq fun v σ hs hsl=>?_|(refine DV (fun hc=>?_)<;>(try rw[hc])<;>clear hc)|refine WY (j:=3) ?_ (by decide) (by decide)|clear U K)<;>conv=>whnf)
   exact⟨hlt,(v1,v2,v,v4),rfl,trivial,by rw[s1,s2,s3,s4];exact hs⟩
  .rw[if_pos (beq_self_eq_true _)]at s4
   rw[if_neg (by decide)]at s1 s2 s3;have hll:z4.length<Ay/\(z4.length+1)*8<=140737488355328:=by omega
   clear l1 l2 l3 l4
   conv=>whnf
   repeat'((first|apply st|(apply sq;intro K U)|(apply si;intro A B Y Z)|(apply Y;clear Z B Y A)|(apply U;clear U K)|refine⟨rfl,?_⟩|refine ix ?_|refine Kf ?_|refine ld ?_|refine EK fun σ hs=>?_|refine aq fun v σ hs hsl=>?_|(refine DV (fun hc=>?_)<;>(try rw[hc])<;>clear hc)|refine WY (j:=4) ?_ (by decide) (by decide)|clear U K)<;>conv=>whnf)
   exact⟨hlt,(v1,v2,v3,v),rfl,trivial,by rw[s1,s2,s3,s4];exact hs⟩
 .rw [CJ hke]at hs
  obtain⟨o1,d1⟩:=hG.of 1;obtain⟨o2,d2⟩:=hG.of 2;obtain⟨o3,d3⟩:=hG.of 3;obtain⟨o4,d4⟩:=hG.of 4;have hpl:Ko (Az p) p l=if(Dn p l 1).isEmpty then(uf,false)else(⟨(C2 (Az p) (Dn p l 4).length (Dn p l 4)).1,(C2 (Az p) (Dn p l 4).length (Dn p l 4)).2,Ge (Az p) (Dn p l 2).length (Je (Dn p l 2)),(C2 (Az p) (Dn p l 1).length (Dn p l 1)).1,(C2 (Az p) (Dn p l 1).length (Dn p l 1)).2,(Ge (Az p) (Dn p l 3).length (Je (Dn p l 3))).reverse⟩,true):=rfl
  rw[hpl]at hX;clear hpl;have e4:=fun M=>ZU p L (Dn p l 4) false hok hgw hfm o4 d4 M
  have e2:=fun M=>cI p L (Dn p l 2) false hok hgw hfm o2 d2 M
  have e1:=fun M=>ZU p L (Dn p l 1) false hok hgw hfm o1 d1 M
  have e3:=fun M=>YD p L (Dn p l 3) false hok hgw hfm o3 d3 M
  rw[Qr d2]at e2;rw[Qr d3]at e3;have hl1:=o1.many
  have hbl:(Ge (Az p) (Dn p l 3).length (Je (Dn p l 3))).length<=16:=by
   have: ∀k l,(Ge (Az p) k l).length=k:=fun k=>by
    induction k with
    | zero=>intro l;rfl
    | succ k ih=>intro l;simp only[Ge,Lz,ih]
   rw[this];exact o3.many
  clear o1 o2 o3 o4 d1 d2 d3 d4 hG;generalize Ge (Az p) (Dn p l 3).length (Je (Dn p l 3))=xs at *;generalize Ge (Az p) (Dn p l 2).length (Je (Dn p l 2))=bs at *;generalize C2 (Az p) (Dn p l 4).length (Dn p l 4)=q4 at *;generalize C2 (Az p) (Dn p l 1).length (Dn p l 1)=q1 at *;generalize Dn p l 1=l1 at *;generalize Dn p l 2=l2 at *;generalize Dn p l 3=l3 at *;generalize Dn p l 4=l4 at *;obtain⟨r4,t4⟩:=q4;obtain⟨r1,t1⟩:=q1;dsimp only at e1 e4;by_cases hz:l1.length=0
  .have he:l1.isEmpty=true:=by simpa using hz
   rw[he,if_pos rfl]at hX;subst hX
   conv=>whnf
   repeat'((first|apply st|(apply sq;intro K U)|(apply si;intro A B Y Z)|(apply Y;clear Z B Y A)|(apply U;clear U K)|refine⟨rfl,?_⟩|refine⟨kZ,?_⟩|refine WY ?_|refine lo ?_|refine ld ?_|(refine EZ (fun hc=>?_)<;>(try rw[hc])<;>clear hc)|(constructor<;>intro hc<;>(try rw[hc])<;>(replace hc:=bp hc)<;>(try simp(disch:=omega) only[Bu,wrap64,AV]at hc)<;>try(exfalso;omega))|(intro nn hnn;generalize hg:A6 _ nn _=σ;refine Ci hg fun hs=>?_;clear hg)|clear U K)<;>conv=>whnf)
   refine MH hs 6 rfl rfl rfl (by simp) (by decide) fun σ hs=>?_
   conv=>whnf
   repeat'((first|apply st|(apply Y;clear Z B Y A)|(apply U;clear U K)|clear U K)<;>conv=>whnf)
   refine nu hs 6 rfl ?_
   conv=>whnf
   repeat'((first|refine⟨kZ,?_⟩|fail)<;>conv=>whnf)
   exact A4 (hs.front (j:=7) rfl) (.cons₂ _ (QV _)) (.refl _) fun σ' hs'=>⟨_,⟨rfl,M,rfl⟩,hs'⟩
  .have he:l1.isEmpty=false:=by cases l1 with
    | nil=>simp at hz
    | cons=>rfl
   rw[he,if_neg (by decide)]at hX;subst hX
   conv=>whnf
   repeat'((first|apply st|(apply sq;intro K U)|(apply si;intro A B Y Z)|(apply Y;clear Z B Y A)|(apply U;clear U K)|refine⟨rfl,?_⟩|refine WY ?_|refine lo ?_|refine ld ?_|(refine EZ (fun hc=>?_)<;>(try rw[hc])<;>clear hc)|(constructor<;>intro hc<;>(try rw[hc])<;>(replace hc:=bp hc)<;>(try simp(disch:=omega) only[Bu,wrap64,AV]at hc)<;>try(exfalso;omega))|(intro nn hnn;generalize hg:A6 _ nn _=σ;refine Ci hg fun hs=>?_;clear hg)|clear U K)<;>conv=>whnf)
   obtain⟨σ2,g1,g2,g3⟩:=Ji hs 4 rfl;refine As.Qb ((e4 M).use (rest:=_) (g3.front (j:=6) rfl) ?_) g1 (.cons (.refl _) (.cons g2 .nil));clear hs g1 g2 g3;rintro r post σ ⟨rfl,M,rfl⟩ hs
   conv=>whnf
   repeat'((first|(apply sq;intro K U)|(apply si;intro A B Y Z)|(apply Y;clear Z B Y A)|(apply U;clear U K)|refine WY ?_|refine ld ?_|refine EK fun σ hs=>?_|fail)<;>conv=>whnf)
   obtain⟨σ2,g1,g2,g3⟩:=Ji hs 3 rfl;refine As.Qb ((e2 M).use (rest:=_) g3 ?_) g1 (.cons (.refl _) (.cons g2 .nil));clear hs g1 g2 g3;rintro r post σ ⟨rfl,M,rfl⟩ hs
   conv=>whnf
   repeat'((first|(apply sq;intro K U)|(apply si;intro A B Y Z)|(apply Y;clear Z B Y A)|(apply U;clear U K)|refine WY ?_|refine ld ?_|refine EK fun σ hs=>?_|fail)<;>conv=>whnf)
   obtain⟨σ2,g1,g2,g3⟩:=Ji hs 2 rfl;refine As.Qb ((e1 M).use (rest:=_) g3 ?_) g1 (.cons (.refl _) (.cons g2 .nil));clear hs g1 g2 g3;rintro r post σ ⟨rfl,M,rfl⟩ hs
   conv=>whnf
   repeat'((first|(apply sq;intro K U)|(apply si;intro A B Y Z)|(apply Y;clear Z B Y A)|(apply U;clear U K)|refine WY ?_|refine ld ?_|refine EK fun σ hs=>?_|fail)<;>conv=>whnf)
   obtain⟨σ2,g1,g2,g3⟩:=Ji hs 2 rfl;refine As.Qb ((e3 M).use (rest:=_) g3 ?_) g1 (.cons (.refl _) (.cons g2 .nil));clear hs g1 g2 g3;rintro r post σ ⟨v,M,rfl,rfl,hv⟩ hs
   conv=>whnf
   repeat'((first|(apply sq;intro K U)|(apply si;intro A B Y Z)|(apply Y;clear Z B Y A)|(apply U;clear U K)|refine ld ?_|refine EK fun σ hs=>?_|fail)<;>conv=>whnf)
   refine(aX xs v (by omega) hv).use (rest:=_) hs ?_;clear hs;rintro r post σ ⟨rfl,rfl⟩ hs
   conv=>whnf
   repeat'((first|(apply sq;intro K U)|(apply si;intro A B Y Z)|(apply Y;clear Z B Y A)|(apply U;clear U K)|refine⟨kZ,?_⟩|refine ld ?_|fail)<;>conv=>whnf)
   have o1:=IS hs 0 rfl;refine MH hs 4 rfl rfl rfl (by simp[o1]) (by decide) fun σ hs=>?_
   clear o1
   conv=>whnf
   repeat'((first|apply st|(apply Y;clear Z B Y A)|(apply U;clear U K)|refine⟨kZ,?_⟩|refine ld ?_|fail)<;>conv=>whnf)
   obtain⟨σ2,g1,g2,g3⟩:=Ji hs 0 rfl;exact JC g1 (.t (.cons (.a (.cons (.refl _) (.cons (.refl _) (.cons (.refl _) (.cons (.refl _) (.cons (.refl _) (.cons g2 .nil))))))) (.cons (.refl _) .nil))) ⟨_,⟨rfl,M,rfl⟩,g3.less (.cons₂ _ (QV _))⟩
def oQ (g:FuncId) (fi ca:List V) (q:Ob->Bool):Prop:= ∀v,Pure Tryz.prog g (fi++[.a (eOb v)]++ca) (.b (q v))
def oQ.use {g:FuncId} {fi ca:List V} {q:Ob->Bool} (h:oQ g fi ca q) {v:Ob} {σ:AH} {k kp:V->AH->Prop} (hk:k (.b (q v)) σ):Ao Tryz.prog (.f (.func g) fi ca) [.a (eOb v)] σ (qk k kp):=BD ((h v).use hk)
end Go.Gl
namespace Go.Gl
open Go.Proofs
def lN {p:Prog} {l:List Int} (hok:Ed p) (h:Fa p l false=true):YQ p l:=by
 rw[Fa,A8,Dh,Cm]at h;obtain⟨h1,h2⟩:=h
 have hm: ∀x∈l,Bc p x=true/\(B1 p x).gen=(B1 p (l.getD 0 0)).gen:=fun x hx=>by
  have:=h1 x hx;simp only[jV,A8,Cr]at this;exact⟨this.1,this.2.1⟩
 refine⟨fun x hx=>(hm x hx).1,fun x hx y hy=>(hm x hx).2.trans (hm y hy).2.symm,h2,Nat.le_trans (O1 p.methods.length l h2 fun x hx=>?_) hok.many⟩;have:=(hm x hx).1;simp only[Bc,A8,Cm]at this;omega
def dX (x:Pl×Bool):Pl×Int:=if x.2 then(x.1,0)else(uf,5)
def SP (p:Prog) (l:List Int):Pl×Int:=if(Bf p).isSome&&Fa p l false then dX (Ko (Az p) p l)else(uf,2)
abbrev plE (x:Pl×Int) (g:Bool):V:= .t [.a (plV x.1 g (x.2 != 0)),eI x.2]
attribute [local irreducible] As Am Ac AQ AM Ab AP AR AL Aa AN AO Ao Ax Sat AW Au Ad W
def uJ (p:Prog) (l:List Int) (f:Bool) (hl:l.length<=1000):Pure Tryz.prog 133 [.a (Ba p),.l (iL l) f] (plE (SP p l) true):=by
 refine Pure.of ?_;have hr:=gg p;generalize hX:SP p l=X;rw[SP]at hX;refine tg kZ ?_;have hs:=Sn
 conv=>whnf
 repeat'((first|apply st|(apply sq;intro K U)|(apply si;intro A B Y Z)|(apply Y;clear Z B Y A)|(apply U;clear U K)|refine⟨kZ,?_⟩|(intro nn hnn;generalize hg:A6 _ nn _=σ;refine Ci hg fun hs=>?_;clear hg)|fail)<;>conv=>whnf)
 refine hr.use (rest:=_) hs ?_;clear hs;cases h:(Bf p).isSome
 .have c1:=lO l f false
  rw[h,Bool.false_and,if_neg (by decide)]at hX;subst hX;rintro r post σ ⟨rfl,rfl⟩ hs
  conv=>whnf
  repeat'((first|apply st|(apply sq;intro K U)|(apply si;intro A B Y Z)|(apply Y;clear Z B Y A)|(apply U;clear U K)|refine⟨kZ,?_⟩|refine ld ?_|refine Di fun σ hs=>?_|refine FX ?_|refine c1.use ?_|clear U K)<;>conv=>whnf)
  exact AK (by rfl)
 .rintro r post σ ⟨L,rfl,rfl⟩ hs
  have c1:=qa p L l f false hl;cases hb:Fa p l false<;>rw[hb]at c1 hX
  .rw[Bool.and_false,if_neg (by decide)]at hX
   subst hX
   conv=>whnf
   repeat'((first|apply st|(apply sq;intro K U)|(apply si;intro A B Y Z)|(apply Y;clear Z B Y A)|(apply U;clear U K)|refine⟨kZ,?_⟩|refine ld ?_|refine Di fun σ hs=>?_|refine FX ?_|refine c1.use ?_|clear U K)<;>conv=>whnf)
   exact AK (by rfl)
  .have c3:=pz p L l f h (lN (look_ok h) hb) []
   rw[h,Bool.and_self,if_pos rfl]at hX;generalize Ko (Az p) p l=x at *;obtain⟨x,b⟩:=x;cases b
   all_goals
    subst hX
    conv=>whnf
    repeat'((first|apply st|(apply sq;intro K U)|(apply si;intro A B Y Z)|(apply Y;clear Z B Y A)|(apply U;clear U K)|refine Es ?_|refine c1.use ?_|fail)<;>conv=>whnf)
    refine c3.use (rest:=_) hs ?_;clear hs;rintro r post σ ⟨rfl,M,rfl⟩ hs
    conv=>whnf
    repeat'((first|apply st|(apply sq;intro K U)|(apply si;intro A B Y Z)|(apply Y;clear Z B Y A)|(apply U;clear U K)|refine⟨kZ,?_⟩|refine ld ?_|refine Di fun σ hs=>?_|refine FX ?_|refine Es ?_|(intro nn hnn;generalize hg:A6 _ nn _=σ;refine Ci hg fun hs=>?_;clear hg)|clear U K)<;>conv=>whnf)
    exact AK (by rfl)
end Go.Gl
namespace Go.Gl
open Go.Proofs
structure Wid (w w':AJ) (ps:List Int):Prop where
 par:w'.parents=w.parents++[ps]
 own:w'.owner=w.owner++[3+(w.parents.length:Int)]
variable {w w':AJ} {ps:List Int}
def Wid.ol (h:Wid w w' ps):w'.owner.length=w.owner.length+1:=by rw[h.own];simp
def O8 {E E':List Bool->Bool} (h: ∀l,E l=true->E' l=true): ∀(k:Nat) (pre l:List Bool),l∈Gd E k pre->l∈Gd E' k pre
 | 0,pre,l,hm=>by
   rw[Gd]at hm;split at hm
   .rename_i he
    rw[Gd,if_pos (h _ he)];exact hm
   .cases hm
 | k + 1,pre,l,hm=>by
   rw[Gd]at hm;split at hm
   .rename_i he
    rw[Gd,if_pos (h _ he)];rcases Dr.1 hm with hm|hm
    .exact NU _ (O8 h k _ l hm)
    .exact M0 _ (O8 h k _ l hm)
   .cases hm
def Ee (ms:List Int) (bs:List Bool):List Int:=((ms.zip bs).filter fun x=>x.2).map fun x=>x.1
def de {w:AJ} (hw:Ju w): ∀l,(∀x∈l,C1 w x)->(Fg w l=true↔ ∃M,o0 w M/\ ∀x∈l,EU w M x):=fun l hl=>LG hw fun x hx=>E6 (hl x hx)
def df {w:AJ} (hw:Ju w) {cs:List Int} (hcs: ∀c∈cs,1<=c/\c<3+(w.parents.length:Int)): ∀l,(∀x∈l,C1 w x)->(R8 w cs l=true↔ ∃M,o5 w cs M/\ ∀x∈l,EU w M x):=fun l hl=>by
 rw[<-pX hw hcs fun x hx=>E6 (hl x hx)];exact Ow hw fun x hx=>E6 (hl x hx)
def qE {w:AJ} (hw:Ju w) {cs:List Int} {M:Int->H2} (h:o5 w cs M):o0 w M:=fun a=>eY hw _ (h a).1
def S5 {n:Int}: ∀c∈([]:List Int),1<=c/\c<n:=fun _ h=>by cases h
def tw {w:AJ} (hw:Ju w) {cs:List Int} (hcs: ∀c∈cs,1<=c/\c<3+(w.parents.length:Int)) {fs:List Fact} (hn: ∀f∈fs,BT w f=true) (bs:List Bool) (h:aD (R8 w cs) fs bs=true):aD (Fg w) fs bs=true:=by
 obtain⟨M,h1,h2⟩:=(Ld (df hw hcs) hn bs).1 h;exact(Ld (de hw) hn bs).2 ⟨M,qE hw h1,h2⟩
structure Gro (w w':AJ) (ps:List Int):Prop where
 par:w'.parents=w.parents++[ps]
 own:w'.owner=w.owner
section
variable {w w':AJ} {ps:List Int}
def Gro.Bh (h:Gro w w' ps) (s:Int):Bh w' s=Bh w s:=by rw[Gl.Bh,Gl.Bh,h.own]
end
end Go.Gl
namespace Go.Gl
open Go.Proofs
attribute [local irreducible] As Am Ac AQ AM Ab AP AR AL Aa AN AO Ao Ax Sat AW Au Ad W
def cu (p:Prog) (gen:Int) (k:Nat):List Int:=(Bd k).filter fun m=>(B1 p m).gen==gen
def Fw (p:Prog) (gen:Int):List Int:=cu p gen p.methods.length
def iP (p:Prog) (gen:Int) (k:Nat):cu p gen (k+1)=if(B1 p (k:Int)).gen==gen then cu p gen k++[(k:Int)]else cu p gen k:=by
 rw[cu,V0,List.filter_append];cases hp:(B1 p (k:Int)).gen==gen<;>simp[cu,hp]
def lx (p:Prog) (gen:Int) (k:Nat):(cu p gen k).length<=k:=by
 have:=Wb (fun m=>(B1 p m).gen==gen) (Bd k)
 rwa [PX]at this
def ZD (p:Prog) (gen:Int) (m:Int):(Fw p gen).contains m=(Bc p m&&(B1 p m).gen==gen):=by
 rw[Hf,List.contains_iff_mem,Fw,cu,Jc,Cp,A8,Bc];simp only[A8,Cm]
def lK {p:Prog} {k:Nat} {x:Ng} (hx:p.methods[k]? =some x):B1 p (k:Int)=x:=by
 have hlt:=(JX.1 hx).1;have:=C0 (p:=p) (m:=k) (by simp[Bc];omega);rw[Hd,hx]at this;exact(Option.some.inj this).symm
def dA (p:Prog) (gen:Int) (l:List Int) (i:Nat):Bool:=Bc p (l.getD i 0)&&((B1 p (l.getD i 0)).gen==gen&& !(decide (0<i)&&decide (l.getD (i - 1) 0≥l.getD i 0)))
def QE (p:Prog) (gen:Int) (l:List Int):Bool:=(List.range l.length).all (dA p gen l)
def kK {p:Prog} {gen:Int} {l:List Int} (h: ∀i,i<l.length->dA p gen l i=true):QE p gen l=true:=by
 rw[QE,Dh];exact fun i hi=>h i (List.mem_range.1 hi)
def Yk {p:Prog} {gen:Int} {l:List Int} (h:QE p gen l=true): ∀i (hi:i+1<l.length),l[i]<l[i+1]:=fun i hi=>by
 rw[QE,Dh]at h;have:=h (i+1) (List.mem_range.2 hi);simp only[dA,A8,Bool.not_eq_true',Bool.and_eq_false_iff,decide_eq_false_iff_not,Nat.add_sub_cancel,Ds,ES hi,ES (show i<l.length by omega),Option.getD_some]at this;omega
def U0 {p:Prog} {gen:Int} {l:List Int} (h:QE p gen l=true): ∀x∈l,Bc p x=true/\(B1 p x).gen=gen:=fun x hx=>by
 rw[QE,Dh]at h;obtain⟨i,hi,rfl⟩:=List.mem_iff_getElem.1 hx;have:=h i (List.mem_range.2 hi);simp only[dA,A8,Ds,ES hi,Option.getD_some,Cr]at this;exact⟨this.1,this.2.1⟩
def Qv {p:Prog} {gen:Int} {l:List Int} (h:QE p gen l=true):Fa p l false=true:=by
 have hm:=U0 h;rw[Fa,A8,Dh,Cm];refine⟨fun x hx=>?_,?_⟩
 .have h0:l.getD 0 0∈l:=by
   cases l with
   | nil=>cases hx
   | cons y r=>exact List.mem_cons_self ..
  rw[jV,(hm x hx).1,(hm x hx).2,(hm _ h0).2];simp
 .have hq: ∀(i d:Nat) (hd:i+d+1<l.length),l[i]<l[i+d+1]:=fun i d=>by
   induction d with
   | zero=>exact fun hd=>Yk h i hd
   | succ d ih=>exact fun hd=>Int.lt_trans (ih (by omega)) (Yk h (i+d+1) hd)
  have hp:List.Pairwise (· < ·) l:=List.pairwise_iff_getElem.2 fun i j hi hj hij=>by
   obtain⟨d,rfl⟩: ∃d,j=i+d+1:=⟨j - i - 1,by omega⟩
   exact hq i d hj
  exact hp.imp fun h e=>by omega
def gb {p:Prog} {gen:Int} {l:List Int} (h:QE p gen l=true):l.length<=p.methods.length:=by
 have h1:=Qv h;rw[Fa,A8,Cm]at h1;refine O1 p.methods.length l h1.2 fun x hx=>?_
 have:=(U0 h x hx).1;simp only[Bc,A8,Cm]at this;omega
def Fh (p:Prog) (gen:Int):Bool:=(Bf p).isSome&&jo p gen
def wy (x:Pl×Bool):Int:=if x.2 then(if x.1.ar.isEmpty&&(x.1.cd||x.1.pr.isEmpty)then 3 else if x.1.cd||x.1.prt then 2 else 1)else 4
def oW (p:Prog) (l:List Int):Int:=wy (Ko (Az p) p l)
end Go.Gl
namespace Go.Gl
open Go.Proofs
def MJ (p:Prog) (gen:Int):List Fact:=(Fw p gen).map fun m=>(B1 p m).fact
def FZ (p:Prog) (gen:Int) (tog:List Fact->Bool):List (List Int×Int):=(Gd (aD tog (MJ p gen)) (Fw p gen).length []).map fun bs=>(Ee (Fw p gen) bs,oW p (Ee (Fw p gen) bs))
end Go.Gl
namespace Go.Gl
open Go.Proofs
attribute [local irreducible] As Am Ac AQ AM Ab AP AR AL Aa AN AO Ao Ax Sat AW Au Ad W
def pY (ar:List Int) (cd:Bool) (be pr:List Int) (prt:Bool) (af:List Int):wy (⟨ar,cd,be,pr,prt,af⟩,true)=if decide (ar.length=0)&&(cd||decide (pr.length=0))then 3 else if cd||prt then 2 else 1:=by
 rw[wy,if_pos rfl];cases ar<;>cases pr<;>simp
end Go.Gl
namespace Go.Gl
open Go.Proofs
def V8 {ms:List Int} {bs:List Bool} {k:Nat} {m:Int} {b:Bool} (hm:ms[k]? =some m) (hb:bs[k]? =some b):Ee ms (bs.take (k+1))=Ee ms (bs.take k)++(if b then [m]else []):=by
 have hz : ms.zip (bs.take (k+1))=ms.zip (bs.take k)++[(m,b)]:=by
  have h1:(ms.zip bs)[k]? =some (m,b):=List.getElem?_zip_eq_some.2 ⟨hm,hb⟩
  have e: ∀(a:List Int) (c:List Bool) (j:Nat),a.zip (c.take j)=(a.zip c).take j:=fun a=>by
   induction a with
   | nil=>intro c j;simp
   | cons x r ih=>
     intro c j;cases j with
     | zero=>simp
     | succ j=>
       cases c with
       | nil=>simp
       | cons y q=>simp[ih q j]
  rw[e,e,List.take_add_one,h1];rfl
 rw[Ee,Ee,hz,List.filter_append,YF];cases b<;>rfl
def Xo (ms:List Int) (bs:List Bool):(Ee ms bs).length<=bs.length:=by
 rw[Ee,Bu];refine Nat.le_trans (Wb _ _) ?_;rw[List.length_zip];exact Nat.min_le_right _ _
def JO {E:List Bool->Bool}: ∀(k:Nat) (pre:List Bool),(Gd E k pre).length<=2 ^ k
 | 0,pre=>by
   rw[Gd];split<;>simp
 | k+1,pre=>by
   rw[Gd];have h1:=JO (E:=E) k (pre++[false]);have h2:=JO (E:=E) k (pre++[true]);split
   .rw[R0,Nat.pow_succ];omega
   .simp
attribute [local irreducible] As Am Ac AQ AM Ab AP AR AL Aa AN AO Ao Ax Sat AW Au Ad W
abbrev cY (x:List Int×Int):List V:=[.l (iL x.1) false,eI x.2]
def lu:FI cY 2:=fun x=>⟨rfl,fun v hv=>by
 rcases Fq.1 hv with rfl|hv
 .rfl
 .rw[My.1 hv];rfl⟩
end Go.Gl
namespace Go.Gl
open Go.Proofs
def ZF {σ σ2:AH} {v v':V} (h:Ff σ σ2 v v'): ∀fi ca:List V,C7 σ σ2 (fi++[v]++ca) (fi++[v']++ca)
 | [],ca=> .cons h (ZG ca)
 | x::r,ca=> .cons (.refl _) (ZF h r ca)
where ZG: ∀ca:List V,C7 σ σ2 ca ca
 | []=> .nil
 | x::r=> .cons (.refl _) (ZG r)
def wM {σ:AH} {sz:Nat} {es:List (List V)} {f:Bool} (he: ∀e∈es,e.length=sz) {K:V->AH->Prop} (hk:K (.l es true) σ):AP σ sz (.l es f) none (some (.i .i64 (es.length:Int))) (some (.i .i64 (es.length:Int))) K:=by
 refine⟨he,?_⟩;simp only[Nr];refine⟨Int.le_refl _,Int.natCast_nonneg _,Int.le_refl _,trivial,?_⟩;simpa using hk
attribute [local irreducible] As Am Ac AQ AM Ab AP AR AL Aa AN AO Ao Ax Sat AW Au Ad W
def wN (ls:List Fact) (b:Bool) (hl:ls.length<=1000000):Pure Tryz.prog 279 [.l (DY ls) b] (.l (DY ls) true):=by
 have hM:=Mx;refine sJ kZ ?_;have hs:=Sn
 conv=>whnf
 repeat'((first|apply st|(apply sq;intro K U)|(apply si;intro A B Y Z)|(apply Y;clear Z B Y A)|(apply U;clear U K)|fail)<;>conv=>whnf)
 refine wM (fun x hx=>by obtain⟨y,_,rfl⟩:=Iz.1 hx;rfl) ?_
 conv=>whnf
 repeat'((first|apply st|(apply Y;clear Z B Y A)|(apply U;clear U K)|fail)<;>conv=>whnf)
 all_goals exact AS rfl
def YZ (g:FuncId) (fi ca:List V) (H:List At) (kf:List Fact->Bool) (D:List Fact->Prop):Prop:= ∀l b,D l-> ∀σ,Sat σ H->As Tryz.prog g (fi++[Jx l b]++ca) σ fun r σ'=>r= .ret (.b (kf l))/\Sat σ' H
def gE (f:Fact):Prop:= ∀(c:Bool) (g:FuncId) (fi ca:List V) (H:List At) (kf:List Fact->Bool) (D:List Fact->Prop) (l:List Fact) (b:Bool),
 YZ g fi ca H kf D->(∀x∈CH f c,D (l++x))->l.length+lv f<=500000-> ∀σ,Sat σ H->As Tryz.prog 209 [.a (xF f),.b c,Jx l b,.f (.func g) fi ca] σ fun r σ'=>r= .ret (.b ((CH f c).any fun x=>kf (l++x)))/\Sat σ' H
def jD (A B:List (List Fact)) (kf:List Fact->Bool) (l:List Fact):((UR A B).any fun x=>kf (l++x))=A.any fun x=>B.any fun y=>kf (l++x++y):=by
 rw[Hf,He,He];constructor
 .rintro⟨z,hz,h⟩
  obtain⟨x,hx,y,hy,rfl⟩:=Ev.1 hz;exact⟨x,hx,He.2 ⟨y,hy,by rw[P7];exact h⟩⟩
 .rintro⟨x,hx,h⟩
  obtain⟨y,hy,h⟩:=He.1 h;exact⟨x++y,Ev.2 ⟨x,hx,y,hy,rfl⟩,by rw[<-P7];exact h⟩
def ku {f k0 k1:Fact} (hk:f.kids= [k0,k1]) (hc1:gE k1) {c:Bool} {g:FuncId} {fi ca:List V} {H:List At} {kf:List Fact->Bool} {D:List Fact->Prop} (hT:YZ g fi ca H kf D) :
    YZ 278 [] [.rp (xF f),.rp [.b c],.rp [.f (.func g) fi ca]] H (fun m=>(CH k1 c).any fun y=>kf (m++y)) (fun m=>(∀y∈CH k1 c,D (m++y))/\m.length+lv k1<=500000):=by
 rintro m b ⟨hd,hml⟩ σ hs;have h1:f.kids[(1:Int).toNat]? =some k1:=by rw[hk];rfl
 show As Tryz.prog 278 [Jx m b,.rp (xF f),.rp [.b c],.rp [.f (.func g) fi ca]] σ _;refine sK kZ ?_
 conv=>whnf
 repeat'((first|apply st|(apply sq;intro K U)|(apply si;intro A B Y Z)|(apply Y;clear Z B Y A)|(apply U;clear U K)|apply dr|refine⟨kZ,?_⟩|refine Kh ?_|fail)<;>conv=>whnf)
 refine As.mono (hc1 c g fi ca H kf D m b hT hd hml σ hs) ?_;clear hs;rintro r σ ⟨rfl,hs⟩
 conv=>whnf
 repeat'((first|apply st|(apply Y;clear Z B Y A)|(apply U;clear U K)|apply dr|fail)<;>conv=>whnf)
 exact AK ⟨rfl,hs⟩
set_option maxHeartbeats 2000000 in
def ir {w : AJ} (f:Fact):BT w f=true->lv f<=100->gE f:=by
 have hM:=Mx
 induction f using Fact.ind with
 | h f ih=>
   intro hn hv c g fi ca H kf D l b hT hd hll σ hs;have har:=By _ hn
   have hnk: ∀k∈f.kids,BT w k=true:=by
    rw[CS,A8,Dh]at hn;exact hn.2
   have hop:f.op=1\/f.op=5\/Cq f=true\/f.op=6\/f.op=7:=by
    rw[CS,A8]at hn;have h1:=hn.1;simp only[Dx,Zp,A8]at h1;rw[LS];simp only[A8,Cm];have h2:=h1.1;split at h2
    .omega
    .split at h2
     .omega
     .simp only[EJ,Cr]at h2
      omega
   refine s5 kZ ?_;have hcs:=JT f c;rw[OY]at hcs;rcases hop with h1|h5|hl|h67
   .rw[if_pos h1]at hcs
    rw[hcs]at hd ⊢;cases c
    .rw[if_neg (by decide)]at hd ⊢
     have h0:=hT l b (by simpa using hd [] (.head _)) σ hs
     conv=>whnf
     repeat'((first|apply st|(apply sq;intro K U)|(apply si;intro A B Y Z)|(apply Y;clear Z B Y A)|(apply U;clear U K)|refine⟨rfl,?_⟩|refine FX ?_|(constructor<;>intro hc<;>(try rw[hc])<;>(replace hc:=bp hc)<;>try(exfalso;omega))|fail)<;>conv=>whnf)
     all_goals try(exfalso;omega)
     refine BD (As.mono h0 ?_);clear hs h0;rintro r σ ⟨rfl,hs⟩
     conv=>whnf
     repeat'((first|apply st|(apply Y;clear Z B Y A)|(apply U;clear U K)|clear U K)<;>conv=>whnf)
     exact AK ⟨by simp,hs⟩
    .rw[if_pos rfl]at hd ⊢
     conv=>whnf
     repeat'((first|apply st|(apply sq;intro K U)|(apply si;intro A B Y Z)|(apply Y;clear Z B Y A)|(apply U;clear U K)|refine⟨rfl,?_⟩|refine Es ?_|(constructor<;>intro hc<;>(try rw[hc])<;>(replace hc:=bp hc)<;>try(exfalso;omega))|clear U K)<;>conv=>whnf)
     all_goals try(exfalso;omega)
     exact AK ⟨rfl,hs⟩
   .obtain⟨k,hk,-⟩:=FC har h5
    have hkm:k∈f.kids:=by rw[hk];exact .head _
    have hve:lv f=lv k:=by
     rw[Jh f,Zr,if_pos h5,hk];rfl
    have hvk:lv k<=100:=by omega
    rw[if_neg (by omega),if_pos h5,hk]at hcs;have hcs2:CH f c=CH k (!c):=hcs;have h0:f.kids[(0:Int).toNat]? =some k:=by rw[hk];rfl
    rw[hcs2]at hd ⊢
    conv=>whnf
    repeat'((first|apply st|(apply sq;intro K U)|(apply si;intro A B Y Z)|(apply Y;clear Z B Y A)|(apply U;clear U K)|apply dr|refine⟨rfl,?_⟩|refine⟨kZ,?_⟩|refine Kh ?_|(constructor<;>intro hc<;>(try rw[hc])<;>(replace hc:=bp hc)<;>try(exfalso;omega))|fail)<;>conv=>whnf)
    all_goals try(exfalso;omega)
    refine As.mono (ih k hkm (hnk k hkm) hvk (!c) g fi ca H kf D l b hT hd (by omega) σ hs) ?_;clear hs;rintro r σ ⟨rfl,hs⟩
    conv=>whnf
    repeat'((first|apply st|(apply Y;clear Z B Y A)|(apply U;clear U K)|apply dr|clear U K)<;>conv=>whnf)
    exact AK ⟨rfl,hs⟩
   .have hlo:=E8 hl
    rw[if_neg (by omega),if_neg (by omega),if_neg (by omega)]at hcs;have hcs2:CH f c= [[if c then Ea f else f]]:=by rw[hcs];cases c<;>rfl
    rw[hcs2]at hd ⊢;have c1:=wN l b (by omega);have hd2:=hd _ (.head _);have e:IL (if c then Ea f else f)=xF f++[.b c]:=Q9 hl c
    conv=>whnf
    repeat'((first|apply st|(apply sq;intro K U)|(apply si;intro A B Y Z)|(apply Y;clear Z B Y A)|(apply U;clear U K)|apply dr|refine rk ?_ ?_|exact fun s e=>by cases e;rfl|refine⟨rfl,?_⟩|refine⟨kZ,?_⟩|refine c1.use ?_|(constructor<;>intro hc<;>(try rw[hc])<;>(replace hc:=bp hc)<;>try(exfalso;omega))|fail)<;>conv=>whnf)
    all_goals try(exfalso;omega)
    have hrow:([xF f++[.b c]]:List (List V))= [if c then Ea f else f].map IL:=by rw[E4,List.map_nil,e]
    refine(?_:AM 88 σ 7 (.l (DY l) true) (.l [xF f++[.b c]] true) _);rw[hrow];refine OV (enc:=IL) (dg hs (es:=DY l) (sz:=7) (fun x hx=>by obtain⟨y,_,rfl⟩:=Iz.1 hx;rfl)) 0 (xs:=l) (ys:=[if c then Ea f else f]) rfl (b:=88) (by simp;omega) Sa (fun v σ hs=>?_)
    conv=>whnf
    repeat'((first|apply st|apply dr|refine rk ?_ ?_|exact fun s e=>by cases e;rfl|fail)<;>conv=>whnf)
    obtain⟨σ2,q1,q2,q3⟩:=Ji hs 0 rfl;refine BD (As.Qb (As.mono (hT (l++[if c then Ea f else f]) false hd2 σ2 q3) ?_) q1 (ZF q2 fi ca));clear hs q1 q2 q3;rintro r σ ⟨rfl,hs⟩
    conv=>whnf
    repeat'((first|apply st|(apply Y;clear Z B Y A)|(apply U;clear U K)|apply dr|fail)<;>conv=>whnf)
    exact AK ⟨by simp,hs⟩
   .obtain⟨k0,k1,hk,-,-⟩:=FB har h67
    have hkm0:k0∈f.kids:=by rw[hk];exact .head _
    have hkm1:k1∈f.kids:=by rw[hk];exact .tail _ (.head _)
    have hve:lv f=lv k0+lv k1:=by
     rw[Jh f,Zr,if_neg (by omega),if_pos h67,hk];rfl
    have hvk:lv k0+lv k1<=100:=by omega
    rw[if_neg (by omega),if_neg (by omega),if_pos h67,hk]at hcs;have h0:f.kids[(0:Int).toNat]? =some k0:=by rw[hk];rfl
    have h1:f.kids[(1:Int).toNat]? =some k1:=by rw[hk];rfl
    have i0:=ih k0 hkm0 (hnk k0 hkm0) (by omega);have i1:=ih k1 hkm1 (hnk k1 hkm1) (by omega);by_cases hap:(c != (f.op==7))=true
    .rw [if_pos hap]at hcs
     have hcs2:CH f c=CH k0 c++CH k1 c:=hcs;rw[hcs2]at hd ⊢;rw[List.any_append];have hd3:=fun x hx=>hd x (NU _ hx)
     have hd4:=fun x hx=>hd x (M0 _ hx)
     clear hcs hcs2 hd
     have h6b:(f.op==6)=c:=by
      rcases h67 with h6|h7
      .rw[h6]at hap ⊢;cases c<;>simp_all
      .rw[h7]at hap ⊢;cases c<;>simp_all
     rcases h67 with h6|h7
     all_goals
      cases c
      all_goals
       conv=>whnf
       repeat'((first|apply st|(apply sq;intro K U)|(apply si;intro A B Y Z)|(apply Y;clear Z B Y A)|(apply U;clear U K)|apply dr|refine⟨rfl,?_⟩|refine⟨kZ,?_⟩|refine Kh ?_|refine FX ?_|(rw[h6b])|(constructor<;>intro hc<;>(try rw[hc])<;>(replace hc:=bp hc)<;>try(exfalso;omega))|fail)<;>conv=>whnf)
       all_goals try(exfalso;simp_all;done)
       all_goals try(exfalso;omega)
     .refine As.mono (i0 true g fi ca H kf D l b hT hd3 (by omega) σ hs) ?_
      clear hs;rintro r σ ⟨rfl,hs⟩;generalize hB0:((CH k0 true).any fun x=>kf (l++x))=B0;cases B0
      .conv=>whnf
       repeat'((first|apply st|apply dr|refine⟨kZ,?_⟩|refine Kh ?_|fail)<;>conv=>whnf)
       refine As.mono (i1 true g fi ca H kf D l b hT hd4 (by omega) σ hs) ?_;clear hs;rintro r σ ⟨rfl,hs⟩
       conv=>whnf
       repeat'((first|apply st|(apply Y;clear Z B Y A)|(apply U;clear U K)|apply dr|clear U K)<;>conv=>whnf)
       exact AK ⟨by rw[hB0];rfl,hs⟩
      .conv=>whnf
       repeat'((first|apply st|(apply Y;clear Z B Y A)|(apply U;clear U K)|apply dr|clear U K)<;>conv=>whnf)
       exact AK ⟨by rw[hB0];rfl,hs⟩
     .refine As.mono (i0 false g fi ca H kf D l b hT hd3 (by omega) σ hs) ?_
      clear hs;rintro r σ ⟨rfl,hs⟩;generalize hB0:((CH k0 false).any fun x=>kf (l++x))=B0;cases B0
      .conv=>whnf
       repeat'((first|apply st|apply dr|refine⟨kZ,?_⟩|refine Kh ?_|fail)<;>conv=>whnf)
       refine As.mono (i1 false g fi ca H kf D l b hT hd4 (by omega) σ hs) ?_;clear hs;rintro r σ ⟨rfl,hs⟩
       conv=>whnf
       repeat'((first|apply st|(apply Y;clear Z B Y A)|(apply U;clear U K)|apply dr|clear U K)<;>conv=>whnf)
       exact AK ⟨by rw[hB0];rfl,hs⟩
      .conv=>whnf
       repeat'((first|apply st|(apply Y;clear Z B Y A)|(apply U;clear U K)|apply dr|clear U K)<;>conv=>whnf)
       exact AK ⟨by rw[hB0];rfl,hs⟩
    .rw [if_neg hap]at hcs
     have hcs2:CH f c=UR (CH k0 c) (CH k1 c):=hcs;rw[hcs2]at hd ⊢;rw[jD];have hlx:=Pw k0 (By _ (hnk k0 hkm0)) c;have hT2:=ku hk i1 (c:=c) hT;have hd5: ∀x∈CH k0 c,(∀y∈CH k1 c,D (l++x++y))/\(l++x).length+lv k1<=500000:=fun x hx=>⟨fun y hy=>by rw[P7];exact hd _ (Ev.2 ⟨x,hx,y,hy,rfl⟩),by have:=hlx x hx;rw[R0];omega⟩
     have h6b:(f.op==6)= !c:=by
      rcases h67 with h6|h7
      .rw[h6]at hap ⊢;cases c<;>simp_all
      .rw[h7]at hap ⊢;cases c<;>simp_all
     have hrun:=fun σ hs=>i0 c 278 [] [.rp (xF f),.rp [.b c],.rp [.f (.func g) fi ca]] H _ _ l b hT2 hd5 (by omega) σ hs
     clear hcs hcs2 hd hd5 hT2;generalize ((CH k0 c).any fun x=>(CH k1 c).any fun y=>kf (l++x++y))=B0 at *;rcases h67 with h6|h7
     all_goals
      cases c
      all_goals
       conv=>whnf
       repeat'((first|apply st|(apply sq;intro K U)|(apply si;intro A B Y Z)|(apply Y;clear Z B Y A)|(apply U;clear U K)|apply dr|refine⟨rfl,?_⟩|refine⟨kZ,?_⟩|refine Kh ?_|refine FX ?_|refine Es ?_|(rw[h6b])|(constructor<;>intro hc<;>(try rw[hc])<;>(replace hc:=bp hc)<;>try(exfalso;omega))|fail)<;>conv=>whnf)
       all_goals try(exfalso;simp_all;done)
       all_goals try(exfalso;omega)
     all_goals
      refine As.mono (hrun σ hs) ?_;clear hs;rintro r σ ⟨rfl,hs⟩
      conv=>whnf
      repeat'((first|apply st|(apply Y;clear Z B Y A)|(apply U;clear U K)|apply dr|clear U K)<;>conv=>whnf)
      exact AK ⟨rfl,hs⟩
end Go.Gl
namespace Go.Gl
open Go.Proofs
attribute [local irreducible] As Am Ac AQ AM Ab AP AR AL Aa AN AO Ao Ax Sat AW Au Ad W
end Go.Gl
