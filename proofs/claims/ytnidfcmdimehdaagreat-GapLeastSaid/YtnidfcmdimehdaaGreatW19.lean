import Derived.Test.YtnidfcmdimehdaaGreatW14
import Derived.Test.YtnidfcmdimehdaaGreatW15
import Derived.Test.YtnidfcmdimehdaaGreatW17
import Derived.Test.YtnidfcmdimehdaaGreatW18
set_option linter.all false
set_option linter.defProp false
set_option maxHeartbeats 8000000
noncomputable section
namespace Go.Gl
open Go.Proofs
attribute [local irreducible] Ao Ai AY AO AJ AX AN AP AI AW AK AL Ak Au Sat AT Ar Aa W
def jg (xs:List Int) (f:Bool):Pure zP 136 [.l (iL xs) f] (.l (iL xs) false):=by
 refine Pure.fit (by kernel_rfl) fun hf=>?_
 have hxl:=TJ hf.1;have hM:=Mx;refine gD kZ ?_;have hs:=Sn
 conv=>whnf
 repeat'((first|clear U K|apply st|(apply zk;intro K U)|fail)<;>conv=>whnf)
 refine⟨fun e t=>?_,fun _=>?_⟩
 .have hx:xs= []:=List.map_eq_nil_iff.1 e
  subst hx
  conv=>whnf
  repeat'((first|clear U K|apply st|(apply zk;intro K U)|refine za (fun hc=>?_) fun hc=>?_|fail)<;>conv=>whnf)
  .exact Br Tv
  .replace hs:=DN hs 1
   refine O5 hs 0 (xs:=[]) (ys:=[]) rfl (by simp) Dt fun v Z hs=>?_
   refine zz ?_;(repeat clear U K);repeat intro K U
   exact P0 hs 0 rfl rfl
 .refine zz ?_;(repeat clear U K);repeat intro K U
  replace hs:=DN hs 1;refine O5 hs 0 (xs:=[]) (ys:=xs) rfl (by simp;omega) Dt fun v Z hs=>?_
  refine zz ?_;(repeat clear U K);repeat intro K U
  exact P0 hs 0 rfl rfl
def qs (c:Qk):Pure zP 252 [.a (Qz c)] (.l (iL c.parents) false):=by
 refine sw kZ ?_;have hs:=Sn
 conv=>whnf
 repeat'((first|clear U K|apply st|(apply zk;intro K U)|refine Pure.use (jg _ _) ?_|fail)<;>conv=>whnf)
 exact AS rfl
def nr (xs:List (List Int)) (v:V) (hl:xs.length<=As):BK zP 295 [v] [.own v 1 (Jg xs)] fun r post=>r= .ret (.l (Jg xs) true)/\post= []:=by
 intro Z hs;have hg:=ED HK xs;refine sU kZ ?_;refine zz ?_;(repeat clear U K);repeat intro K U
 refine pC (i:=0) hs rfl hg.1 (by simpa using hl) fun Z hs=>?_
 refine zz ?_;(repeat clear U K);repeat intro K U
 exact A0 hs (List.Sublist.refl _) (.refl _) fun Z' hs'=>⟨_,⟨rfl,rfl⟩,hs'⟩
def PR (xs:List Int) (v:V) (hl:xs.length<=As):BK zP 262 [v] [.own v 1 (iL xs)] fun r post=>r= .ret (.l (iL xs) true)/\post= []:=by
 intro Z hs;have hg:=ED Dt xs;refine fo kZ ?_;refine zz ?_;(repeat clear U K);repeat intro K U
 refine pC (i:=0) hs rfl hg.1 (by simpa using hl) fun Z hs=>?_
 refine zz ?_;(repeat clear U K);repeat intro K U
 exact A0 hs (List.Sublist.refl _) (.refl _) fun Z' hs'=>⟨_,⟨rfl,rfl⟩,hs'⟩
def nR (cs:List Qk) (hl:cs.length<=1000000):Pure zP 251 [.l (cs.map Qz) false,.f (.func 252) [] []] (.l (Jg (cs.map (·.parents))) false):=by
 have hM:=Mx;refine sx kZ ?_;have hs:=Sn;refine zz ?_;(repeat clear U K);repeat intro K U
 refine Du cs.length (fun k v=>[(5,v),(10,eI (Bj k))]) (fun k v=>[.own v 1 (Jg ((cs.take k).map (·.parents)))]) (fun _ _=>True) (.l [] true) rfl trivial (DN hs 1) ?_;clear hs;rintro k v Z hk - hs;rcases BJ cs hk with⟨c,hc,hlt⟩|hke
 .conv=>whnf
  repeat'((first|clear U K|apply st|(apply zk;intro K U)|refine zY ?_|refine zs fun Z hs=>?_|refine zo fun nn hnn Z hs=>?_|fail)<;>conv=>whnf)
  refine Ay ((qs c).use ?_)
  conv=>whnf
  repeat'((first|clear U K|apply st|(apply zk;intro K U)|refine zY ?_|refine aq fun v Z hs hsl=>?_|fail)<;>conv=>whnf)
  exact⟨hlt,_,rfl,trivial,by rw[An hc,Yh];exact hs.less (NJ _ _)⟩
 .rw[CE hke]at hs
  refine zz ?_;(repeat clear U K);repeat intro K U
  refine(nr (cs.map (·.parents)) v (by simp;omega)).use (rest:=[]) hs ?_;clear hs;rintro r post Z ⟨rfl,rfl⟩ hs;refine zz ?_;(repeat clear U K);repeat intro K U
  exact Br eQ
def Ln (p:Prog) (hk0:p.AQ.length<=1000):Pure zP 204 [.a (Ba p)] (.l (Jg (A6 p)) false):=by
 refine Pure.fit (by kernel_rfl) fun hf=>?_
 have hP:=U4 hf.1;refine tT kZ ?_;have hs:=Sn;refine zz ?_;(repeat clear U K);repeat intro K U
 refine(nR p.AQ (by omega)).use ?_;exact zW
def VI (p:Prog) (hk0:p.AQ.length<=1000) (hm:CU p.AQ<=As):Pure zP 156 [.a (Ba p)] (.a (CR (AM p))):=by
 refine Pure.fit (by kernel_rfl) fun hf=>?_
 have hP:=U4 hf.1;have hcl:=hP.1;have hM:=Mx;refine tn kZ ?_;have hs:=Sn
 conv=>whnf
 repeat'((first|clear U K|apply st|(apply zk;intro K U)|refine zY ?_|refine zs fun Z hs=>?_|refine Pure.use (Ln _ hk0) ?_|refine zo fun nn hnn Z hs=>?_|fail)<;>conv=>whnf)
 rename_i n2 _ _ _ _ _
 rename Nat=>n3
 replace hs:Sat Z [.box n3 [.l (Jg (A6 p)) false,.l [] true],.box n2 [.l [] true,.l [] true]]:=hs;refine Du p.AQ.length (fun k (_:V)=>[(12,eI (Bj k))]) (fun k v=>[.own v 1 (iL (BN 0 (p.AQ.take k))),.box n3 [.l (Jg (A6 p)) false,v],.box n2 [.l [] true,.l [] true]]) (fun _ _=>True) (.l [] true) rfl trivial (DN hs 1) ?_;clear hs;rintro k v Z hk - hs;rcases BJ p.AQ hk with⟨c,hc,hlt⟩|hke
 .have hcm:=hP.2 c (Dn hc)
  have htk:=YD hc;have hck:Bj k=k:=Av (by omega)
  have hap:BN 0 (p.AQ.take (k+1))=BN 0 (p.AQ.take k)++List.replicate c.AF.length ((k:Int)+3):=by
   rw[An hc,OA];have:(p.AQ.take k).length=k:=by simp;omega
   rw[this];simp[BN]
  have hol:=DF 0 (p.AQ.take k);have hw3:IntKind.i64.wrap (Bj k+3)=(k:Int)+3:=by rw[hck,wrap64 (by omega) (by omega)]
  have hcs:=hcm.2.1;generalize BN 0 (p.AQ.take k)=os at *
  conv=>whnf
  repeat'((first|clear U K|apply st|(apply zk;intro K U)|refine zY ?_|refine zs fun Z hs=>?_|refine zo fun nn hnn Z hs=>?_|fail)<;>conv=>whnf)
  refine Du c.AF.length (fun j (_:V)=>[(20,eI (Bj j))]) (fun j v=>[.own v 1 (iL (os++List.replicate j ((k:Int)+3))),.box n3 [.l (Jg (A6 p)) false,v],.box n2 [.l [] true,.l [] true]]) (fun _ _=>True) v rfl trivial (by simpa using hs.less (NJ _ _)) ?_;clear hs;rintro j v Z hj - hs;rcases BJ c.AF hj with⟨s,hsl,hjlt⟩|hje
  .have hsv0:=IW hs 0 rfl
   conv=>whnf
   repeat'((first|clear U K|apply st|(apply zk;intro K U)|refine zY ?_|refine zs fun Z hs=>?_|refine aq fun v Z hs hsl=>?_|fail)<;>conv=>whnf)
   have hsv:=IW hs 0 rfl
   conv=>whnf
   refine⟨hjlt,v,rfl,trivial,?_⟩;rw[List.replicate_succ',<-Od];rw[hw3]at hs;exact hs
  .refine zz ?_;(repeat clear U K);repeat intro K U
   exact⟨hlt,v,rfl,trivial,by rw[hap,<-hje];exact hs⟩
 .rw[CE hke]at hs
  have hsv:=IW hs 0 rfl
  conv=>whnf
  repeat'((first|clear U K|apply st|(apply zk;intro K U)|refine zY ?_|refine zs fun Z hs=>?_|fail)<;>conv=>whnf)
  exact Br (.a (.cons (.refl _) (.cons (hs.He 0 rfl) .nil)))
def rU:Pure zP 285 [.i .u64 0] (eI 0):=by
 refine sb kZ ?_;have hs:=Sn
 conv=>whnf
 repeat'((first|clear U K|apply st|(apply zk;intro K U)|refine zY ?_|(refine zb (fun hc=>?_) (fun hc=>?_)<;>try exact⟨⟩)|fail)<;>conv=>whnf)
 refine⟨by decide,?_⟩;exact zW
def rV:Pure zP 237 [.i .u64 0] (eI 0):=by
 refine tD kZ ?_;have hs:=Sn
 conv=>whnf
 repeat'((first|clear U K|apply st|(apply zk;intro K U)|refine rU.use ?_|fail)<;>conv=>whnf)
 all_goals exact AS rfl
def ra:Pure zP 275 [.l [] true,eI 0,eI 0] (.t []):=by
 refine sc kZ ?_;have hs:=Sn;refine zz ?_;(repeat clear U K);repeat intro K U
 refine Ft (fun(_:Unit)=>0) (fun _=>[(6,eI 1)]) (fun _=>[]) (fun _=>True) () rfl trivial hs ?_;clear hs;rintro - Z - hs;exact zW
def qp:Pure zP 236 [.l [] true,eI 0,eI 0,eI 0] (.t []):=by
 refine tE kZ ?_;have hs:=Sn;refine zz ?_;(repeat clear U K);repeat intro K U
 refine Ft (fun(_:Unit)=>0) (fun _=>[]) (fun _=>[]) (fun _=>True) () rfl trivial hs ?_;clear hs;rintro - Z - hs
 conv=>whnf
 repeat'((first|clear U K|apply st|(apply zk;intro K U)|refine zY ?_|refine ra.use ?_|(refine zb (fun hc=>?_) (fun hc=>?_)<;>try exact⟨⟩)|fail)<;>conv=>whnf)
 all_goals exact AS rfl
def iG:Pure zP 190 [.l [] true] (.t []):=by
 refine tZ kZ ?_;have hs:=Sn
 conv=>whnf
 repeat'((first|clear U K|apply st|(apply zk;intro K U)|refine rV.use ?_|refine qp.use ?_|fail)<;>conv=>whnf)
 all_goals exact AS rfl
def dy {xs:List Int} {v:V} (hv:(CQ v).isSome=true\/(v= .l [] true/\xs= [])):BK zP 190 [v] [.own v 1 (iL xs)] fun r post=>r= .ret (.t [])/\post= [.own v 1 (iL (xs.mergeSort Gq))]:=by
 rcases hv with hv|⟨rfl,rfl⟩
 .obtain⟨n,l,c,rfl⟩:=wG hv
  exact lN xs n l c
 .intro Z hs
  have:=iG.use (Z:=Z) (k:=fun v Z'=>v= .t []/\Z'=Z) (kp:=fun _ _=>False) ⟨rfl,rfl⟩;refine Ao.mono this ?_;rintro(u|u) Z' hq
  .obtain⟨rfl,rfl⟩:=hq
   exact⟨_,⟨rfl,rfl⟩,by simpa using hs⟩
  .exact hq.elim
def Wo {b:Nat} {Z:AE} {sz:Nat} {v:V} {ys:List (List V)} {f:Bool} {K:V->AE->Prop} (h:AJ b Z sz v (.l ys f) fun v' Z'=>((CQ v').isSome=true\/(v'=v/\ys= []))->K v' Z'):AJ b Z sz v (.l ys f) K:=by
 unfold AJ at *;obtain⟨h1,h2,h3⟩:=h;refine⟨h1,h2,?_⟩;cases v with
 | l es full=>exact⟨h3.1,h3.2.1,fun e=>h3.2.2.1 e (.inr ⟨rfl,e⟩),fun e=>⟨(h3.2.2.2 e).1,fun n cap hn hc=>(h3.2.2.2 e).2 n cap hn hc (.inl rfl)⟩⟩
 | sl n len cap=>
   simp only at h3 ⊢;split at h3
   .exact⟨h3.1,h3.2.1,h3.2.2.1,h3.2.2.2.1,fun n' cap' hn hc=>h3.2.2.2.2 n' cap' hn hc (.inl rfl)⟩
   .exact h3.elim
 | _=>exact h3.elim
def Sj (M:List Int):List (V×V):=M.map fun k=>(eI k,.b true)
def Gu (M:List Int) (k:Int):List Int:=if M.contains k then M else M++[k]
def Pa (M:List Int) (k b:Int):(Gu M k).contains b=(M.contains b||b==k):=by
 unfold Gu;split
 .rename_i h
  by_cases hb:b=k
  .subst hb;simpa using h
  .have:(b==k)=false:=by simpa using hb
   rw[this,Bool.or_false]
 .simp[List.contains_append]
  rfl
def ZX (M:List Int) (k:Int):Cp (eI k) (.b true) (Sj M)=Sj (Gu M k):=by
 induction M with
 | nil=>rfl
 | cons x r ih=>
   simp only[Sj,Eg,Cp]at *;have he:C8 (eI k) (eI x)=(k==x):=rfl;rw[he];cases hx:k==x
   .rw[cond_false,ih]
    unfold Gu;have:(x::r).contains k=r.contains k:=by rw[List.contains_cons,hx,Bool.false_or]
    rw[this];split<;>simp
   .rw[cond_true]
    have hk:k=x:=by simpa using hx
    subst hk;unfold Gu;simp
def Lj (M:List Int) (k:Int):found (.b false) false (CA (eI k) (Sj M))= .b (M.contains k):=by
 induction M with
 | nil=>rfl
 | cons x r ih=>
   simp only[Sj,Eg,CA]at *;have he:C8 (eI k) (eI x)=(k==x):=rfl;rw[he,List.contains_cons];cases k==x
   .simpa using ih
   .rfl
def HI (M:List Int): ∀kv∈Sj M,BD (.i .i64) kv.1=true:=by
 intro kv h;obtain⟨e,_,rfl⟩:=H8.1 h;rfl
def lkK {Z:AE} {l:List At} {i mm:Nat} {M:List Int} {k:Int} {K:V->Prop} (hk:K (.b (M.contains k))) (h:Sat Z l:=by assumption)
    (hi:l[i]? =some (.map mm (Sj M)):=by first|exact Qq|exact Qp|exact Qo|exact Qn|exact Qm|exact Ql):AK Z (.i .i64) (.b false) false (.m mm) (eI k) K:=
 GO h i hi rfl (HI M) (by rw[Lj];exact hk)
def yE {Z:AE} {l:List At} {i mm:Nat} {M:List Int} {k:Int} {K:AE->Prop} (hk: ∀Z',Sat Z' (l.set i (.map mm (Sj (Gu M k))))->K Z') (h:Sat Z l:=by assumption)
    (hi:l[i]? =some (.map mm (Sj M)):=by first|exact Qq|exact Qp|exact Qo|exact Qn|exact Qm|exact Ql):AL Z (.i .i64) (.m mm) (eI k) (.b true) K:=
 GN h i hi rfl (HI M) (fun Z' hs=>hk Z' (by rw[ZX]at hs;exact hs))
def Ih (p:Prog) (c:Nat):Qk:=p.AQ.getD (c - 3) default
def Dk (p:Prog) (c:Nat):Nat->List Int
 | 0=>[]
 | k+1=>if GG (A6 p) c (c - k)then Dk p c k++(Ih p (c - k)).AF else Dk p c k
def qq {ps:List (List Int)} (ho:ordered ps) {n c:Nat} (hc:c<n) (k:Nat): ∀p∈par ps (c - k),0<=p/\p.toNat<(Ku ps n c k).length/\p.toNat<c - k:=fun p hp=>by
 have:=ho _ _ hp;rw[TW];omega
def VO {ps:List (List Int)} (ho:ordered ps) {n c:Nat} (hc:c<n) (k b:Nat):(Ku ps n c (k+1)).getD b false=((Ku ps n c k).getD b false||((Ku ps n c k).getD (c - k) false&&(par ps (c - k)).contains (b:Int))):=by
 rw[Ku,M4 _ _ (qq ho hc k)]
def VP {ps:List (List Int)} (ho:ordered ps) {n c:Nat} (hc:c<n) (k:Nat): ∀(m:Nat) (b:Nat),c - k<=b->(Ku ps n c (k+m)).getD b false=(Ku ps n c k).getD b false
 | 0,_,_=>rfl
 | m + 1,b,h=>by
   rw[<-Nat.add_assoc,VO ho hc,VP ho hc k m b h]
   have:(par ps (c - (k+m))).contains (b:Int)=false:=by
    cases hb:(par ps (c - (k+m))).contains (b:Int)
    .rfl
    .have:=ho _ _ (List.contains_iff_mem.1 hb)
     omega
   rw[this,Bool.and_false,Bool.or_false]
def ep {ps:List (List Int)} (ho:ordered ps) {n c:Nat} (hc:c<n) {k:Nat} (hk:k<=c - 2):(Ku ps n c k).getD (c - k) false=GG ps c (c - k):=by
 rw[<-lI ho hc (c - k),<-VP ho hc k (c - 2 - k) (c - k) (IN _)];congr 2;omega
def QR (b:Int): ∀(l M:List Int),(l.foldl Gu M).contains b=(M.contains b||l.contains b)
 | [],M=>by simp
 | x::r,M=>by
   rw[List.foldl_cons,QR b r,Pa,List.contains_cons,Bool.or_assoc]
def qD {Z:AE} {l:List At} {i mm:Nat} {M:List Int} {k:Int} {b:Bool} {K:V->Prop} (e:M.contains k=b) (hk:K (.b b)) (h:Sat Z l:=by assumption)
    (hi:l[i]? =some (.map mm (Sj M)):=by first|exact Qq|exact Qp|exact Qo|exact Qn|exact Qm|exact Ql):AK Z (.i .i64) (.b false) false (.m mm) (eI k) K:=lkK (e ▸ hk) h hi
def rh (p : Prog) (c:Nat) (h10:p.AQ.length<=10) (hsl:FQ 0 p.AQ=true) (hg:FE (A6 p)=true) (hc3:3<=c) (hc:c<3+p.AQ.length) :
    Pure zP 291 [.a (Ba p),eI c] (.l (iL ((Dk p c (c - 2)).mergeSort Gq)) false):=by
 refine Pure.fit (by kernel_rfl) fun hf=>?_
 have hP:=U4 hf.1;have hM:=Mx;have hG:=D8 hg;have ho:=JS hG;have hgl:(A6 p).length=p.AQ.length:=by simp[A6]
 refine sX kZ ?_;have hs:=Sn
 conv=>whnf
 repeat'((first|clear U K|apply st|(apply zk;intro K U)|refine zo fun nn hnn Z hs=>?_|fail)<;>conv=>whnf)
 replace hs:Sat Z [.map nn (Sj [])]:=hs
 conv=>whnf
 repeat'((first|clear U K|apply st|(apply zk;intro K U)|refine yE (fun Z hs=>?_)|fail)<;>conv=>whnf)
 generalize nn=mm at *;replace hs:Sat Z [.map mm (Sj [(c:Int)])]:=hs
 refine Du (c - 2) (fun k (x:List Int×V)=>[(6,x.2),(7,eI ((c:Int) - k))]) (fun k x=>[.own x.2 1 (iL (Dk p c k)),.map mm (Sj x.1)])
  (fun k x=>(∀b:Nat,b<3+(A6 p).length->x.1.contains (b:Int)=(Ku (A6 p) (3+(A6 p).length) c k).getD b false)/\((CQ x.2).isSome=true\/(x.2= .l [] true/\Dk p c k= []))/\(Dk p c k).length<=4*k) ([(c:Int)],.l [] true) ?_ ⟨?_,.inr ⟨rfl,rfl⟩,by simp[Dk]⟩ (DN hs 1) ?_
 .simp[Qu,get]
  exact⟨rfl,rfl,rfl⟩
 .intro b hb
  simp only[Ku];rw[EY (by simp;omega)];by_cases hbc:b=c
  .subst hbc;simp
  .rw[if_neg hbc]
   have:((c:Int)==(b:Int))=false:=by simp;omega
   simp[Dh,List.getElem?_replicate];split<;>simp<;>omega
 clear hs;rintro k ⟨M,v⟩ Z hk ⟨hMb,hv,hml⟩ hs;dsimp only at hMb hv hs;rcases Nat.lt_or_ge k (c - 2)with hlt|hge
 .have hkc:M.contains ((c:Int) - k)=GG (A6 p) c (c - k):=by
   have:=hMb (c - k) (by omega);rw[ep ho (by omega) (by omega)]at this;rw[<-this];congr 1;omega
  have hcl:p.AQ[(IntKind.i64.wrap ((c:Int) - k - 3)).toNat]? =some (Ih p (c - k)):=by
   rw[wrap64 (by omega) (by omega),show((c:Int) - k - 3).toNat=c - k - 3 by omega,Ih,Dh,Di (by omega)];rfl
  have hwi:0<=IntKind.i64.wrap ((c:Int) - k - 3):=by rw[wrap64 (by omega) (by omega)];omega
  have hw1:IntKind.i64.wrap ((c:Int) - k - 1)=(c:Int) - (k+1:Nat):=by rw[wrap64 (by omega) (by omega)];omega
  have hmt:Dk p c (k+1)=if GG (A6 p) c (c - k)then Dk p c k++(Ih p (c - k)).AF else Dk p c k:=rfl
  have hpar:(Ih p (c - k)).parents=par (A6 p) (c - k):=by
   unfold par Ih A6;rw[if_neg (by omega),Dh,Dh,Np,Di (by omega)];rfl
  have hcm:=hP.2 _ (Dn hcl);have hs4:=((HT _ _ hsl).2 _ (Dn hcl)).2;have hst:=fun b=>VO ho (show c<3+(A6 p).length by omega) k b
  rw[ep ho (by omega) (by omega),<-hpar]at hst;generalize Ih p (c - k)=cl at *;cases hb:GG (A6 p) c (c - k)
  .rw[hb]at hkc hmt hst
   rw[if_neg (by decide)]at hmt
   conv=>whnf
   repeat'((first|clear U K|apply st|(apply zk;intro K U)|refine zY ?_|refine qD hkc ?_|(refine zb (fun hc=>?_) (fun hc=>?_)<;>try exact⟨⟩)|fail)<;>conv=>whnf)
   all_goals try(exfalso;omega)
   rw[hw1];exact⟨hlt,(M,v),rfl,⟨fun b hb=>by rw[hMb b hb,hst b];simp,by rw[hmt];exact hv,by rw[hmt];omega⟩,by rw[hmt];exact hs⟩
  .rw [hb] at hkc hmt hst
   rw[if_pos rfl]at hmt
   conv=>whnf
   repeat'((first|clear U K|apply st|(apply zk;intro K U)|refine zY ?_|refine qD hkc ?_|(refine zb (fun hc=>?_) (fun hc=>?_)<;>try exact⟨⟩)|fail)<;>conv=>whnf)
   all_goals try(exfalso;omega)
   refine Wo (O5 hs 0 rfl (by omega) Dt fun v' Z hs hv'=>?_);rw[<-hmt]at hs;refine zz ?_;(repeat clear U K);repeat intro K U
   refine Du cl.parents.length (fun j (_:List Int)=>[(38,eI (Bj j))]) (fun _ M=>[.own v' 1 (iL (Dk p c (k+1))),.map mm (Sj M)]) (fun j M'=>M'=(cl.parents.take j).foldl Gu M) M rfl rfl hs ?_;clear hs;rintro j M' Z hj hM' hs;rcases BJ cl.parents hj with⟨q,hq,hjlt⟩|hje
   .conv=>whnf
    repeat'((first|clear U K|apply st|(apply zk;intro K U)|refine zY ?_|refine yE (fun Z hs=>?_)|fail)<;>conv=>whnf)
    exact⟨hjlt,_,rfl,by rw[An hq,List.foldl_append,<-hM'];rfl,hs⟩
   .rw [CE hje]at hM'
    refine zz ?_;(repeat clear U K);repeat intro K U
    rw[hw1];refine⟨hlt,(M',v'),rfl,⟨fun b hb=>?_,?_,?_⟩,hs⟩
    .rw[hM',QR,hMb b hb,hst b,Ed]
    .rcases hv' with hv'|⟨rfl,he⟩
     .exact .inl hv'
     .rcases hv with hv|⟨hv,hm0⟩
      .exact .inl hv
      .refine .inr ⟨hv,?_⟩
       rw[hmt,hm0,List.map_eq_nil_iff.1 he];rfl
    .rw[hmt,RG];omega
 .have hkk:k=c - 2:=by omega
  rw[hkk]at hs hv hml;clear hMb
  conv=>whnf
  repeat'((first|clear U K|apply st|(apply zk;intro K U)|refine zY ?_|(refine zb (fun hc=>?_) (fun hc=>?_)<;>try exact⟨⟩)|fail)<;>conv=>whnf)
  all_goals try(exfalso;omega)
  refine(dy hv).use (rest:=[_]) hs ?_;clear hs;rintro r post Z ⟨rfl,rfl⟩ hs
  conv=>whnf
  repeat'((first|clear U K|apply st|(apply zk;intro K U)|fail)<;>conv=>whnf)
  refine(PR _ v (by rw[List.length_mergeSort];omega)).use (rest:=[_]) hs ?_;clear hs;rintro r post Z ⟨rfl,rfl⟩ hs;refine zz ?_;(repeat clear U K);repeat intro K U
  exact Br eQ
def QH {p : Prog} {c:Nat} (s:Int): ∀k,s∈Dk p c k↔ ∃j,j<k/\GG (A6 p) c (c - j)=true/\s∈(Ih p (c - j)).AF
 | 0=>by simp[Dk]
 | k + 1 =>by
   rw[Dk];have ih:=QH (p:=p) (c:=c) s k;constructor
   .intro h
    split at h
    .rename_i hu
     rcases Dm.1 h with h|h
     .obtain⟨j,h1,h2⟩:=ih.1 h
      exact⟨j,by omega,h2⟩
     .exact⟨k,by omega,hu,h⟩
    .obtain⟨j,h1,h2⟩:=ih.1 h
     exact⟨j,by omega,h2⟩
   .rintro⟨j,h1,h2,h3⟩
    by_cases hj:j=k
    .subst hj
     rw[if_pos h2];exact Dm.2 (.inr h3)
    .have:=ih.2 ⟨j,by omega,h2,h3⟩
     split
     .exact Dm.2 (.inl this)
     .exact this
def VY: ∀(l:List Int) (n s:Int),Sr n l=true->(s∈l↔n<=s/\s<n+l.length)
 | [],n,s,_=>by simp<;>omega
 | x::r,n,s,h=>by
   simp only[Sr,A4,Cy]at h;obtain⟨rfl,h⟩:=h;have:=VY r (x+1) s h;rw[FR,this,Kt];omega
def Rw: ∀(cs:List Qk) (i:Nat) (n s:Int),FQ n cs=true->0<=n-> ∀(j:Nat) (c:Qk),cs[j]? =some c->(s∈c.AF↔n<=s/\s<n+(CU cs:Int)/\(BN i cs).getD (s - n).toNat 0=((i+j:Nat):Int)+3)
 | [],_,_,_,_,_,_,_,h=>by cases h
 | d ::r,i,n,s,h,h0,j,c,hj=>by
   simp only[FQ,A4,CT]at h;obtain⟨-,-,hq,hr⟩:=h;have hm:=VY d.AF n s hq;have hml:(CU (d::r):Int)=d.AF.length+CU r:=by simp[CU]
   have hgd:n<=s->(BN i (d::r)).getD (s - n).toNat 0=if s<n+d.AF.length then(i:Int)+3 else(BN (i+1) r).getD (s - (n+d.AF.length)).toNat 0:=fun hns=>by
    simp only[BN,Dh];split
    .rw[dN (by simp;omega),List.getElem?_replicate,if_pos (by omega)]
     rfl
    .rw[List.getElem?_append_right (by simp;omega)]
     congr 2;simp;omega
   have hout: ∀q,q∈BN (i+1) r->(3:Int)+((i+1:Nat):Int)<=q:=fun q hq=>(Ff hq).1
   cases j with
   | zero=>
     simp at hj;subst hj;rw[hm,hml];constructor
     .rintro⟨h1,h2⟩
      refine⟨h1,by omega,?_⟩;rw[hgd h1,if_pos h2];simp
     .rintro⟨h1,h2,h3⟩
      refine⟨h1,?_⟩;rw[hgd h1]at h3;by_cases hlt:s<n+d.AF.length
      .exact hlt
      .rw[if_neg hlt,Dh]at h3
       have hlen:(s - (n+d.AF.length)).toNat<(BN (i+1) r).length:=by rw[DF];omega
       rw[Di hlen]at h3;have:=hout _ (List.getElem_mem hlen);simp at h3;omega
   | succ j=>
     simp at hj;have ih:=Rw r (i+1) (n+d.AF.length) s hr (by omega) j c hj;rw[ih,hml];constructor
     .rintro⟨h1,h2,h3⟩
      refine⟨by omega,by omega,?_⟩;rw[hgd (by omega),if_neg (by omega),h3];omega
     .rintro⟨h1,h2,h3⟩
      rw[hgd h1]at h3;by_cases hlt:s<n+d.AF.length
      .rw[if_pos hlt]at h3;omega
      .rw[if_neg hlt]at h3
       exact⟨by omega,by omega,by rw[h3];omega⟩
def iw {p:Prog} {c:Nat} (hsl:FQ 0 p.AQ=true) (ho:ordered (A6 p)) (hc3:3<=c) (hc:c<3+p.AQ.length) (s:Int) :
    ((Dk p c (c - 2)).mergeSort Gq).contains s=(decide (0<=s)&&(decide (s<(CU p.AQ:Int))&&hasB (AM p) (c:Int) s)):=by
 rw[Gr,List.contains_iff_mem,(List.mergeSort_perm _ Gq).mem_iff,QH];simp only[A4,CT,hasB]
 have hown: ∀j,j<c - 2->(s∈(Ih p (c - j)).AF↔0<=s/\s<(CU p.AQ:Int)/\B2 (AM p) s=((c - j:Nat):Int)):=fun j hj=>by
  have hcl:p.AQ[c - j - 3]? =some (Ih p (c - j)):=by
   rw[Ih,Dh,Di (by omega)];rfl
  have:=Rw p.AQ 0 0 s hsl (by omega) (c - j - 3) _ hcl;rw[this];simp only[Int.sub_zero,Int.zero_add,B2,AM];constructor
  .rintro⟨h1,h2,h3⟩;exact⟨h1,h2,by rw[h3];omega⟩
  .rintro⟨h1,h2,h3⟩;exact⟨h1,h2,by rw[h3];omega⟩
 constructor
 .rintro⟨j,h1,h2,h3⟩
  obtain⟨h4,h5,h6⟩:=(hown j h1).1 h3;refine⟨h4,h5,by omega,?_⟩;rw[h6];simp only[Un,Ek,A4,CT];exact .inr (.inr ⟨by omega,by simpa[AM]using h2⟩)
 .rintro⟨h1,h2,h3,h4⟩
  have hmem:B2 (AM p) s∈BN 0 p.AQ:=by
   have hlen:s.toNat<(BN 0 p.AQ).length:=by rw[DF];omega
   have:B2 (AM p) s=(BN 0 p.AQ)[s.toNat]:=by
    simp only[B2,AM,Dh,Di hlen];rfl
   rw[this];exact List.getElem_mem hlen
  have hb:=Ff hmem
  have hup:GG (A6 p) c (B2 (AM p) s).toNat=true:=by
   simp only[Un,Ek,A4,CT,Cy]at h4;rcases h4 with h4|h4|⟨_,h4⟩
   .rw[<-h4,Hc];exact FH ho c
   .omega
   .simpa[AM]using h4
  have hle:=er ho _ _ hup;refine⟨c - (B2 (AM p) s).toNat,by omega,?_,?_⟩
  .rw[show c - (c - (B2 (AM p) s).toNat)=(B2 (AM p) s).toNat by omega]
   exact hup
  .refine(hown _ (by omega)).2 ⟨h1,h2,by omega⟩
def iv {Z:AE}:Ao zP 245 [.b false] Z fun r Z'=>r= .BV DX/\Z'=Z:=by
 refine fp kZ ?_;refine zz ?_;(repeat clear U K);repeat intro K U
 exact C2 ⟨rfl,rfl⟩
def Ca {x:Bool} {Z:AE} {k kp:V->AE->Prop} (h1:x=true->k (.t []) Z) (h2:x=false->kp DX Z):Ao zP 245 [.b x] Z (qk k kp):=by
 cases x
 .refine Ao.mono iv ?_
  rintro r Z' ⟨rfl,rfl⟩;exact h2 rfl
 .exact iu.use (h1 rfl)
def FP:Int->List Qk->Bool
 | _,[]=>true
 | n,c::r=>decide (c.AF.length<=4)&&(Sr n c.AF&&FP (n+c.AF.length) r)
def PZ: ∀(cs:List Qk) (n:Int),FQ n cs=(FP n cs&&cs.all fun c=>decide (c.parents.length<=3))
 | [],_=>rfl
 | c::r,n=>by
   simp only[FQ,FP,W5];rw[PZ r];cases decide (c.AF.length<=4)<;>cases decide (c.parents.length<=3)<;>cases Sr n c.AF<;>simp
def Rk: ∀(cs:List Qk) (n:Int),FP n cs=true->CU cs<=4*cs.length
 | [],_,_=>IN _
 | c::r,n,h=>by
   simp only[FP,A4,CT]at h;have:=Rk r _ h.2.2;simp only[CU,Eg,List.sum_cons,Kt]at *;omega
def Vs {p:Prog} (h:FE (A6 p)=true):(p.AQ.all fun c=>decide (c.parents.length<=3))=true:=by
 rw[DR];intro c hc;obtain⟨i,hi⟩:=List.getElem?_of_mem hc;have:=(D8 h).2 i c.parents (by rw[A6,Np,hi];rfl);exact decide_eq_true this.1
def QY (p:Prog):CH p=(decide (p.AQ.length<=10)&&(FP 0 p.AQ&&((CU p.AQ:Int)==p.AF&&(FE (A6 p)&&O7 (AM p) (CU p.AQ) 0 p.AQ)))):=by
 rw[CH,PZ];cases hg:FE (A6 p)
 .simp
 .rw[Vs hg,Bool.and_true]
abbrev vj (p:Prog):R->AE->Prop:=fun r Z'=> ∃post:List At,(r=(if CH p then R.ret (.t [])else R.BV DX)/\post= [])/\Sat Z' post
def XO {p:Prog} {Z:AE} (h:CH p=false):AY Z DX (vj p):=C2 ⟨_,⟨by rw[h];rfl,rfl⟩,Sat.nil⟩
def clsT {p:Prog} {Z:AE} {l:List At} (hs:Sat Z l) (h:CH p=true):Ai Z (.t []) (vj p):=A0 hs (RF _) (.refl _) fun Z' hs'=>⟨_,⟨by rw[h];rfl,rfl⟩,hs'⟩
def Ye (p : Prog):BK zP 244 [.a (Ba p)] [] fun r post=>r=(if CH p then R.ret (.t [])else R.BV DX)/\post= []:=by
 intro Z hs;refine Ao.fit (by kernel_rfl) fun hf=>?_
 have hP:=U4 hf.1;have hcl:=hP.1;have hM:=Mx;refine s9 kZ ?_;have hcb:=QY p;by_cases h10:p.AQ.length<=10
 rotate_left
 .conv=>whnf
  repeat'((first|clear U K|apply st|(apply zk;intro K U)|refine zY ?_|(refine Ca (fun hc=>?_) (fun hc=>?_)<;>(replace hc:=bp hc)<;>(try simp(disch:=omega) only[C4,wrap64,Av]at hc)<;>(try(exfalso;omega)))|fail)<;>conv=>whnf)
  all_goals try(exfalso;omega)
  exact XO (by rw[hcb];simp[h10])
 rw[decide_eq_true h10,Ed]at hcb
 conv=>whnf
 repeat'((first|clear U K|apply st|(apply zk;intro K U)|refine zY ?_|(refine Ca (fun hc=>?_) (fun hc=>?_)<;>(replace hc:=bp hc)<;>(try simp(disch:=omega) only[C4,wrap64,Av]at hc)<;>(try(exfalso;omega)))|fail)<;>conv=>whnf)
 all_goals try(exfalso;omega)
 refine Du p.AQ.length (fun k (n:Int)=>[(2,eI n),(24,eI (Bj k))]) (fun _ _=>[]) (fun k n=>FP 0 p.AQ=FP n (p.AQ.drop k)/\0<=n/\n+CU (p.AQ.drop k)=CU p.AQ/\n<=4*k) 0 rfl (by simp) hs ?_;clear hs;rintro k n Z hk ⟨hn,hn0,hn1,hn2⟩ hs;rcases BJ p.AQ hk with⟨c,hc,hlt⟩|hke
 .have hcm:=(hP.2 c (Dn hc)).2.1
  have hms:n+(c.AF.length:Int)+CU (p.AQ.drop (k+1))=CU p.AQ:=by
   rw[drop_cons hc]at hn1;simp only[CU,Eg,List.sum_cons]at hn1 ⊢;omega
  rw[drop_cons hc,FP]at hn;by_cases h4:c.AF.length<=4
  .rw [decide_eq_true h4,Ed]at hn
   conv=>whnf
   repeat'((first|clear U K|apply st|(apply zk;intro K U)|refine zY ?_|refine zs fun Z hs=>?_|(refine Ca (fun hc=>?_) (fun hc=>?_)<;>(replace hc:=bp hc)<;>(try simp(disch:=omega) only[C4,wrap64,Av]at hc)<;>(try(exfalso;omega)))|refine zo fun nn hnn Z hs=>?_|fail)<;>conv=>whnf)
   all_goals try(exfalso;omega)
   refine Du c.AF.length (fun j (m:Int)=>[(2,eI m),(36,eI (Bj j))]) (fun _ _=>[]) (fun j m=>FP 0 p.AQ=(Sr m (c.AF.drop j)&&FP (n+c.AF.length) (p.AQ.drop (k+1)))/\m=n+j) n rfl ⟨hn,by simp⟩ (hs.take 0) ?_;clear hs hn;rintro j m Z hj ⟨hm,he⟩ hs;rcases BJ c.AF hj with⟨x,hx,hjlt⟩|hje
   .rw[drop_cons hx,Sr]at hm
    conv=>whnf
    repeat'((first|clear U K|apply st|(apply zk;intro K U)|refine zY ?_|(refine Ca (fun hc=>?_) (fun hc=>?_)<;>(replace hc:=bp hc))|fail)<;>conv=>whnf)
    .rw[wrap64 (by omega) (by omega)]
     rw[hc,beq_self_eq_true,Ed]at hm;exact⟨hjlt,_,rfl,⟨by rw[<-hc];rw[<-hc]at hm;exact hm,by omega⟩,hs⟩
    .exact XO (by rw[hcb,hm];simp[hc])
   .rw[BS hje,Sr,Ed]at hm
    refine zz ?_;(repeat clear U K);repeat intro K U
    exact⟨hlt,m,rfl,⟨by rw[hm];congr 1;omega,by omega,by omega,by omega⟩,hs⟩
  .conv=>whnf
   repeat'((first|clear U K|apply st|(apply zk;intro K U)|refine zY ?_|refine zs fun Z hs=>?_|(refine Ca (fun hc=>?_) (fun hc=>?_)<;>(replace hc:=bp hc)<;>(try simp(disch:=omega) only[C4,wrap64,Av]at hc)<;>(try(exfalso;omega)))|refine zo fun nn hnn Z hs=>?_|fail)<;>conv=>whnf)
   all_goals try(exfalso;omega)
   exact XO (by rw[hcb,hn];simp[h4])
 .have hne:n=CU p.AQ:=by rw[BS hke]at hn1;simpa[CU]using hn1
  rw[BS hke]at hn;have hsp:FP 0 p.AQ=true:=hn;have hml:=Rk _ _ hsp;rw[hsp,Ed,<-hne]at hcb;cases hgd:FE (A6 p)
  .rw[hgd]at hcb
   have hck:=WA (A6 p) false;rw[hgd,if_neg (by decide)]at hck;have hcF:CH p=false:=by rw[hcb];simp
   conv=>whnf
   repeat'((first|clear U K|apply st|(apply zk;intro K U)|refine zY ?_|(refine Ca (fun hc=>?_) (fun hc=>?_)<;>(replace hc:=bp hc)<;>(try simp(disch:=omega) only[C4,wrap64,Av]at hc)<;>(try(exfalso;omega))<;>(try(cases hc;done)))|refine Pure.use (Ln _ (by omega)) ?_|refine Pure.use (by assumption) ?_|refine za (fun hc=>?_) fun hc=>?_|fail)<;>conv=>whnf)
   all_goals exact XO hcF
  .have hck:=WA (A6 p) false
   rw[hgd,if_pos rfl]at hck;rw[hgd,Ed]at hcb;by_cases hps:n=p.AF
   .rw [hps,beq_self_eq_true,Ed,<-hps]at hcb
    have hslB:FQ 0 p.AQ=true:=by rw[PZ,hsp,Vs hgd];rfl
    have hG:=D8 hgd;have ho:=JS hG;have hgl:(A6 p).length=p.AQ.length:=by simp[A6]
    conv=>whnf
    repeat'((first|clear U K|apply st|(apply zk;intro K U)|refine zY ?_|(refine Ca (fun hc=>?_) (fun hc=>?_)<;>(replace hc:=bp hc)<;>(try simp(disch:=omega) only[C4,wrap64,Av]at hc)<;>(try(exfalso;omega)))|refine Pure.use (Ln _ (by omega)) ?_|refine Pure.use (by assumption) ?_|(refine zb (fun hc=>?_) (fun hc=>?_)<;>try exact⟨⟩)|fail)<;>conv=>whnf)
    refine Du p.AQ.length (fun k (_:Unit)=>[(63,eI (Bj k))]) (fun _ _=>[]) (fun k _=>CH p=O7 (AM p) n k (p.AQ.drop k)) () rfl hcb hs ?_;clear hs;rintro i - Z hi hn' hs;rcases BJ p.AQ hi with⟨c,hc,hilt⟩|hie
    .rw [drop_cons hc,O7]at hn'
     have hci:Bj i=i:=Av (by omega);have hw3:IntKind.i64.wrap (Bj i+3)=(i:Int)+3:=by rw[hci,wrap64 (by omega) (by omega)]
     have hlin:=rS (A6 p) false ((i:Int)+3) hgd (by omega) (by omega);have hinl:=(hP.2 c (Dn hc)).2.2;have hlb:vU (AM p).parents ((i:Int)+3)= !((DY (A6 p)).getD ((i:Int)+3).toNat []).isEmpty:=rfl;cases hem:((DY (A6 p)).getD ((i:Int)+3).toNat []).isEmpty
     .rw [hem]at hlb
      rw[hlb,Bool.not_false,Ed]at hn';rw[hem,if_neg (by decide),<-hw3]at hlin;have hhas:=rh p (i+3) h10 hslB hgd (by omega) (by omega);have hmh:=iw hslB ho (show 3<=i+3 by omega) (show i+3<3+p.AQ.length by omega);have ei3:((i+3:Nat):Int)=(i:Int)+3:=by omega
      rw[ei3,<-hw3]at hhas;rw[ei3]at hmh;generalize (Dk p (i+3) (i+3 - 2)).mergeSort Gq=mine at *
      conv=>whnf
      repeat'((first|clear U K|apply st|(apply zk;intro K U)|refine zY ?_|refine zs fun Z hs=>?_|(refine Ca (fun hc=>?_) (fun hc=>?_)<;>(replace hc:=bp hc)<;>(try simp(disch:=omega) only[C4,wrap64,Av]at hc)<;>(try(exfalso;omega)))|refine Pure.use (by assumption) ?_|refine zo fun nn hnn Z hs=>?_|fail)<;>conv=>whnf)
      generalize nn=mm at *;replace hs:Sat Z [.map mm (Sj [])]:=hs.take 1;refine Du c.inits.length (fun j (_:List Int)=>[(86,eI (Bj j))]) (fun _ M=>[.map mm (Sj M)]) (fun j M=>CH p=(MX (AM p) ((i:Int)+3) n (c.inits.take j) (c.inits.drop j)&&O7 (AM p) n (i+1) (p.AQ.drop (i+1)))/\ ∀s,M.contains s=(c.inits.take j).any fun y=>y.1==s) [] rfl ⟨hn',fun s=>rfl⟩ hs ?_;clear hs;rintro j M Z hj ⟨hm,hMs⟩ hs;rcases BJ c.inits hj with⟨x,hx,hjlt⟩|hje
      .have hpa:((c.inits.take j).all fun y=>y.1 != x.1)= !M.contains x.1:=by
        rw[hMs,List.all_eq_not_any_not];congr 2;funext y;simp[bne]
       have hst:CH p=((mine.contains x.1&&(!M.contains x.1&&XQ x.2))&&(MX (AM p) ((i:Int)+3) n (c.inits.take (j+1)) (c.inits.drop (j+1))&&O7 (AM p) n (i+1) (p.AQ.drop (i+1)))):=by
        rw[hm,drop_cons hx,MX,hpa,hmh,<-hne,An hx];cases decide (0<=x.1)<;>cases decide (x.1<n)<;>cases hasB (AM p) ((i:Int)+3) x.1<;>cases XQ x.2<;>cases M.contains x.1<;>simp
       have hMs': ∀s,(Gu M x.1).contains s=(c.inits.take (j+1)).any fun y=>y.1==s:=fun s=>by
        rw[Pa,hMs,An hx,List.any_append];simp only[Qj,List.any_nil,Bool.or_false];congr 1;rw[Gr];simp;exact eq_comm
       have hct:=Ce mine false x.1;have hbt:=Qd x.2;clear hmh hpa hMs hm;cases eA:mine.contains x.1<;>cases eB:M.contains x.1<;>cases eD:XQ x.2<;>rw[eA]at hct<;>rw[eD]at hbt<;>rw[eA,eB,eD]at hst
       all_goals
        conv=>whnf
        repeat'((first|clear U K|apply st|(apply zk;intro K U)|refine zY ?_|refine zs fun Z hs=>?_|(refine Ca (fun hc=>?_) (fun hc=>?_)<;>(replace hc:=bp hc)<;>(try simp(disch:=omega) only[C4,wrap64,Av]at hc)<;>(try(cases hc;done)))|refine qD eB ?_|refine yE (fun Z hs=>?_)|refine Pure.use (by assumption) ?_|refine zo fun nn hnn Z hs=>?_|fail)<;>conv=>whnf)
       all_goals first
        | exact⟨hjlt,_,rfl,⟨hst,hMs'⟩,hs.less (NJ _ _)⟩
        | exact XO (by rw[hst];rfl)
      .rw[BS hje,MX,Ed]at hm
       refine zz ?_;(repeat clear U K);repeat intro K U
       exact⟨hilt,(),rfl,hm,hs.take 0⟩
     .rw[hem]at hlb
      rw[hem,if_pos rfl,<-hw3]at hlin;have hcF:CH p=false:=by rw[hn',hlb];rfl
      conv=>whnf
      repeat'((first|clear U K|apply st|(apply zk;intro K U)|refine zY ?_|refine zs fun Z hs=>?_|(refine Ca (fun hc=>?_) (fun hc=>?_)<;>(replace hc:=bp hc)<;>(try(exfalso;omega)))|refine Pure.use (by assumption) ?_|refine zo fun nn hnn Z hs=>?_|fail)<;>conv=>whnf)
      all_goals exact XO hcF
    .refine zz ?_;(repeat clear U K);repeat intro K U
     exact clsT hs (by rw[hn',BS hie];rfl)
   .have hcF:CH p=false:=by rw[hcb];simp[hps]
    conv=>whnf
    repeat'((first|clear U K|apply st|(apply zk;intro K U)|refine zY ?_|(refine Ca (fun hc=>?_) (fun hc=>?_)<;>(replace hc:=bp hc)<;>(try simp(disch:=omega) only[C4,wrap64,Av]at hc)<;>(try(cases hc;done)))|refine Pure.use (Ln _ (by omega)) ?_|(refine zb (fun hc=>?_) (fun hc=>?_)<;>try exact⟨⟩)|fail)<;>conv=>whnf)
    all_goals exact XO hcF
def bC (f : Fact):VF f=true->Pure zP 250 [.a (xF f)] (eI (Il f)):=by
 induction f using Fact.ind with
 | h f ih=>
   intro ha;refine Pure.fit (by kernel_rfl) fun hf=>?_
   have⟨h2,h3,h4⟩:=o5 hf.1;have hM:=Mx;rw[WH]at ha;simp only[A4,CT,List.all_map,DR]at ha;refine sy kZ ?_;have hs:=Sn;by_cases hlf:Cm f=true
   .have hlo:=E3 hlf
    have hw:IntKind.i64.wrap (f.arg+1)=f.arg+1:=wrap64 (by omega) (by omega)
    conv=>whnf
    repeat'((first|clear U K|apply st|(apply zk;intro K U)|refine zY ?_|(refine zb (fun hc=>?_) (fun hc=>?_)<;>try exact⟨⟩)|fail)<;>conv=>whnf)
    all_goals try(exfalso;omega)
    all_goals
     refine Du f.kids.length (fun k (_:Unit)=>[(3,eI (((f.kids.take k).map Il).foldl UZ (if Cm f then f.arg+1 else 0))),(25,eI (Bj k))]) (fun _ _=>[]) (fun _ _=>True) () (by rw[hw,if_pos hlf];rfl) trivial hs ?_;clear hs;rintro k - Z hk - hs;rcases BJ f.kids hk with⟨x,hx,hlt⟩|hke
     .have hxs:=ih x (Dn hx) (ha.2 x (Dn hx))
      conv=>whnf
      repeat'((first|clear U K|apply st|(apply zk;intro K U)|refine zY ?_|refine zs fun Z hs=>?_|refine zC ?_|refine zo fun nn hnn Z hs=>?_|fail)<;>conv=>whnf)
      exact⟨hlt,(),by rw[P4 _ _ _ hx];rfl,trivial,hs.take 0⟩
     .refine zz ?_;(repeat clear U K);repeat intro K U
      exact AS (by rw[CE hke,<-Rh])
   .have hlo:f.op≠2/\f.op≠3/\f.op≠4:=by
     simp only[Cm,Ek,Cy]at hlf;omega
    conv=>whnf
    repeat'((first|clear U K|apply st|(apply zk;intro K U)|refine zY ?_|(refine zb (fun hc=>?_) (fun hc=>?_)<;>try exact⟨⟩)|fail)<;>conv=>whnf)
    all_goals try(exfalso;omega)
    all_goals
     refine Du f.kids.length (fun k (_:Unit)=>[(3,eI (((f.kids.take k).map Il).foldl UZ (if Cm f then f.arg+1 else 0))),(25,eI (Bj k))]) (fun _ _=>[]) (fun _ _=>True) () (by rw[if_neg hlf];rfl) trivial hs ?_;clear hs;rintro k - Z hk - hs;rcases BJ f.kids hk with⟨x,hx,hlt⟩|hke
     .have hxs:=ih x (Dn hx) (ha.2 x (Dn hx))
      conv=>whnf
      repeat'((first|clear U K|apply st|(apply zk;intro K U)|refine zY ?_|refine zs fun Z hs=>?_|refine zC ?_|refine zo fun nn hnn Z hs=>?_|fail)<;>conv=>whnf)
      exact⟨hlt,(),by rw[P4 _ _ _ hx];rfl,trivial,hs.take 0⟩
     .refine zz ?_;(repeat clear U K);repeat intro K U
      exact AS (by rw[CE hke,<-Rh])
def bW (p:Prog) (x:Node) (size:Int):Pure zP 248 [.a (Ba p),.a (NT x),eI size] (.b (Su p x size)):=by
 refine Pure.fit (by kernel_rfl) fun hf=>?_
 have⟨p1,p2,p3,p4⟩:=O6 hf.1;have hM:=Mx;have hw:IntKind.i64.wrap (3+((p.AQ.map Qz).length:Nat))=3+(p.AQ.length:Int):=by rw[C4,wrap64 (by omega) (by omega)]
 refine s6 kZ ?_;have hs:=Sn
 conv=>whnf
 repeat'((first|clear U K|apply st|(apply zk;intro K U)|refine zY ?_|refine Pure.use (Qd _) ?_|refine za (fun hc=>?_) fun hc=>?_|fail)<;>conv=>whnf)
 all_goals first
  | (refine AS ?_;simp[Su, *];done)
  | (refine AS ?_;simp[Su, *];omega)
  | (refine AS ?_;rw[hw];simp[Su, *];done)
  | (refine AS ?_;congr 1;rw[Gr];simp[Su, *];omega)
def rM (n:Nat) (hn:n<=120):Pure zP 173 [.i .u64 1,eU n] (.t [.i .u64 0,eU n]):=by
 refine tk kZ ?_;have hs:=Sn
 conv=>whnf
 repeat'((first|clear U K|apply st|(apply zk;intro K U)|refine zY ?_|refine⟨(by decide:(0:Int)<=_),?_⟩|fail)<;>conv=>whnf)
 have ea: ∀m:Nat,m<=120->bits .and .u64 (m:Int) 4294967295=(m:Int):=fun m hm=>by
  have:=FJ (a:=m) (b:=4294967295) (by omega) (by decide)
  have e:m&&&4294967295=m:=by
   have:=Nat.and_two_pow_sub_one_eq_mod m 32;rw[show 2 ^ 32 - 1=4294967295 from rfl]at this;rw[this];omega
  rw[e]at this;exact this
 have e0:=ea 0 (by omega);have e1:=ea 1 (by omega);have en:=ea n hn
 have ef: ∀m:Nat,m<=120->(m:Int).fdiv (2 ^ min (Int.toNat 32) IntKind.u64.bits)=0:=fun m hm=>by
  have:=TZ (a:=m) (c:=32) (by decide);rw[show(Int.toNat 32)=32 from rfl,this,Nat.shiftRight_eq_div_pow];have:m / 2 ^ 32=0:=Nat.div_eq_of_lt (by omega);rw[this];rfl
 have f0:=ef 0 (by omega);have f1:=ef 1 (by omega);have fn:=ef n hn;have w0:IntKind.u64.wrap 0=0:=rfl;have wn:IntKind.u64.wrap (n:Int)=n:=HC (by omega);simp only[Int.natCast_zero,Int.natCast_one,Int.cast_ofNat_Int]at e0 e1 f0 f1;simp only[e0,e1,en,f0,f1,fn,w0,wn,Int.zero_mul,Int.mul_zero,Int.zero_add,Int.add_zero,Int.one_mul];exact AS rfl
def rN (n:Nat) (hn:n<=120):Pure zP 109 [.i .u64 1,eU n] (.t [.i .u64 0,eU n]):=by
 refine uR kZ ?_;have hs:=Sn
 conv=>whnf
 repeat'((first|clear U K|apply st|(apply zk;intro K U)|refine Pure.use (rM n hn) ?_|fail)<;>conv=>whnf)
 all_goals exact AS rfl
def RQ (op:Int):V:=
 if op=5 then .Ee 340 (.a [])else
 if op=1\/op=2\/op=3\/op=6\/op=18 then .Ee 339 (eI 0)else
 if op=4\/op=8\/op=17 then .Ee 339 (eI 1)else
 if op=7\/op=9\/op=11\/op=12\/op=13\/op=14\/op=15\/op=16 then .Ee 339 (eI 2)else
 if op=10 then .Ee 339 (eI 3)else .DT
def bg (op:Int):Pure zP 249 [eI op] (RQ op):=by
 refine s5 kZ ?_;have hs:=Sn
 conv=>whnf
 repeat'((first|clear U K|apply st|(apply zk;intro K U)|refine zY ?_|refine za (fun hc=>?_) fun hc=>?_|fail)<;>conv=>whnf)
 all_goals exact AS (by simp[RQ, *])
def wF (n:Int) (p:Prog) (x:Node):Pure zP 352 [eI n,.a (Ba p),.a (NT x)] (eI n):=by
 refine sC kZ ?_;have hs:=Sn;exact zW
def oB (p:Prog) (x:Node) (h0:0<=x.n) (h1:x.n<p.Ch.length):Pure zP 353 [.a [],.a (Ba p),.a (NT x)] (eI (p.Ch.getD x.n.toNat 0)):=by
 refine Pure.fit (by kernel_rfl) fun hf=>?_
 have⟨p1,p2,p3,p4⟩:=O6 hf.2.1
 have hx:p.Ch[x.n.toNat]? =some (p.Ch.getD x.n.toNat 0):=by
  rw[Dh,Di (by omega)];rfl
 refine sB kZ ?_;have hs:=Sn;exact zW
end Go.Gl
