import Derived.Test.YtcfkfhaedllcpaaGreatU13
import Derived.Test.YtcfkfhaedllcpaaGreatU14
import Derived.Test.YtcfkfhaedllcpaaGreatU19
set_option linter.all false
set_option linter.defProp false
set_option maxHeartbeats 8000000
noncomputable section
namespace Go.Gl
open Go.Proofs
attribute [local irreducible] BD A3 Au AS AL Ao AU AV AM An AP AT BF BM Sat Af BK Aw W
def Zx (g:List (List Int)):Prop:=g.length<=60/\ ∀(i:Nat) (l:List Int),g[i]? =some l->l.length<=63/\l.Nodup/\ ∀c∈l,(3:Int)<=c/\c<3+(i:Int)
def W6 {g:List (List Int)} (h:GN g):Zx g:=⟨by have:=h.1;omega,fun i l hi=>by
 obtain⟨h1,h2,h3⟩:=h.2 i l hi
 exact⟨by omega,h2,h3⟩⟩
def PE (w:Ap):Prop:=Zx w.parents/\w.owner.length<=40/\ ∀o∈w.owner,(3:Int)<=o/\o<3+(w.parents.length:Int)
def Xo (us:List Nat) (l:List Int) (s:Nat):Nat:=l.foldl (fun s c=>s|||us.getD c.toNat 0) s
def Cm (g:List (List Int)):Nat->List Nat
 | 0=>[1,3,5]
 | k+1=>Cm g k++[Xo (Cm g k) (g.getD k []) (1|||2 ^ (3+k))]
def Xn (g:List (List Int)):List Nat:=Cm g g.length
def Xu (us:List Nat):List V:=us.map eU++List.replicate (63 - us.length) (eU 0)
def wC (w:Ap) (us:List Nat):List V:=BC w++Xu us
def Mr (g:List (List Int)): ∀k,(Cm g k).length=3+k
 | 0=>rfl
 | k+1=>by simp[Cm,Mr g k];omega
def VW (w:Ap) {us:List Nat} (h:us.length<=63):(wC w us).length=65:=by
 simp only[wC,BC,Xu,Uw,Om,List.length_nil,BW,List.length_replicate];omega
def VV (w:Ap) (us:List Nat) (s:Nat) (h:us.length<63):(wC w us).set (2+us.length) (eU s)=wC w (us++[s]):=by
 simp only[wC,Xu];rw[List.set_append_right _ _ (by simp[BC])];congr 1;have e:2+us.length - (BC w).length=us.length:=by simp[BC]
 rw[e,List.set_append_right _ _ (by simp)];rw[BW,Nat.sub_self,R8,aS];congr 1;rw[show 63 - us.length=(63 - (us++[s]).length)+1 by simp;omega,List.replicate_succ];rfl
def gZ (w:Ap) (us:List Nat) {i:Nat} (h:i<us.length):(wC w us)[2+i]? =some (eU (us.getD i 0)):=by
 simp only[wC,Xu];rw[List.getElem?_append_right (by simp[BC]),show 2+i - (BC w).length=i by simp[BC],fV (by simpa using h),NX,D2 h,FD,D2 h];rfl
def im (us:List Nat):Prop:= ∀u∈us,u<18446744073709551616
def Vj {us:List Nat} (h:im us) (i:Nat):us.getD i 0<18446744073709551616:=by
 rw[FD];cases hx:us[i]? with
 | none=>simp
 | some x=>exact h x (Dx hx)
def N8 {us:List Nat} (h:im us): ∀(l:List Int) (s:Nat),s<18446744073709551616->Xo us l s<18446744073709551616
 | [],_,hs=>hs
 | c::r,s,hs=>N8 h r _ (PB hs (Vj h _))
def LQ (g:List (List Int)): ∀k,k<=60->im (Cm g k)
 | 0,_=>by intro u hu;simp[Cm]at hu;omega
 | k+1,hk=>by
   intro u hu;simp only[Cm,FC,ME]at hu;rcases hu with hu|rfl
   .exact LQ g k (by omega) u hu
   .exact N8 (LQ g k (by omega)) _ _ (PB (by decide) (LF (by omega)))
def bo (w:Ap) (us:List Nat) (c:Int) {n:Nat} (hM:w.parents.length<=60):Cl zP 331 [.p n 0,eI c] [.box n (wC w us)] fun r post=>r= .ret (.b (decide (3<=c)&&decide (c<3+(w.parents.length:Int))))/\post= [.box n (wC w us)]:=by
 intro Z hs;have hw:IntKind.i64.wrap (3+((Df w.parents).length:Nat))=3+(w.parents.length:Int):=by rw[BW,wrap64 (by omega) (by omega)]
 refine dO kZ ?_
 conv=>whnf
 repeat'((first|apply st|(apply sq;intro K U)|(apply si;intro A B hA hB)|(refine hA _ _ ?_;clear hB B hA A)|(apply U;clear U K)|refine⟨rfl,?_⟩|refine ld ?_|(constructor<;>intro hc<;>(try rw[hc])<;>(replace hc:=bp hc))|fail)<;>conv=>whnf)
 .refine Cj ⟨_,⟨?_,rfl⟩,hs⟩
  rw[hw,decide_eq_true (show 3<=c by omega)];rfl
 .refine Cj ⟨_,⟨?_,rfl⟩,hs⟩
  rw[decide_eq_false (show¬3<=c by omega)];rfl
def XM (w:Ap) (us:List Nat) (c:Int) (hM:w.parents.length<=60):Pure zP 367 [.rp (wC w us),eI c] (.b (Nl w c)):=by
 have hw:IntKind.i64.wrap (3+((Df w.parents).length:Nat))=3+(w.parents.length:Int):=by rw[BW,wrap64 (by omega) (by omega)]
 refine dB kZ ?_;have hs:=Sn
 conv=>whnf
 repeat'((first|apply st|(apply sq;intro K U)|(apply si;intro A B hA hB)|(refine hA _ _ ?_;clear hB B hA A)|(apply U;clear U K)|refine⟨rfl,?_⟩|(constructor<;>intro hc<;>(try rw[hc])<;>(replace hc:=bp hc))|fail)<;>conv=>whnf)
 .refine AF ?_
  rw[hw,Nl,decide_eq_true (show 0<=c by omega)];rfl
 .refine AF ?_
  rw[Nl,decide_eq_false (show¬0<=c by omega)];rfl
def X9 (w:Ap) (us:List Nat) (c:Int) (hM:w.owner.length<=60):Pure zP 385 [.rp (wC w us),eI c] (.b (HW w c)):=by
 refine cu kZ ?_;have hs:=Sn
 conv=>whnf
 repeat'((first|apply st|(apply sq;intro K U)|(apply si;intro A B hA hB)|(refine hA _ _ ?_;clear hB B hA A)|(apply U;clear U K)|refine⟨rfl,?_⟩|(constructor<;>intro hc<;>(try rw[hc])<;>(replace hc:=bp hc))|fail)<;>conv=>whnf)
 .refine AF ?_
  rw[HW,decide_eq_true (show 0<=c by omega),BW];rfl
 .refine AF ?_
  rw[HW,decide_eq_false (show¬0<=c by omega)];rfl
def YP (w:Ap) (us:List Nat) (l:List Int) (f:Bool) (hM:w.owner.length<=60):Pure zP 366 [.rp (wC w us),.l (iL l) f] (.b (FW w l)):=by
 have hall:=Za (g:=385) (fi:=[.rp (wC w us)]) (ca:=[]) (f:=HW w) (xs:=l) f (fun y _=>X9 w us y hM);refine dC kZ ?_;have hs:=Sn
 conv=>whnf
 repeat'((first|apply st|(apply sq;intro K U)|(apply si;intro A B hA hB)|(refine hA _ _ ?_;clear hB B hA A)|(apply U;clear U K)|refine⟨rfl,?_⟩|(constructor<;>intro hc<;>(try rw[hc])<;>(replace hc:=bp hc)<;>(try simp(disch:=omega) only[BW,wrap64,AJ]at hc))|refine Pure.use (by assumption) ?_|fail)<;>conv=>whnf)
 .refine AF ?_
  rw[FW,decide_eq_true (show l.length<=2 by omega),Bool.and_true];rfl
 .refine AF ?_
  rw[FW,decide_eq_false (show¬l.length<=2 by omega),Bool.and_false];rfl
def PS (s:Nat) (c:Int) (hs0:s<18446744073709551616) (h0:0<=c) (hc:c<64):Pure zP 329 [eU s,eI c] (eU (s|||2 ^ c.toNat)):=by
 have:=X4 s c.toNat hs0 (by omega);rw[Int.toNat_of_nonneg h0]at this;exact this
def pO {k:Nat} (h:k<3):([1,3,5]:List Nat).take k++[1|||2 ^ k]= [1,3,5].take (k+1):=by
 rcases k with _|_|_|k
 .rfl
 .rfl
 .rfl
 .omega
def YU (w : Ap) (hw:PE w):Pure zP 298 [.a (BC w)] (.t [.rp (wC w (Xn w.parents)),.b true]):=by
 obtain⟨⟨hl,hrow⟩,ho,how⟩:=hw;have hM:=Mx;refine Pure.of ?_;refine dd kZ ?_;have hs:=Sn;have hi1:((Df w.parents).length:Int)<=60:=by rw[BW];omega
 have hi2:((iL w.owner).length:Int)<=40:=by rw[BW];omega
 conv=>whnf
 repeat'((first|apply st|(apply sq;intro K U)|(apply si;intro A B hA hB)|(refine hA _ _ ?_;clear hB B hA A)|(apply U;clear U K)|refine⟨rfl,?_⟩|refine⟨kZ,?_⟩|(constructor<;>intro hc<;>(try rw[hc])<;>(replace hc:=bp hc)<;>(try simp(disch:=omega) only[BW,wrap64,AJ]at hc)<;>try(exfalso;omega))|(intro nn hnn;generalize hg:BO _ nn _=Z;refine NY hg fun hs=>?_;clear hg)|fail)<;>conv=>whnf)
 generalize nn=n0 at *;refine Cc 3 (fun k (_:Unit)=>[(24,eI (BU k))]) (fun k _=>[.box n0 (wC w ([1,3,5].take k))]) (fun k _=>True) () rfl trivial hs ?_;clear hs;rintro k - Z hk - hs;have hck:BU k=k:=AJ (by omega);have hlen:(([1,3,5]:List Nat).take k).length=k:=by simp;omega
 by_cases hlt:k<3
 .have hst:=VV w ([1,3,5].take k) (1|||2 ^ k) (by omega)
  rw[hlen,pO hlt]at hst
  conv=>whnf
  repeat'((first|apply st|(apply sq;intro K U)|(apply si;intro A B hA hB)|(refine hA _ _ ?_;clear hB B hA A)|(apply U;clear U K)|apply dr|refine⟨rfl,?_⟩|refine iw ?_|refine Pure.use (PS 1 _ (by decide) (by omega) (by omega)) ?_|(constructor<;>intro hc<;>(try rw[hc])<;>(replace hc:=bp hc)<;>(try simp(disch:=omega) only[BW,wrap64,AJ]at hc)<;>try(exfalso;omega))|fail)<;>conv=>whnf)
  refine Ia hs 0 rfl rfl (by rw[VW w (by omega)];omega) fun Z hs=>?_
  conv=>whnf
  repeat'((first|(apply si;intro A B hA hB)|(refine hA _ _ ?_;clear hB B hA A)|(apply U;clear U K)|apply dr|refine⟨rfl,?_⟩|clear U K)<;>conv=>whnf)
  refine⟨hlt,(),rfl,trivial,?_⟩;rw[hck,MF,Nat.mul_one,Ex]at hs;simp only[List.set_cons_zero]at hs;rw[hst]at hs;exact hs
 .have hke:k=3:=by omega
  subst hke;clear hk hck hlen hlt
  conv=>whnf
  repeat'((first|apply st|(apply sq;intro K U)|(apply si;intro A B hA hB)|(refine hA _ _ ?_;clear hB B hA A)|(apply U;clear U K)|refine⟨rfl,?_⟩|(constructor<;>intro hc<;>(try rw[hc])<;>(replace hc:=bp hc)<;>(try simp(disch:=omega) only[BW,wrap64,AJ]at hc)<;>try(exfalso;omega))|clear U K)<;>conv=>whnf)
  refine Cc w.parents.length (fun k (_:Unit)=>[(38,eI (BU k))]) (fun k _=>[.box n0 (wC w (Cm w.parents k))]) (fun k _=>True) () rfl trivial hs ?_;clear hs;rintro k - Z hk - hs;have hck:BU k=k:=AJ (by omega);have hul:=Mr w.parents k;have huo:=LQ w.parents k (by omega);have hw3:IntKind.i64.wrap (3+(k:Int))=3+(k:Int):=wrap64 (by omega) (by omega);rcases Bd w.parents hk with⟨row,hr,hlt⟩|hke
  .obtain⟨r1,r2,r3⟩:=hrow k row hr
   rw[<-hck]at hw3
   conv=>whnf
   repeat'((first|apply st|(apply sq;intro K U)|(apply si;intro A B hA hB)|(refine hA _ _ ?_;clear hB B hA A)|(apply U;clear U K)|refine⟨rfl,?_⟩|refine ix ?_|(refine MN (fun hc=>?_)<;>(try rw[hc])<;>clear hc)|refine Pure.use (PS 1 _ (by decide) (by omega) (by omega)) ?_|fail)<;>conv=>whnf)
   have hbig:im (Cm w.parents k):=huo;have hst0:IntKind.i64.wrap (3+BU k)=3+(k:Int):=by rw[hck];exact wrap64 (by omega) (by omega)
   have hs0lt:1|||2 ^ (3+k)<18446744073709551616:=PB (by decide) (LF (by omega))
   have hs0e:1|||2 ^ (IntKind.i64.wrap (3+BU k)).toNat=1|||2 ^ (3+k):=by rw[hst0,show(3+(k:Int)).toNat=3+k by omega]
   rw[hs0e];refine Cc row.length (fun j (s:Nat)=>[(48,eI (BU j)),(8,eU s)]) (fun _ _=>[.box n0 (wC w (Cm w.parents k))]) (fun j s=>s=Xo (Cm w.parents k) (row.take j) (1|||2 ^ (3+k))) (1|||2 ^ (3+k)) rfl rfl hs ?_;clear hs;rintro j s Z hj hse hs;rcases Bd row hj with⟨c,hcj,hjlt⟩|hje
   .obtain⟨q1,q2⟩:=r3 c (Dx hcj)
    have hload:(wC w (Cm w.parents k))[0+2+c.toNat*1]? =some (eU ((Cm w.parents k).getD c.toNat 0)):=by
     have:=gZ w (Cm w.parents k) (i:=c.toNat) (by omega);rw[<-this];congr 1;omega
    have hnc:(row.take j).contains c=false:=by
     rw[<-Bool.not_eq_true,List.contains_iff_mem];intro hm;obtain⟨i,hi,he⟩:=List.mem_iff_getElem.1 hm;have hi':i<j:=by rw[Uv]at hi;omega
     rw[List.getElem_take]at he;have hcj':=(KT.1 hcj).2;exact absurd ((List.getElem_inj r2).1 (he.trans hcj'.symm)) (by omega)
    have hct: ∀b,Pure zP 206 [.l (iL (row.take j)) b,eI c] (.b false):=fun b=>by
     have:=EG (row.take j) b c
     rwa [hnc]at this
    conv=>whnf
    repeat'((first|apply st|(apply sq;intro K U)|(apply si;intro A B hA hB)|(refine hA _ _ ?_;clear hB B hA A)|(apply U;clear U K)|refine⟨rfl,?_⟩|refine ix ?_|refine ie ?_|refine iw ?_|refine ld ?_|refine U0 ?_|(refine MN (fun hc=>?_)<;>(try rw[hc])<;>clear hc)|refine Pure.use (hct _) ?_|(rw[hload])|(constructor<;>intro hc<;>(try rw[hc])<;>(replace hc:=bp hc)<;>(try simp(disch:=omega) only[BW,wrap64,AJ]at hc)<;>try(exfalso;omega))|clear U K)<;>conv=>whnf)
    refine⟨hjlt,s|||(Cm w.parents k).getD c.toNat 0,?_,?_,hs⟩
    .have hsl:s<18446744073709551616:=by rw[hse];exact N8 huo _ _ hs0lt
     rw[Kp hsl (Vj huo _)];rfl
    .rw[hse,Aa hcj]
     simp only[Xo,List.foldl_append];rfl
   .conv=>whnf
    repeat'((first|apply st|(apply sq;intro K U)|(apply si;intro A B hA hB)|(refine hA _ _ ?_;clear hB B hA A)|(apply U;clear U K)|refine⟨rfl,?_⟩|refine iw ?_|(refine Qg (fun hc=>?_)<;>(try rw[hc])<;>clear hc)|clear U K)<;>conv=>whnf)
    refine Ia hs 0 rfl rfl (by rw[VW w (by omega),hst0];omega) fun Z hs=>?_
    conv=>whnf
    repeat'((first|(apply si;intro A B hA hB)|(refine hA _ _ ?_;clear hB B hA A)|(apply U;clear U K)|refine⟨rfl,?_⟩|clear U K)<;>conv=>whnf)
    refine⟨hlt,(),rfl,trivial,?_⟩
    have e:Cm w.parents (k+1)=Cm w.parents k++[s]:=by
     rw[hse,Cm,FD,hr,hje,List.take_length];rfl
    have hst:=VV w (Cm w.parents k) s (by omega);rw[e,<-hst];have e2:0+2+(IntKind.i64.wrap (3+BU k)).toNat*1=2+(Cm w.parents k).length:=by rw[hst0,hul];omega
    rw[e2]at hs;exact hs
  .have hown:=V5 331 [.p n0 0] [] (fun _=>[.box n0 (wC w (Cm w.parents k))]) (PA fun c=>decide (3<=c)&&decide (c<3+(w.parents.length:Int))) (fun _ _=>True) (fun y s _ Z hs=>Ct (BD.mono (bo w (Cm w.parents k) y (by omega) Z hs) (by
    rintro r Z' ⟨post,⟨h1,h2⟩,h3⟩;subst h2
    exact⟨h1,h3⟩))) w.owner false () (JU fun _ _ _=>trivial)
   rw[HO]at hown
   have hall:(w.owner.all fun c=>decide (3<=c)&&decide (c<3+(w.parents.length:Int)))=true:=by
    rw[JD];intro o hoo;have:=how o hoo;simp only[Ba,DG];exact this
   rw[hall]at hown
   conv=>whnf
   repeat'((first|apply st|(apply sq;intro K U)|(apply si;intro A B hA hB)|(refine hA _ _ ?_;clear hB B hA A)|(apply U;clear U K)|refine⟨rfl,?_⟩|(refine Qg (fun hc=>?_)<;>(try rw[hc])<;>clear hc)|clear U K)<;>conv=>whnf)
   refine hown.use (rest:=[]) hs ?_;rintro r post Z ⟨rfl,rfl⟩ hs
   conv=>whnf
   repeat'((first|apply st|(refine hA _ _ ?_;clear hB B hA A)|(apply U;clear U K)|fail)<;>conv=>whnf)
   rw[hke]at hs;exact HD (Z2:=emp) (fun n o ho=>by cases ho) (.t (.cons (hs.jg 0 rfl (.refl _ _ _)) (.cons (.refl _) .nil))) rfl
def Nj (es es':List KV):Prop:= ∃new:List KV,es'=es++new/\ ∀x∈new,x.k=k0
def Nj.refl (es:List KV):Nj es es:=⟨[],by simp,by simp⟩
def Nj.trans {a b c:List KV} (h1:Nj a b) (h2:Nj b c):Nj a c:=by
 obtain⟨x,rfl,hx⟩:=h1;obtain⟨y,rfl,hy⟩:=h2;refine⟨x++y,by simp,fun z hz=>?_⟩;rcases FC.1 hz with h|h
 .exact hx z h
 .exact hy z h
def Nj.mem {a b:List KV} (h:Nj a b) {e:KV} (he:e∈a):e∈b:=by
 obtain⟨x,rfl,_⟩:=h;exact On _ he
structure gW (kf:Int->List Int->Kn) (es es':List KV) (a:Int) (p:List Int) (e:KV):Prop where
 inv:MU kf es'
 ext:Nj es es'
 mem:e∈es'
 is:e.is a p=true
def gW.k {kf:Int->List Int->Kn} {es es':List KV} {a:Int} {p:List Int} {e:KV} (h:gW kf es es' a p e):e.k=kf a p:=by
 have:=h.inv.val e h.mem;obtain⟨h1,h2⟩:=Vo.1 h.is;rw[this,h1,h2]
structure aj (T:List (List Bool)) (l:List Int):Prop where
 len:T.length<=16
 sq: ∀r∈T,r.length=T.length
 ins: ∀x∈l,0<=x/\x<(T.length:Int)
 many:l.length<=16
def aj.less {T:List (List Bool)} {l:List Int} (h:aj T l) (i:Nat):aj T (l.eraseIdx i):=
 ⟨h.len,h.sq,fun x hx=>h.ins x (List.mem_of_mem_eraseIdx hx),Nat.le_trans (List.length_eraseIdx_le _ _) h.many⟩
end Go.Gl
namespace Go.Gl
open Go.Proofs
section
variable {H:Type} {enc:TypeId×Value->H} {W:World}
end
structure Zm where
 ord:Int
 pick:Int
 fold:Int
deriving DecidableEq
structure Qj where
 of:Int
 rd:Int
 wr:Int
 fa:Int
deriving DecidableEq
structure II where
 B7:List Zm
 A0:List Qj
 cls:List Int
abbrev FT (c:Zm):List V:=[eI c.ord,eI c.pick,eI c.fold]
abbrev MP (m:Qj):List V:=[eI m.of,eI m.rd,eI m.wr,eI m.fa]
abbrev FG (q:II):List V:=[.l (q.B7.map FT) false,.l (q.A0.map MP) false,.l (iL q.cls) false]
instance :MS FT:=⟨fun _=>rfl⟩
instance :MS MP:=⟨fun _=>rfl⟩
def Pr:EP FT 3:=fun x=>⟨rfl,fun v hv=>by
 simp only[FT,HV,List.not_mem_nil,or_false]at hv
 rcases hv with rfl|rfl|rfl<;>rfl⟩
def CJ (q:II):Bool:=decide (q.B7.length<=60)&&(decide (q.A0.length<=60)&&decide (q.cls.length<=60))
def Ea {q:II} (h:CJ q=true):q.B7.length<=60/\q.A0.length<=60/\q.cls.length<=60:=by
 simpa[CJ]using h
def EV (f:Int):Bool:=decide (1<=f)&&decide (f<=6)
def MQ (c:Zm):Bool:=(decide (1<=c.ord)&&decide (c.ord<=2))&&(EV c.fold&&(decide (0<=c.pick)&&decide (c.pick<=16)))
def FY (p:Prog) (g k:Int):Bool:=(g== -1)||(Ni p g&&p.Bc.getD g.toNat 0==k)
def U9 (p:Prog) (i:Int) (m:Qj):Bool:=(decide (-1<=m.of)&&decide (m.of<i))&&(FY p m.rd 2&&(FY p m.wr 2&&FY p m.fa 1))
def Ez (p:Prog):Nat->List Qj->Bool
 | _,[]=>true
 | i,m::r=>U9 p i m&&Ez p (i+1) r
def TS (n:Nat) (c:Int):Bool:=decide (-1<=c)&&decide (c<(n:Int))
def VQ (p:Prog) (q:II):Bool:=decide (q.B7.length=p.Bc.length)&&(decide (q.A0.length<=4)&&decide (q.cls.length=p.AG.length))
def D3 (p:Prog) (q:II):Bool:=VQ p q&&(q.B7.all MQ&&(Ez p 0 q.A0&&q.cls.all (TS q.A0.length)))
def Ph {p:Prog}: ∀ {l:List Qj} {i:Nat},Ez p i l=true-> ∀(j:Nat) (m:Qj),l[j]? =some m->U9 p ((i+j:Nat):Int) m=true
 | [],_,_,j,m,hm=>by simp at hm
 | x::r,i,h,0,m,hm=>by
   rw[Ez,Ba]at h;simp at hm;subst hm;exact h.1
 | x::r,i,h,j+1,m,hm=>by
   rw[Ez,Ba]at h;have:=Ph h.2 j m (by simpa using hm);rw[show i+(j+1)=i+1+j by omega];exact this
def Ei (l:List Qj):Nat->Int->Int
 | 0,m=>m
 | k+1,m=>if m<0 then m else Ei l k ((l[m.toNat]?.map Qj.of).getD (-1))
def NO (l:List Qj): ∀(k:Nat) (m:Int),m<0->Ei l k m=m
 | 0,_,_=>rfl
 | k+1,m,h=>by rw[Ei,if_pos h]
def P1 {l:List Qj} {k:Nat} {m:Int} {x:Qj} (h0:0<=m) (hx:l[m.toNat]? =some x):Ei l (k+1) m=Ei l k x.of:=by
 rw[Ei,if_neg (by omega),hx];rfl
def Gr (q:II) (c lev:Int):Int:=Ei q.A0 lev.toNat (q.cls.getD (c - 3).toNat 0)
def IL (p:Prog) (c:Int):Bool:=decide (3<=c)&&decide (c<3+(p.AG.length:Int))
def F5 (p:Prog) (q:II):Bool:=(BI p).isSome&&D3 p q
def Hq (p:Prog) (q:II) (c lev:Int):Int×Int:=if F5 p q&&(IL p c&&decide (0<=lev))then(Gr q c lev,0)else(0,2)
def Qu (p:Prog):II:=⟨List.replicate p.Bc.length ⟨1,0,1⟩,[],List.replicate p.AG.length (-1)⟩
def Pp {p:Prog} {q:II} (h:D3 p q=true):q.B7.length=p.Bc.length/\q.A0.length<=4/\q.cls.length=p.AG.length:=by
 rw[D3,Ba]at h;have:=h.1;simpa[VQ]using this
def fM {p:Prog} {q:II} (h:D3 p q=true) {j:Nat} {c:Int} (hc:q.cls[j]? =some c): -1<=c/\c<(q.A0.length:Int):=by
 simp only[D3,Ba,JD]at h;have:=h.2.2.2 c (Dx hc);simpa[TS]using this
def Pg {p:Prog} {q:II} (h:D3 p q=true) {j:Nat} {m:Qj} (hm:q.A0[j]? =some m): -1<=m.of/\m.of<(j:Int):=by
 simp only[D3,Ba]at h;have:=Ph h.2.2.1 j m hm;simp only[U9,Ba,DG,Ex]at this;exact this.1
section
variable {H:Type} {enc:TypeId×Value->H} {W:World}
def gn:MO enc Tryz.prog W 66 FT:=fun n=>
 ES (DQ Tryz.underlying66
  (fun n=>Aq (c:=1) rfl (by kernel_rfl) (fun _=>rfl) (JQ Tryz.underlying63 n) (Aq (c:=1) rfl (by kernel_rfl) (fun _=>rfl) (HT n)
   (Aq (c:=1) rfl (by kernel_rfl) (fun _=>rfl) (JQ Tryz.underlying32 n) ET))) (fun _=>(show _=3 from rfl).trans (by kernel_rfl)) n) (fun x=>⟨x.1,x.2.1,x.2.2.1⟩) fun _=>rfl
def bb:MO enc Tryz.prog W 28 fun l:List Zm=>[V.l (l.map FT) false]:=El (sz:=3) Tryz.underlying28 (by kernel_rfl) (by decide) (b8 (by kernel_rfl)) (fun _=>rfl) gn
def gm:MO enc Tryz.prog W 90 MP:=fun n=>
 ES (DQ Tryz.underlying90
  (fun n=>Aq (c:=1) rfl (by kernel_rfl) (fun _=>rfl) (HT n) (Aq (c:=1) rfl (by kernel_rfl) (fun _=>rfl) (HT n)
   (Aq (c:=1) rfl (by kernel_rfl) (fun _=>rfl) (HT n) (Aq (c:=1) rfl (by kernel_rfl) (fun _=>rfl) (HT n) ET)))) (fun _=>(show _=4 from rfl).trans (by kernel_rfl)) n) (fun x=>⟨x.1,x.2.1,x.2.2.1,x.2.2.2.1⟩) fun _=>rfl
def bY:MO enc Tryz.prog W 29 fun l:List Qj=>[V.l (l.map MP) false]:=El (sz:=4) Tryz.underlying29 (by kernel_rfl) (by decide) (b8 (by kernel_rfl)) (fun _=>rfl) gm
def gl:MO enc Tryz.prog W 31 FG:=fun n=>
 ES (DQ Tryz.underlying31
  (fun n=>Aq (c:=1) rfl (by kernel_rfl) (fun _=>rfl) (bb n) (Aq (c:=1) rfl (by kernel_rfl) (fun _=>rfl) (bY n)
   (Aq (c:=1) rfl (by kernel_rfl) (fun _=>rfl) (Me n) ET))) (fun _=>(show _=3 from rfl).trans (by kernel_rfl)) n) (fun x=>⟨x.1,x.2.1,x.2.2.1⟩) fun _=>rfl
end
end Go.Gl
