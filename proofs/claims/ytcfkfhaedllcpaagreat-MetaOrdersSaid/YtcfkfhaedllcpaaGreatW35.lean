import Derived.Test.YtcfkfhaedllcpaaGreatW11
import Derived.Test.YtcfkfhaedllcpaaGreatW27
import Derived.Test.YtcfkfhaedllcpaaGreatW34
set_option linter.all false
set_option linter.defProp false
set_option maxHeartbeats 8000000
noncomputable section
namespace Go.Gl
open Go.Proofs
abbrev KT (p:Prog) (o n:Int):W4:=⟨List.replicate p.Br.length ⟨o,n,2⟩,[],List.replicate p.AH.length (-1)⟩
def nN {p:Prog} {o n:Int} (ho:o=1\/o=2) (h0:0<=n) (h1:n<=16):ON p (KT p o n)=true:=by
 simp only[ON,Yx,List.length_replicate,List.length_nil,Nr,BD,CN,E3];refine⟨⟨trivial,by omega,trivial⟩,fun c hc=>?_,trivial,fun c hc=>?_⟩
 .obtain⟨-,rfl⟩:=List.mem_replicate.1 hc
  exact Z4 ho rfl h0 h1
 .obtain⟨-,rfl⟩:=List.mem_replicate.1 hc
  rfl
def YZ {p:Prog} (h:(BK p).isSome=true) (o n:Int):Gt (KT p o n)=true:=by
 obtain⟨a,b,-⟩:=JJ h;simp[Gt,KT];omega
def dD {p:Prog} (h:(BK p).isSome=true) {l:List Int} (h2:D8 p l false=true) {o n:Int} (ho:o=1\/o=2) (h0:0<=n) (h1:n<=16) :
    Yu p (KT p o n) l=if(CJ (Ae p) p l).2 then(Dc ⟨o,n,2⟩ (CJ (Ae p) p l).1,0)else(([],false),5):=by
 have hc:Kg p (KT p o n)=true:=by rw[Kg,h,nN ho h0 h1];rfl
 rw[Yu,if_pos hc,FE,h,h2];simp only[Bool.and_self,if_true,SA];cases hb:(CJ (Ae p) p l).2
 .rfl
 .obtain⟨m,r,rfl,hm,m0,m1,g0,g1,hpr,-⟩:=Pf h h2 hb
  have hg:(KT p o n).EY.getD (Bi p ((m::r).getD 0 0)).gen.toNat ⟨0,0,0⟩=⟨o,n,2⟩:=by
   rw[List.getD_cons_zero,DH,List.getElem?_replicate,if_pos (by omega)];rfl
  simp only[if_true,hg,Yq,hb]
def Mz {Z Z2:AE} {v:V} {p:Prog} {o n:Int} {l:List Int} {f:Bool} (g:Ez Z Z2 v (.l ((List.replicate p.Br.length (⟨o,n,2⟩:XA)).map Ho) false)) :
    DA Z Z2 [.a (A9 p),.a [v,.l [] true,.l (iL (List.replicate p.AH.length (-1))) false],.l (iL l) f] [.a (A9 p),.a (Mp (KT p o n)),.l (iL l) f]:=
 .cons (.refl _) (.cons (.a (.cons g (.cons (.l (fun h=>by cases h) .nil) (.cons (.refl _) .nil)))) (.cons (.refl _) .nil))
attribute [local irreducible] A3 Aq Af AR AJ Ad AQ AT AK Ac AM AN Ax A5 Sat AX A4 Ah W
attribute [local irreducible] Fz
def K2 (p:Prog) (l:List Int) (f:Bool) (pick:Int) (hk0:0<=pick) (hk1:pick<=255) (c0:Pure zP 12 [] (.b true)) :
    Pure zP 5 [.a (A9 p),.l (iL l) f,.i .u8 pick] (.b true):=by
 refine Pure.fit (by kernel_rfl) fun hf=>?_
 have hM:=Mx;have hlM:=PN hf.2.1;have e0:((iL l).length:Int)=l.length:=by simp
 have c1:=qV p;by_cases h60:l.length<=60
 rotate_left
 .refine kU kZ ?_
  have hs:=Sn
  conv=>whnf
  repeat'((first|apply st|(apply sq;intro K U)|(apply si;intro A B hA hB)|(refine hA _ _ ?_;clear hB B hA A)|(apply U;clear U K)|refine⟨rfl,?_⟩|refine c0.use ?_|(constructor<;>intro hc<;>(try rw[hc])<;>(replace hc:=bp hc)<;>(try simp(disch:=omega) only[BU,wrap64,AO]at hc)<;>try(exfalso;omega))|clear U K)<;>conv=>whnf)
  all_goals first
   | exact AF rfl
   | (exfalso;omega)
 have c2:=q8 p l f false (by omega);cases h:(BK p).isSome<;>rw[h]at c1
 .refine kU kZ ?_
  have hs:=Sn
  conv=>whnf
  repeat'((first|apply st|(apply sq;intro K U)|(apply si;intro A B hA hB)|(refine hA _ _ ?_;clear hB B hA A)|(apply U;clear U K)|refine⟨rfl,?_⟩|refine⟨kZ,?_⟩|refine bA ?_|refine c1.use ?_|refine c0.use ?_|(constructor<;>intro hc<;>(try rw[hc])<;>(replace hc:=bp hc)<;>(try simp(disch:=omega) only[BU,wrap64,AO]at hc)<;>try(exfalso;omega))|clear U K)<;>conv=>whnf)
  all_goals first
   | exact AF rfl
   | (exfalso;omega)
 cases h2:D8 p l false<;>rw[h2]at c2
 .refine kU kZ ?_
  have hs:=Sn
  conv=>whnf
  repeat'((first|apply st|(apply sq;intro K U)|(apply si;intro A B hA hB)|(refine hA _ _ ?_;clear hB B hA A)|(apply U;clear U K)|refine⟨rfl,?_⟩|refine⟨kZ,?_⟩|refine df ?_|refine Mq ?_|refine c1.use ?_|refine c2.use ?_|refine c0.use ?_|(constructor<;>intro hc<;>(try rw[hc])<;>(replace hc:=bp hc)<;>(try simp(disch:=omega) only[BU,wrap64,AO]at hc)<;>try(exfalso;omega))|clear U K)<;>conv=>whnf)
  all_goals first
   | exact AF rfl
   | (exfalso;omega)
 have c3:=iF p l f (look_ok h) (Ty (look_ok h) h2);have c4:=vO p;rw[yF,h,if_pos rfl]at c4;obtain⟨h8,h10,-⟩:=JJ h
 have hline: ∀o n:Int,(o=1\/o=2)->0<=n->n<=16->Pure zP 13 [.a (A9 p),.a (Mp (KT p o n)),.l (iL l) f] (lnV (if(CJ (Ae p) p l).2 then(Dc ⟨o,n,2⟩ (CJ (Ae p) p l).1,0)else(([],false),5))):=fun o n ho h0 h1=>by
  have:=xj p (KT p o n) (YZ h o n) l f h60;rw[dD h h2 ho h0 h1]at this;exact this
 have hpr:(CJ (Ae p) p l).2=true->(CJ (Ae p) p l).1.pr.length<=60:=fun hb=>by
  obtain⟨m,r,-,-,-,-,-,-,hpr,-⟩:=Pf h h2 hb;exact hpr
 clear h h2 hf;generalize CJ (Ae p) p l=x at *;obtain⟨⟨ar,OM,be,pr,prt,af⟩,b⟩:=x;dsimp only at hpr;replace c3:Pure zP 23 [.a (A9 p),.l (iL l) f] (.t [.a [.l (iL ar) (!b),.b OM,.l (iL be) (!b),.l (iL pr) (!b),.b prt,.l (iL af) (!b)],.b b]):=c3;have e3:pr.reverse.length=pr.length:=List.length_reverse;refine kU kZ ?_;have hs:=Sn
 conv=>whnf
 repeat'((first|apply st|(refine JQ ?_;intro K U)|(apply si;intro A B hA hB)|(refine hA _ _ ?_;clear hB B hA A)|(apply U;clear U K)|refine⟨rfl,?_⟩|refine⟨kZ,?_⟩|refine Ug fun Z hs=>?_|refine Ox ?_|refine Mq ?_|refine c1.use ?_|refine c2.use ?_|refine c3.use ?_|refine c4.use ?_|refine JR ?_|(constructor<;>intro hc<;>(try rw[hc])<;>(replace hc:=bp hc)<;>(try simp(disch:=omega) only[BU,wrap64,AO]at hc)<;>try(exfalso;omega))|(intro nn hnn;generalize hg:Bd _ nn _=Z;refine RX hg fun hs=>?_;clear hg)|fail)<;>conv=>whnf)
 rename_i n7 _ _ _ _ _ _ _;generalize nn=n9 at *;replace hs:Sat Z [.box n9 [.l ((List.replicate p.Br.length IQ).map Ho) false,.l [] true,.l (iL (List.replicate p.AH.length (-1))) false],.box n7 [.l (iL ar) (!b),.b OM,.l (iL be) (!b),.l (iL pr) (!b),.b prt,.l (iL af) (!b)]]:=hs;have hos:((List.replicate 2 [eI 0]).set 0 [eI 1]).set 1 [eI 2]=iL [1,2]:=rfl;rw[hos];have hosl:([1,2]:List Int).length=2:=rfl;have hosm: ∀o∈([1,2]:List Int),o=1\/o=2:=by simp
 clear hos;generalize ([1,2]:List Int)=os at *;refine B0 2 (fun k (_:Unit)=>[(51,eI (A8 k))]) (fun _ _=>[.box n9 [.l ((List.replicate p.Br.length IQ).map Ho) false,.l [] true,.l (iL (List.replicate p.AH.length (-1))) false],.box n7 [.l (iL ar) (!b),.b OM,.l (iL be) (!b),.l (iL pr) (!b),.b prt,.l (iL af) (!b)]]) (fun _ _=>True) () rfl trivial hs ?_;clear hs;rintro k - Z hk - hs;have hck:A8 k=k:=AO (by omega);rcases BC os (by rw[hosl];exact hk)with⟨o,hox,hlt⟩|hke
 rotate_left
 .rw[hosl]at hke
  conv=>whnf
  repeat'((first|apply st|(refine JQ ?_;intro K U)|(apply si;intro A B hA hB)|(refine hA _ _ ?_;clear hB B hA A)|(apply U;clear U K)|refine⟨rfl,?_⟩|refine c0.use ?_|refine JR ?_|(constructor<;>intro hc<;>(try rw[hc])<;>(replace hc:=bp hc)<;>(try simp(disch:=omega) only[BU,wrap64,AO]at hc)<;>try(exfalso;omega))|clear U K)<;>conv=>whnf)
  all_goals first
   | exact AF rfl
   | (exfalso;omega)
 have ho:=hosm o (B1 hox);rw[hosl]at hlt
 conv=>whnf
 repeat'((first|apply st|(refine JQ ?_;intro K U)|(apply si;intro A B hA hB)|(refine hA _ _ ?_;clear hB B hA A)|(apply U;clear U K)|refine⟨rfl,?_⟩|refine ix ?_|(refine Uc (fun hc=>?_)<;>(try rw[hc])<;>clear hc)|refine⟨(by decide:(17:Int)≠0),?_⟩|refine JR ?_|fail)<;>conv=>whnf)
 all_goals try(exfalso;omega)
 have hNw:IntKind.i64.wrap pick=pick:=wrap64 (by omega) (by omega);have hns:((List.replicate 2 [eI 0]).set 0 [eI 0]).set 1 [eI ((IntKind.i64.wrap pick).tmod 17)]=iL [0,(IntKind.i64.wrap pick).tmod 17]:=rfl;rw[hns];have hnsl:([0,(IntKind.i64.wrap pick).tmod 17]:List Int).length=2:=rfl
 have hnsm: ∀n∈([0,(IntKind.i64.wrap pick).tmod 17]:List Int),0<=n/\n<=16:=by
  have h1:=Int.tmod_nonneg 17 hk0;have h2:=Int.tmod_lt_of_pos pick (show(0:Int)<17 by decide);rw[hNw];simp only[Fm,List.not_mem_nil,or_false];rintro n (rfl|rfl)<;>omega
 clear hns;generalize ([0,(IntKind.i64.wrap pick).tmod 17]:List Int)=ns at *;refine B0 2 (fun k (_:Unit)=>[(60,eI (A8 k))]) (fun _ _=>[.box n9 [.l ((List.replicate p.Br.length IQ).map Ho) false,.l [] true,.l (iL (List.replicate p.AH.length (-1))) false],.box n7 [.l (iL ar) (!b),.b OM,.l (iL be) (!b),.l (iL pr) (!b),.b prt,.l (iL af) (!b)]]) (fun _ _=>True) () rfl trivial hs ?_;clear hs;rintro k2 - Z hk2 - hs;have hck2:A8 k2=k2:=AO (by omega);rcases BC ns (by rw[hnsl];exact hk2)with⟨n,hnx,hlt2⟩|hke2
 rotate_left
 .rw[hnsl]at hke2
  conv=>whnf
  repeat'((first|apply st|(refine JQ ?_;intro K U)|(apply si;intro A B hA hB)|(refine hA _ _ ?_;clear hB B hA A)|(apply U;clear U K)|refine⟨rfl,?_⟩|refine JR ?_|(constructor<;>intro hc<;>(try rw[hc])<;>(replace hc:=bp hc)<;>(try simp(disch:=omega) only[BU,wrap64,AO]at hc)<;>try(exfalso;omega))|clear U K)<;>conv=>whnf)
  all_goals first
   | exact⟨hlt,(),rfl,trivial,hs⟩
   | (exfalso;omega)
 have hn:=hnsm n (B1 hnx);rw[hnsl]at hlt2
 conv=>whnf
 repeat'((first|apply st|(refine JQ ?_;intro K U)|(apply si;intro A B hA hB)|(refine hA _ _ ?_;clear hB B hA A)|(apply U;clear U K)|refine⟨rfl,?_⟩|refine⟨kZ,?_⟩|refine ix ?_|refine ld ?_|refine nt fun Z hs=>?_|refine Ug fun Z hs=>?_|(refine Uc (fun hc=>?_)<;>(try rw[hc])<;>clear hc)|refine JR ?_|(intro nn hnn;generalize hg:Bd _ nn _=Z;refine RX hg fun hs=>?_;clear hg)|fail)<;>conv=>whnf)
 all_goals try(exfalso;omega)
 generalize nn=n15 at *;replace hs:Sat Z [.box n15 [.l [] true,.l [] true,.l (iL (List.replicate p.AH.length (-1))) false],.box n9 [.l ((List.replicate p.Br.length IQ).map Ho) false,.l [] true,.l (iL (List.replicate p.AH.length (-1))) false],.box n7 [.l (iL ar) (!b),.b OM,.l (iL be) (!b),.l (iL pr) (!b),.b prt,.l (iL af) (!b)]]:=hs;refine B0 p.Br.length (fun k (_:V)=>[(69,eI (A8 k))]) (fun k v=>[.box n15 [v,.l [] true,.l (iL (List.replicate p.AH.length (-1))) false],.box n9 [.l ((List.replicate p.Br.length IQ).map Ho) false,.l [] true,.l (iL (List.replicate p.AH.length (-1))) false],.box n7 [.l (iL ar) (!b),.b OM,.l (iL be) (!b),.l (iL pr) (!b),.b prt,.l (iL af) (!b)],.own v 3 ((List.replicate k (⟨o,n,2⟩:XA)).map Ho)]) (fun _ _=>True) (.l [] true) rfl trivial (El hs 3) ?_;clear hs;rintro k3 v Z hk3 - hs;have hck3:A8 k3=k3:=AO (by omega);rcases BC p.Br hk3 with⟨y,hy,hlt3⟩|hke3
 .rw[Pa]
  have hzl:(List.replicate k3 (⟨o,n,2⟩:XA)).length<=8:=by rw[List.length_replicate];omega
  generalize List.replicate k3 (⟨o,n,2⟩:XA)=zs at *;have hll:zs.length<AY/\(zs.length+1)*24<=140737488355328:=by omega
  conv=>whnf
  repeat'((first|apply st|(refine JQ ?_;intro K U)|(apply si;intro A B hA hB)|(refine hA _ _ ?_;clear hB B hA A)|(apply U;clear U K)|refine⟨rfl,?_⟩|refine ld ?_|refine nt fun Z hs=>?_|(refine Uc (fun hc=>?_)<;>(try rw[hc])<;>clear hc)|refine aq (enc:=Ho) (x:=(⟨o,n,2⟩:XA)) (fun v Z hs hsl=>?_) (hg:=Vu)|refine JR ?_|clear U K)<;>conv=>whnf)
  exact⟨hlt3,v,rfl,trivial,hs⟩
 rw[hke3]at hs
 conv=>whnf
 repeat'((first|apply st|(refine JQ ?_;intro K U)|(apply si;intro A B hA hB)|(refine hA _ _ ?_;clear hB B hA A)|(apply U;clear U K)|refine⟨rfl,?_⟩|refine⟨kZ,?_⟩|refine ld ?_|(refine de (fun hc=>?_)<;>(try rw[hc])<;>clear hc)|refine JR ?_|clear U K)<;>conv=>whnf)
 all_goals try(exfalso;omega)
 have c5:=hline o n ho hn.1 hn.2;obtain⟨Z2,g1,g2,g3⟩:=IZ hs 3 rfl;cases b
 .replace c5:Pure zP 13 [.a (A9 p),.a (Mp (KT p o n)),.l (iL l) f] (.t [.l [] false,.b false,eI 5]):=c5
  refine A3.I4 (c5.use ?_) g1 (Mz g2);clear hs g1 g2;have hs:=g3;clear g3
  conv=>whnf
  repeat'((first|apply st|(refine JQ ?_;intro K U)|(apply si;intro A B hA hB)|(refine hA _ _ ?_;clear hB B hA A)|(apply U;clear U K)|refine⟨rfl,?_⟩|refine df ?_|refine Ox ?_|refine JR ?_|(constructor<;>intro hc<;>(try rw[hc])<;>(replace hc:=bp hc)<;>(try simp(disch:=omega) only[BU,wrap64,AO]at hc)<;>try(exfalso;omega))|clear U K)<;>conv=>whnf)
  all_goals first
   | exact⟨hlt2,(),rfl,trivial,hs.less (Mc _ _)⟩
   | (exfalso;omega)
   | (exfalso;simp at hc;done)
   | (exfalso;simp at hc;omega)
   | (exfalso;simp_all;done)
 have hp60:=hpr rfl;have c7:=gF pr (!true) (by omega);rcases ho with rfl|rfl
 .by_cases hcut:0<n/\n<(pr.length:Int)
  .skip
   have hlp:Dc ⟨1,n,2⟩ ⟨ar,OM,be,pr,prt,af⟩=((pr).take n.toNat,false):=by
    rw[Dc,show IY ⟨1,n,2⟩ ⟨ar,OM,be,pr,prt,af⟩=pr from rfl];exact if_pos hcut
   replace c5:Pure zP 13 [.a (A9 p),.a (Mp (KT p 1 n)),.l (iL l) f] (.t [.l (iL ((pr).take n.toNat)) false,.b false,eI 0]):=by have:=c5;simp only[if_true,hlp]at this;exact this
   obtain⟨hcu1,hcu2⟩:=hcut;have c6:=fun a b=>JU ((pr).take n.toNat) ((pr).take n.toNat) a b
   simp only[beq_self_eq_true]at c6;refine A3.I4 (c5.use ?_) g1 (Mz g2);clear hs g1 g2;have hs:=g3;clear g3
   conv=>whnf
   repeat'((first|apply st|(refine JQ ?_;intro K U)|(apply si;intro A B hA hB)|(refine hA _ _ ?_;clear hB B hA A)|(apply U;clear U K)|refine ld ?_|refine Ox ?_|refine JR ?_|fail)<;>conv=>whnf)
   refine c7.use (rest:=[_,_,_]) hs ?_;clear hs;rintro r post Z ⟨v2,rfl,rfl,hv⟩ hs
   conv=>whnf
   repeat'((first|(refine hA _ _ ?_;clear hB B hA A)|(apply U;clear U K)|fail)<;>conv=>whnf)
   refine Nv hs 0 rfl (fun Z2 h=> .cons (.refl _) (.cons (.refl _) (.cons (.refl _) (.cons (.refl _) (.cons (.refl _) (.cons (.refl _) (.cons (.refl _) (.cons (.refl _) (.cons (.refl _) (.cons (.refl _) (.cons (.refl _) (.cons h (.cons (.refl _) (.cons (.refl _) (.cons (.refl _) (.cons (.refl _) (.cons (.refl _) (.cons (.refl _) (.nil))))))))))))))))))) fun Z hs=>?_
   conv=>whnf
   repeat'((first|apply st|(refine JQ ?_;intro K U)|(apply si;intro A B hA hB)|(refine hA _ _ ?_;clear hB B hA A)|(apply U;clear U K)|refine⟨rfl,?_⟩|refine pH ?_|refine ld ?_|refine Ox ?_|refine Mq ?_|refine Pure.use (c6 _ _) ?_|refine JR ?_|(constructor<;>intro hc<;>(try rw[hc])<;>(replace hc:=bp hc)<;>(try simp(disch:=omega) only[BU,wrap64,AO]at hc)<;>try(exfalso;omega))|clear U K)<;>conv=>whnf)
   all_goals first
    | exact⟨hlt2,(),rfl,trivial,hs.less (Mc _ _)⟩
    | (exfalso;omega)
    | (exfalso;simp at hc;done)
    | (exfalso;simp at hc;omega)
    | (exfalso;simp_all;done)
  .skip
   have hlp:Dc ⟨1,n,2⟩ ⟨ar,OM,be,pr,prt,af⟩=(pr,prt):=by
    rw[Dc,show IY ⟨1,n,2⟩ ⟨ar,OM,be,pr,prt,af⟩=pr from rfl];exact if_neg hcut
   replace c5:Pure zP 13 [.a (A9 p),.a (Mp (KT p 1 n)),.l (iL l) f] (.t [.l (iL (pr)) false,.b prt,eI 0]):=by have:=c5;simp only[if_true,hlp]at this;exact this
   have c6:=fun a b=>JU (pr) (pr) a b
   simp only[beq_self_eq_true]at c6;refine A3.I4 (c5.use ?_) g1 (Mz g2);clear hs g1 g2;have hs:=g3;clear g3
   conv=>whnf
   repeat'((first|apply st|(refine JQ ?_;intro K U)|(apply si;intro A B hA hB)|(refine hA _ _ ?_;clear hB B hA A)|(apply U;clear U K)|refine ld ?_|refine Ox ?_|refine JR ?_|fail)<;>conv=>whnf)
   refine c7.use (rest:=[_,_,_]) hs ?_;clear hs;rintro r post Z ⟨v2,rfl,rfl,hv⟩ hs
   conv=>whnf
   repeat'((first|(refine hA _ _ ?_;clear hB B hA A)|(apply U;clear U K)|fail)<;>conv=>whnf)
   refine Nv hs 0 rfl (fun Z2 h=> .cons (.refl _) (.cons (.refl _) (.cons (.refl _) (.cons (.refl _) (.cons (.refl _) (.cons (.refl _) (.cons (.refl _) (.cons (.refl _) (.cons (.refl _) (.cons (.refl _) (.cons (.refl _) (.cons h (.cons (.refl _) (.cons (.refl _) (.cons (.refl _) (.cons (.refl _) (.cons (.refl _) (.cons (.refl _) (.nil))))))))))))))))))) fun Z hs=>?_
   conv=>whnf
   repeat'((first|apply st|(refine JQ ?_;intro K U)|(apply si;intro A B hA hB)|(refine hA _ _ ?_;clear hB B hA A)|(apply U;clear U K)|refine⟨rfl,?_⟩|refine ld ?_|refine Ox ?_|refine Mq ?_|refine Pure.use (c6 _ _) ?_|refine JR ?_|(constructor<;>intro hc<;>(try rw[hc])<;>(replace hc:=bp hc)<;>(try simp(disch:=omega) only[BU,wrap64,AO]at hc)<;>try(exfalso;omega))|clear U K)<;>conv=>whnf)
   all_goals first
    | exact⟨hlt2,(),rfl,trivial,hs.less (Mc _ _)⟩
    | (exfalso;omega)
    | (exfalso;simp at hc;done)
    | (exfalso;simp at hc;omega)
    | (exfalso;simp_all;done)
 cases prt
 .by_cases hcut:0<n/\n<(pr.reverse.length:Int)
  .skip
   have hlp:Dc ⟨2,n,2⟩ ⟨ar,OM,be,pr,false,af⟩=((pr.reverse).take n.toNat,false):=by
    rw[Dc,show IY ⟨2,n,2⟩ ⟨ar,OM,be,pr,false,af⟩=pr.reverse from rfl];exact if_pos hcut
   replace c5:Pure zP 13 [.a (A9 p),.a (Mp (KT p 2 n)),.l (iL l) f] (.t [.l (iL ((pr.reverse).take n.toNat)) false,.b false,eI 0]):=by have:=c5;simp only[if_true,hlp]at this;exact this
   obtain⟨hcu1,hcu2⟩:=hcut;have c6:=fun a b=>JU ((pr.reverse).take n.toNat) ((pr.reverse).take n.toNat) a b
   simp only[beq_self_eq_true]at c6;refine A3.I4 (c5.use ?_) g1 (Mz g2);clear hs g1 g2;have hs:=g3;clear g3
   conv=>whnf
   repeat'((first|apply st|(refine JQ ?_;intro K U)|(apply si;intro A B hA hB)|(refine hA _ _ ?_;clear hB B hA A)|(apply U;clear U K)|refine ld ?_|refine Ox ?_|refine JR ?_|fail)<;>conv=>whnf)
   refine c7.use (rest:=[_,_,_]) hs ?_;clear hs;rintro r post Z ⟨v2,rfl,rfl,hv⟩ hs
   conv=>whnf
   repeat'((first|apply st|(refine JQ ?_;intro K U)|(apply si;intro A B hA hB)|(refine hA _ _ ?_;clear hB B hA A)|(apply U;clear U K)|refine⟨rfl,?_⟩|refine JR ?_|(constructor<;>intro hc<;>(try rw[hc])<;>(replace hc:=bp hc)<;>(try simp(disch:=omega) only[BU,wrap64,AO]at hc)<;>try(exfalso;omega))|fail)<;>conv=>whnf)
   refine(FJ pr v2 (by omega) hv).use (rest:=[_,_,_]) hs ?_;clear hs;rintro r post Z ⟨rfl,rfl⟩ hs
   conv=>whnf
   repeat'((first|(refine hA _ _ ?_;clear hB B hA A)|(apply U;clear U K)|fail)<;>conv=>whnf)
   refine Nv hs 0 rfl (fun Z2 h=> .cons (.refl _) (.cons (.refl _) (.cons (.refl _) (.cons (.refl _) (.cons (.refl _) (.cons (.refl _) (.cons (.refl _) (.cons (.refl _) (.cons (.refl _) (.cons (.refl _) (.cons (.refl _) (.cons h (.cons (.refl _) (.cons (.refl _) (.cons (.refl _) (.cons (.refl _) (.cons (.refl _) (.cons (.refl _) (.nil))))))))))))))))))) fun Z hs=>?_
   conv=>whnf
   repeat'((first|apply st|(refine JQ ?_;intro K U)|(apply si;intro A B hA hB)|(refine hA _ _ ?_;clear hB B hA A)|(apply U;clear U K)|refine⟨rfl,?_⟩|refine pH ?_|refine ld ?_|refine Ox ?_|refine Mq ?_|refine Pure.use (c6 _ _) ?_|refine JR ?_|(constructor<;>intro hc<;>(try rw[hc])<;>(replace hc:=bp hc)<;>(try simp(disch:=omega) only[BU,wrap64,AO]at hc)<;>try(exfalso;omega))|clear U K)<;>conv=>whnf)
   all_goals first
    | exact⟨hlt2,(),rfl,trivial,hs.less (Mc _ _)⟩
    | (exfalso;omega)
    | (exfalso;simp at hc;done)
    | (exfalso;simp at hc;omega)
    | (exfalso;simp_all;done)
  .skip
   have hlp:Dc ⟨2,n,2⟩ ⟨ar,OM,be,pr,false,af⟩=(pr.reverse,false):=by
    rw[Dc,show IY ⟨2,n,2⟩ ⟨ar,OM,be,pr,false,af⟩=pr.reverse from rfl];exact if_neg hcut
   replace c5:Pure zP 13 [.a (A9 p),.a (Mp (KT p 2 n)),.l (iL l) f] (.t [.l (iL (pr.reverse)) false,.b false,eI 0]):=by have:=c5;simp only[if_true,hlp]at this;exact this
   have c6:=fun a b=>JU (pr.reverse) (pr.reverse) a b
   simp only[beq_self_eq_true]at c6;refine A3.I4 (c5.use ?_) g1 (Mz g2);clear hs g1 g2;have hs:=g3;clear g3
   conv=>whnf
   repeat'((first|apply st|(refine JQ ?_;intro K U)|(apply si;intro A B hA hB)|(refine hA _ _ ?_;clear hB B hA A)|(apply U;clear U K)|refine ld ?_|refine Ox ?_|refine JR ?_|fail)<;>conv=>whnf)
   refine c7.use (rest:=[_,_,_]) hs ?_;clear hs;rintro r post Z ⟨v2,rfl,rfl,hv⟩ hs
   conv=>whnf
   repeat'((first|apply st|(refine JQ ?_;intro K U)|(apply si;intro A B hA hB)|(refine hA _ _ ?_;clear hB B hA A)|(apply U;clear U K)|refine⟨rfl,?_⟩|refine JR ?_|(constructor<;>intro hc<;>(try rw[hc])<;>(replace hc:=bp hc)<;>(try simp(disch:=omega) only[BU,wrap64,AO]at hc)<;>try(exfalso;omega))|fail)<;>conv=>whnf)
   refine(FJ pr v2 (by omega) hv).use (rest:=[_,_,_]) hs ?_;clear hs;rintro r post Z ⟨rfl,rfl⟩ hs
   conv=>whnf
   repeat'((first|(refine hA _ _ ?_;clear hB B hA A)|(apply U;clear U K)|fail)<;>conv=>whnf)
   refine Nv hs 0 rfl (fun Z2 h=> .cons (.refl _) (.cons (.refl _) (.cons (.refl _) (.cons (.refl _) (.cons (.refl _) (.cons (.refl _) (.cons (.refl _) (.cons (.refl _) (.cons (.refl _) (.cons (.refl _) (.cons (.refl _) (.cons h (.cons (.refl _) (.cons (.refl _) (.cons (.refl _) (.cons (.refl _) (.cons (.refl _) (.cons (.refl _) (.nil))))))))))))))))))) fun Z hs=>?_
   conv=>whnf
   repeat'((first|apply st|(refine JQ ?_;intro K U)|(apply si;intro A B hA hB)|(refine hA _ _ ?_;clear hB B hA A)|(apply U;clear U K)|refine⟨rfl,?_⟩|refine ld ?_|refine Ox ?_|refine Mq ?_|refine Pure.use (c6 _ _) ?_|refine JR ?_|(constructor<;>intro hc<;>(try rw[hc])<;>(replace hc:=bp hc)<;>(try simp(disch:=omega) only[BU,wrap64,AO]at hc)<;>try(exfalso;omega))|clear U K)<;>conv=>whnf)
   all_goals first
    | exact⟨hlt2,(),rfl,trivial,hs.less (Mc _ _)⟩
    | (exfalso;omega)
    | (exfalso;simp at hc;done)
    | (exfalso;simp at hc;omega)
    | (exfalso;simp_all;done)
 .skip
  have hlp:Dc ⟨2,n,2⟩ ⟨ar,OM,be,pr,true,af⟩=(([]:List Int),true):=by
   rw[Dc,show IY ⟨2,n,2⟩ ⟨ar,OM,be,pr,true,af⟩=([]:List Int) from rfl];exact if_neg (by simp;omega)
  replace c5:Pure zP 13 [.a (A9 p),.a (Mp (KT p 2 n)),.l (iL l) f] (.t [.l (iL (([]:List Int))) false,.b true,eI 0]):=by have:=c5;simp only[if_true,hlp]at this;exact this
  have c6:=fun a b=>JU (([]:List Int)) (([]:List Int)) a b
  simp only[beq_self_eq_true]at c6;have hz0:((([]:List (List V)).length:Nat):Int)=0:=rfl;refine A3.I4 (c5.use ?_) g1 (Mz g2);clear hs g1 g2;have hs:=g3;clear g3
  conv=>whnf
  repeat'((first|apply st|(refine JQ ?_;intro K U)|(apply si;intro A B hA hB)|(refine hA _ _ ?_;clear hB B hA A)|(apply U;clear U K)|refine ld ?_|refine Ox ?_|refine JR ?_|fail)<;>conv=>whnf)
  refine c7.use (rest:=[_,_,_]) hs ?_;clear hs;rintro r post Z ⟨v2,rfl,rfl,hv⟩ hs
  conv=>whnf
  repeat'((first|apply st|(refine JQ ?_;intro K U)|(apply si;intro A B hA hB)|(refine hA _ _ ?_;clear hB B hA A)|(apply U;clear U K)|refine⟨rfl,?_⟩|refine JR ?_|(constructor<;>intro hc<;>(try rw[hc])<;>(replace hc:=bp hc)<;>(try simp(disch:=omega) only[BU,wrap64,AO]at hc)<;>try(exfalso;omega))|fail)<;>conv=>whnf)
  refine(FJ pr v2 (by omega) hv).use (rest:=[_,_,_]) hs ?_;clear hs;rintro r post Z ⟨rfl,rfl⟩ hs
  conv=>whnf
  repeat'((first|apply st|(refine JQ ?_;intro K U)|(apply si;intro A B hA hB)|(refine hA _ _ ?_;clear hB B hA A)|(apply U;clear U K)|refine⟨rfl,?_⟩|refine ld ?_|refine Ox ?_|refine Mq ?_|refine Pure.use (c6 _ _) ?_|refine JR ?_|(constructor<;>intro hc<;>(try rw[hc])<;>(replace hc:=bp hc)<;>(try simp(disch:=omega) only[BU,wrap64,AO]at hc)<;>try(exfalso;omega))|clear U K)<;>conv=>whnf)
  all_goals first
   | exact⟨hlt2,(),rfl,trivial,hs.less (.cons _ (.cons _ (List.Sublist.refl _)))⟩
   | (exfalso;omega)
   | (exfalso;simp at hc;done)
   | (exfalso;simp at hc;omega)
   | (exfalso;simp_all;done)
end Go.Gl
namespace Go.Gl
variable {P:Program} {F:Nat->Prop} {Z:AE} {pu:List FuncId} {fz:List Nat}
def YY {f:FuncId} {fn:Func} {ac:AV} (hf:P.funcs[f]? =some fn) (hok:okF P f=true) (hb:fn.body.bind (res P fn.ntmps pu fz)=some (erase ac)) (hr:fn.results= #[])
    {args:List V} (hn:args.length<=fn.ntmps) {Z:AE} {Q:AE->Prop} (h:T P ac (Ms Q) (A2 0 args) Z):Gs P f args none Z Q:=by
 refine⟨hok,fun F w cs u hR hv hu=>?_⟩;simp only at hu;subst hu;obtain⟨c,hc,hb⟩:=Option.bind_eq_some_iff.1 hb
 have he:CD (Hh F Z w) (A2 0 args) (cs++Array.replicate (fn.ntmps - cs.size) undef):=by
  intro k v hg;obtain⟨_,h2⟩:=FO args 0 k v hg;simp only[Nat.sub_zero]at h2;obtain⟨d,h3,h4⟩:=BW.1 hv.2 k v h2;simp only[Gj]at h3;refine⟨d,?_,h4⟩;rw[Array.getElem?_append_left (by have:=(nq.1 h3).1;exact this)];exact h3
 have hsz0:(cs++Array.replicate (fn.ntmps - cs.size) undef).size=fn.ntmps:=by
  simp only[Array.size_append,Array.size_replicate];have:=hv.1;omega
 have hW:=EF (r:=none) (a:={tmps:=cs++Array.replicate (fn.ntmps - cs.size) undef,defers:=[]}) hb h he hR hsz0 Co.none;refine⟨trivial,fun c₀ fs hu0 hroom=>?_⟩
 let b:Frame:={(default:Frame)with fn:=f,kind:= .deferred,roundOf:=none}
 have henter:Frame.enter P f cs .deferred=b.atR {tmps:=cs++Array.replicate (fn.ntmps - cs.size) undef,defers:=[]} [.code c]:=by
  simp[Frame.enter,Frame.atR,hf,hc,b]
 have hcm:({c₀ with mode:= .returning}:Frame)=c₀:=by cases c₀;simp_all
 have hres0: ∀(tm:Array Value) (w:World),(results fn tm).run P w= .ok (.tuple #[]) w:=fun tm w=>by
  rw[H9,hr];simp
 have out: ∀(m0:Machine) (a2:Act) (w2:World) (todo:List Item) (Z2:AE),StepsIn (Machine.fenced P (wide none)) P m0 (lone {b.atR a2 todo with mode:= .returning} (c₀::fs) w2)->Q Z2->Rel F Z2 w2->Bu F Z w Z2 w2->
  Marks none w Z2 w2 [] a2.defers-> ∃e u'' w' fr,((∃v,e=Ending.returned v)/\settle u''= .returning/\ ∃Z',Q Z'/\Rel F Z' w'/\Bu F Z w Z' w')/\
   ComesIn (Machine.fenced P (wide none)) P m0 (lone fr ({c₀ with mode:=u''}::fs) w') e/\fr.kind= .deferred/\fr.fn=f/\fr.going P w' e:=fun m0 a2 w2 todo Z2 hs hq hR2 hA2 ⟨ms,hms,hnd,hD,_⟩=>by
  obtain⟨w',q1,q2,q3⟩:=XP (P:=P) (cs:=c₀::fs) ms {b.atR a2 todo with mode:= .returning} w2 hnd hD (by simp) (by simpa[Frame.atR]using hms) hR2 hA2;exact⟨.returned (.tuple #[]),.returning,w',_,⟨⟨_,rfl⟩,rfl,Z2,hq,q2,q3⟩,(by rw[hcm];exact hs.trans q1),rfl,rfl,rfl,rfl,fn,hf,hres0 _ _⟩
 obtain⟨e,a2,w2,hq,harr⟩:=hW b [] (c₀::fs) rfl ⟨fn,hf⟩;rw[henter];obtain⟨ex,env,Z2,hq,hx,he2,hR2,hA2,hN2,hM2⟩:=hq;cases ex with
 | exit id=>exact hq.elim
 | Bb v=>exact hq.elim
 | normal=>
   simp only[DX]at hx;subst hx;exact out _ a2 w2 [] Z2 (StepsIn.trans harr (.one (FZ rfl) (stepR_end rfl))) hq hR2 hA2 hM2
 | ret=>
   simp only[DX]at hx;subst hx;obtain⟨todo,hs⟩:=harr.1 rfl;exact out _ a2 w2 todo Z2 hs hq hR2 hA2 hM2
end Go.Gl
