import Derived.Test.YtcfkfhaedllcpaaGreatV24
import Derived.Test.YtcfkfhaedllcpaaGreatV26
import Derived.Test.YtcfkfhaedllcpaaGreatV32
import Derived.Test.YtcfkfhaedllcpaaGreatV33
import Derived.Test.YtcfkfhaedllcpaaGreatV34
import Derived.Test.YtcfkfhaedllcpaaGreatV35
set_option linter.all false
set_option linter.defProp false
set_option maxHeartbeats 8000000
noncomputable section
namespace Go.Gl
open Go.Proofs
def Mi {b sz:Nat} {Z:AE} {es:List (List V)} {f:Bool} {K:V->AE->Prop} (h:AI b Z sz (.l [] true) (.l es f) fun v' Z'=>((Bg v').isSome=true\/(v'= .l [] true/\es= []))->K v' Z'):AI b Z sz (.l [] true) (.l es f) K:=by
 obtain⟨h1,h2,h3⟩:=h;exact⟨h1,h2,h3.1,h3.2.1,fun e=>h3.2.2.1 e (.inr ⟨rfl,e⟩),fun e=>⟨(h3.2.2.2 e).1,fun n cap hn hc=>(h3.2.2.2 e).2 n cap hn hc (.inl rfl)⟩⟩
attribute [local irreducible] A6 Ar Ah AR AI Ae AQ AT AK Ad AN AO Ay A7 Sat AY A5 Ai W
attribute [local irreducible] Fz
def wX (xs:List Int) (f:Bool) (hxl:xs.length<=1000):Be zP 25 [.l (iL xs) f] [] fun r post=> ∃v,r= .ret v/\post= [.own v 1 (iL xs)]/\((Bg v).isSome=true\/(v= .l [] true/\xs= [])):=by
 intro Z hs;have hM:=Mx;refine fe kZ ?_
 conv=>whnf
 repeat'((first|(apply sq;intro K U)|(apply si;intro A B hA hB)|(refine hA _ _ ?_;clear hB B hA A)|(apply U;clear U K)|fail)<;>conv=>whnf)
 refine⟨fun e t=>?_,fun _=>?_⟩
 .have hx:xs= []:=List.map_eq_nil_iff.1 e
  subst hx
  conv=>whnf
  repeat'((first|apply st|(apply sq;intro K U)|(apply si;intro A B hA hB)|(refine hA _ _ ?_;clear hB B hA A)|(apply U;clear U K)|(constructor<;>intro hc<;>(try rw[hc])<;>(replace hc:=bp hc))|clear U K)<;>conv=>whnf)
  .exact Am (Ci hs 1) (.cons₂ _ (Jm _)) (.refl _) fun Z' hs'=>⟨_,⟨_,rfl,rfl,.inr ⟨rfl,rfl⟩⟩,hs'⟩
  .replace hs:=Ci hs 1
   refine Mi (GP hs 0 (xs:=[]) (ys:=[]) rfl (by simp) Bc fun v Z hs hv=>?_);have hv:(Bg v).isSome=true\/(v= .l [] true/\([]:List Int)= []):=by simpa using hv
   conv=>whnf
   repeat'((first|apply st|(refine hA _ _ ?_;clear hB B hA A)|(apply U;clear U K)|fail)<;>conv=>whnf)
   exact Am hs (.cons₂ _ (Jm _)) (.refl _) fun Z' hs'=>⟨_,⟨v,rfl,rfl,hv⟩,hs'⟩
 .conv=>whnf
  repeat'((first|apply st|(apply sq;intro K U)|(apply si;intro A B hA hB)|(refine hA _ _ ?_;clear hB B hA A)|(apply U;clear U K)|fail)<;>conv=>whnf)
  replace hs:=Ci hs 1;refine Mi (GP hs 0 (xs:=[]) (ys:=xs) rfl (by simp;omega) Bc fun v Z hs hv=>?_);have hv:(Bg v).isSome=true\/(v= .l [] true/\xs= []):=by simpa using hv
  conv=>whnf
  repeat'((first|apply st|(refine hA _ _ ?_;clear hB B hA A)|(apply U;clear U K)|fail)<;>conv=>whnf)
  exact Am hs (.cons₂ _ (Jm _)) (.refl _) fun Z' hs'=>⟨_,⟨v,rfl,rfl,hv⟩,hs'⟩
abbrev plW (x:Pl) (a b c d:Bool):List V:=[.l (iL x.ar) a,.b x.bT,.l (iL x.be) b,.l (iL x.pr) c,.b x.prt,.l (iL x.af) d]
def Fs {xs:List Int} {b:Bool} {t:Bool} {Z:AE}:FD Z emp (.t [.l (iL xs) b,.b t]) (.t [.l (iL xs) false,.b t]):= .t (.cons (.l (fun h=>by cases h) (.refl _ _ _)) (.cons (.refl _) .nil))
def sH (c:ec) (x:Pl) (a b d e:Bool) (hx:x.pr.length<=60):Pure zP 50 [.a (Ta c),.a (plW x a b d e)] (.t [.l (iL (Ee c x).1) false,.b (Ee c x).2]):=by
 have hM:=Mx;by_cases h2:c.ord=2
 rotate_left
 .have hL:Ir c x=x.pr:=by rw[Ir,if_neg h2]
  have e0:((iL x.pr).length:Int)=x.pr.length:=by simp
  rw[Ee,hL];by_cases hc:0<c.pick/\c.pick<(x.pr.length:Int)
  .rw[if_pos hc]
   obtain⟨hc1,hc2⟩:=hc;refine Va kZ ?_;have hs:=Sn
   conv=>whnf
   repeat'((first|apply st|(apply sq;intro K U)|(apply si;intro A B hA hB)|(refine hA _ _ ?_;clear hB B hA A)|(apply U;clear U K)|refine⟨rfl,?_⟩|refine lI ?_|(constructor<;>intro hc<;>(try rw[hc])<;>(replace hc:=bp hc)<;>(try simp(disch:=omega) only[BL,wrap64,AM]at hc)<;>try(exfalso;omega))|clear U K)<;>conv=>whnf)
   all_goals first
    | (exfalso;omega)
    | (exfalso;simp_all;omega)
    | exact Ab Fs
  .rw[if_neg hc]
   refine Va kZ ?_;have hs:=Sn
   conv=>whnf
   repeat'((first|apply st|(apply sq;intro K U)|(apply si;intro A B hA hB)|(refine hA _ _ ?_;clear hB B hA A)|(apply U;clear U K)|apply dr|refine⟨rfl,?_⟩|(constructor<;>intro hc<;>(try rw[hc])<;>(replace hc:=bp hc)<;>(try simp(disch:=omega) only[BL,wrap64,AM]at hc)<;>try(exfalso;omega))|fail)<;>conv=>whnf)
   all_goals first
    | (exfalso;omega)
    | (exfalso;simp_all;omega)
    | exact Ab Fs
 obtain⟨co,pick,fold⟩:=c;obtain⟨ar,bT,be,pr,prt,af⟩:=x;dsimp only at h2 hx;subst h2;show Pure zP 50 [.a [eI 2,eI pick,eI fold],.a [.l (iL ar) a,.b bT,.l (iL be) b,.l (iL pr) d,.b prt,.l (iL af) e]] _;have e3:pr.reverse.length=pr.length:=List.length_reverse;cases prt
 rotate_left
 .have hL:Ee ⟨2,pick,fold⟩ ⟨ar,bT,be,pr,true,af⟩=([],true):=by
   simp only[Ee,Ir,if_true];rw[if_neg (by simp;omega)]
  rw[hL];refine Va kZ ?_;have hs:=Sn
  conv=>whnf
  repeat'((first|apply st|(apply sq;intro K U)|(apply si;intro A B hA hB)|(refine hA _ _ ?_;clear hB B hA A)|(apply U;clear U K)|refine⟨rfl,?_⟩|(constructor<;>intro hc<;>(try rw[hc])<;>(replace hc:=bp hc)<;>(try simp(disch:=omega) only[BL,wrap64,AM]at hc)<;>try(exfalso;omega))|fail)<;>conv=>whnf)
  refine DF (fun _:Unit=>0) (fun _=>[]) (fun _=>[]) (fun _=>True) () rfl trivial Sat.nil ?_;clear hs;rintro - Z - hs
  conv=>whnf
  repeat'((first|apply st|(apply sq;intro K U)|(apply si;intro A B hA hB)|(refine hA _ _ ?_;clear hB B hA A)|(apply U;clear U K)|apply dr|refine⟨rfl,?_⟩|refine Rp ?_|(constructor<;>intro hc<;>(try rw[hc])<;>(replace hc:=bp hc)<;>(try simp(disch:=omega) only[BL,wrap64,AM]at hc))|clear U K)<;>conv=>whnf)
  all_goals first
   | (exfalso;omega)
   | (exfalso;simp_all;omega)
   | exact Ab (.t (.cons (.l (fun h=>by cases h) .nil) (.cons (.refl _) .nil)))
 have e1:((iL pr.reverse).length:Int)=pr.length:=by simp
 have e2:((iL pr).length:Int)=pr.length:=by simp
 have hwl:IntKind.i64.wrap ((iL pr).length - 1)=(pr.length:Int) - 1:=by rw[e2,wrap64 (by omega) (by omega)]
 by_cases hc:0<pick/\pick<(pr.length:Int)
 .have hL:Ee ⟨2,pick,fold⟩ ⟨ar,bT,be,pr,false,af⟩=(pr.reverse.take pick.toNat,false):=by
   simp only[Ee,Ir,if_true,KQ,if_false,List.length_reverse];rw[if_pos hc]
  obtain⟨hc1,hc2⟩:=hc;rw[hL];refine Va kZ ?_;have hs:=Sn
  conv=>whnf
  repeat'((first|apply st|(refine RM ?_;intro K U)|(apply si;intro A B hA hB)|(refine hA _ _ ?_;clear hB B hA A)|(apply U;clear U K)|refine⟨rfl,?_⟩|refine TK ?_|(constructor<;>intro hc<;>(try rw[hc])<;>(replace hc:=bp hc)<;>(try simp(disch:=omega) only[BL,wrap64,AM]at hc)<;>try(exfalso;omega))|fail)<;>conv=>whnf)
  refine DF (fun x:Int×V=>(x.1+1).toNat) (fun x=>[(7,x.2),(8,eI x.1)]) (fun x=>[.own x.2 1 (iL ((pr.drop (x.1+1).toNat).reverse))]) (fun x=> -1<=x.1/\x.1<pr.length) (IntKind.i64.wrap ((iL pr).length - 1),.l [] true) rfl ?_ ?_ ?_
  .dsimp only
   rw[hwl];exact⟨by omega,by omega⟩
  .dsimp only
   rw[hwl,List.drop_of_length_le (by omega)];exact FA hs 1
  clear hs hwl;rintro⟨i,v⟩ Z ⟨hi1,hi2⟩ hs;dsimp only at hi1 hi2 hs;dsimp only;by_cases hneg:i<0
  .obtain rfl:i= -1:=by omega
   rw[show((-1:Int)+1).toNat=0 from rfl,List.drop_zero]at hs
   conv=>whnf
   repeat'((first|apply st|(refine RM ?_;intro K U)|(apply si;intro A B hA hB)|(refine hA _ _ ?_;clear hB B hA A)|(apply U;clear U K)|refine⟨rfl,?_⟩|(constructor<;>intro hc<;>(try rw[hc])<;>(replace hc:=bp hc)<;>try(exfalso;omega))|fail)<;>conv=>whnf)
   refine Rx hs 0 rfl (fun Z2 h=> .cons (.refl _) (.cons (.refl _) (.cons (.refl _) (.cons h (.cons (.refl _) (.cons (.refl _) .nil)))))) fun Z hs=>?_
   conv=>whnf
   repeat'((first|apply st|(refine RM ?_;intro K U)|(apply si;intro A B hA hB)|(refine hA _ _ ?_;clear hB B hA A)|(apply U;clear U K)|refine⟨rfl,?_⟩|refine lI ?_|refine TK ?_|(constructor<;>intro hc<;>(try rw[hc])<;>(replace hc:=bp hc)<;>(try simp(disch:=omega) only[BL,wrap64,AM]at hc)<;>try(exfalso;omega))|clear U K)<;>conv=>whnf)
   all_goals first
    | (exfalso;omega)
    | exact Ab Fs
  .have hpos:0<=i:=by omega
   obtain⟨x,hx⟩: ∃x,pr[i.toNat]? =some x:=⟨_,Cw (by omega)⟩
   have hd:(pr.drop i.toNat).reverse=(pr.drop (i+1).toNat).reverse++[x]:=by
    rw[drop_cons hx,List.reverse_cons,show(i+1).toNat=i.toNat+1 by omega]
   have hdl:((pr.drop (i+1).toNat).reverse).length<=60:=by
    rw[List.length_reverse,lH];omega
   generalize (pr.drop (i+1).toNat).reverse=zs at *;have hll:zs.length<AX/\(zs.length+1)*8<=140737488355328:=by omega
   have hwi:IntKind.i64.wrap (i - 1)=i - 1:=wrap64 (by omega) (by omega)
   conv=>whnf
   repeat'((first|apply st|(refine RM ?_;intro K U)|(apply si;intro A B hA hB)|(refine hA _ _ ?_;clear hB B hA A)|(apply U;clear U K)|refine⟨rfl,?_⟩|refine Y7 ?_|refine aq fun v Z hs hsl=>?_|refine Uy ?_|refine TK ?_|(constructor<;>intro hc<;>(try rw[hc])<;>(replace hc:=bp hc)<;>try(exfalso;omega))|clear U K)<;>conv=>whnf)
   refine⟨(i - 1,v),by dsimp only;omega,by rw[hwi];rfl,⟨by dsimp only;omega,by dsimp only;omega⟩,?_⟩;dsimp only;rw[show(i - 1+1).toNat=i.toNat by omega,hd];exact hs
 .have hL:Ee ⟨2,pick,fold⟩ ⟨ar,bT,be,pr,false,af⟩=(pr.reverse,false):=by
   simp only[Ee,Ir,if_true,KQ,if_false,List.length_reverse];rw[if_neg hc]
  rw[hL];refine Va kZ ?_;have hs:=Sn
  conv=>whnf
  repeat'((first|apply st|(refine RM ?_;intro K U)|(apply si;intro A B hA hB)|(refine hA _ _ ?_;clear hB B hA A)|(apply U;clear U K)|refine⟨rfl,?_⟩|refine TK ?_|(constructor<;>intro hc<;>(try rw[hc])<;>(replace hc:=bp hc)<;>(try simp(disch:=omega) only[BL,wrap64,AM]at hc)<;>try(exfalso;omega))|fail)<;>conv=>whnf)
  refine DF (fun x:Int×V=>(x.1+1).toNat) (fun x=>[(7,x.2),(8,eI x.1)]) (fun x=>[.own x.2 1 (iL ((pr.drop (x.1+1).toNat).reverse))]) (fun x=> -1<=x.1/\x.1<pr.length) (IntKind.i64.wrap ((iL pr).length - 1),.l [] true) rfl ?_ ?_ ?_
  .dsimp only
   rw[hwl];exact⟨by omega,by omega⟩
  .dsimp only
   rw[hwl,List.drop_of_length_le (by omega)];exact FA hs 1
  clear hs hwl;rintro⟨i,v⟩ Z ⟨hi1,hi2⟩ hs;dsimp only at hi1 hi2 hs;dsimp only;by_cases hneg:i<0
  .obtain rfl:i= -1:=by omega
   rw[show((-1:Int)+1).toNat=0 from rfl,List.drop_zero]at hs
   conv=>whnf
   repeat'((first|apply st|(refine RM ?_;intro K U)|(apply si;intro A B hA hB)|(refine hA _ _ ?_;clear hB B hA A)|(apply U;clear U K)|refine⟨rfl,?_⟩|(constructor<;>intro hc<;>(try rw[hc])<;>(replace hc:=bp hc)<;>try(exfalso;omega))|fail)<;>conv=>whnf)
   refine Rx hs 0 rfl (fun Z2 h=> .cons (.refl _) (.cons (.refl _) (.cons (.refl _) (.cons h (.cons (.refl _) (.cons (.refl _) .nil)))))) fun Z hs=>?_
   conv=>whnf
   repeat'((first|apply st|(refine RM ?_;intro K U)|(apply si;intro A B hA hB)|(refine hA _ _ ?_;clear hB B hA A)|(apply U;clear U K)|apply dr|refine⟨rfl,?_⟩|refine TK ?_|(constructor<;>intro hc<;>(try rw[hc])<;>(replace hc:=bp hc)<;>(try simp(disch:=omega) only[BL,wrap64,AM]at hc)<;>try(exfalso;omega))|clear U K)<;>conv=>whnf)
   all_goals first
    | (exfalso;omega)
    | exact Ab Fs
  .have hpos:0<=i:=by omega
   obtain⟨x,hx⟩: ∃x,pr[i.toNat]? =some x:=⟨_,Cw (by omega)⟩
   have hd:(pr.drop i.toNat).reverse=(pr.drop (i+1).toNat).reverse++[x]:=by
    rw[drop_cons hx,List.reverse_cons,show(i+1).toNat=i.toNat+1 by omega]
   have hdl:((pr.drop (i+1).toNat).reverse).length<=60:=by
    rw[List.length_reverse,lH];omega
   generalize (pr.drop (i+1).toNat).reverse=zs at *;have hll:zs.length<AX/\(zs.length+1)*8<=140737488355328:=by omega
   have hwi:IntKind.i64.wrap (i - 1)=i - 1:=wrap64 (by omega) (by omega)
   conv=>whnf
   repeat'((first|apply st|(refine RM ?_;intro K U)|(apply si;intro A B hA hB)|(refine hA _ _ ?_;clear hB B hA A)|(apply U;clear U K)|refine⟨rfl,?_⟩|refine Y7 ?_|refine aq fun v Z hs hsl=>?_|refine Uy ?_|refine TK ?_|(constructor<;>intro hc<;>(try rw[hc])<;>(replace hc:=bp hc)<;>try(exfalso;omega))|clear U K)<;>conv=>whnf)
   refine⟨(i - 1,v),by dsimp only;omega,by rw[hwi];rfl,⟨by dsimp only;omega,by dsimp only;omega⟩,?_⟩;dsimp only;rw[show(i - 1+1).toNat=i.toNat by omega,hd];exact hs
def yO (c:ec) (x:Pl) (a b d e:Bool) (hx:x.pr.length<=60):Pure zP 48 [.a (Ta c),.a (plW x a b d e)] (.t [.l (iL (Ee c x).1) false,.b (Ee c x).2]):=by
 have hM:=Mx;obtain⟨co,pick,fold⟩:=c;obtain⟨ar,bT,be,pr,prt,af⟩:=x;dsimp only at hx;show Pure zP 48 [.a [eI co,eI pick,eI fold],.a [.l (iL ar) a,.b bT,.l (iL be) b,.l (iL pr) d,.b prt,.l (iL af) e]] _;have e3:pr.reverse.length=pr.length:=List.length_reverse;have c1:=wX pr d (by omega);have e1:((iL pr.reverse).length:Int)=pr.length:=by simp
 have e2:((iL pr).length:Int)=pr.length:=by simp
 by_cases h2:co=2
 rotate_left
 .have hL:Ee ⟨co,pick,fold⟩ ⟨ar,bT,be,pr,prt,af⟩=if 0<pick/\pick<(pr.length:Int)then(pr.take pick.toNat,false)else(pr,prt):=by
   simp only[Ee,Ir,if_neg h2]
  rw[hL];by_cases hc:0<pick/\pick<(pr.length:Int)
  .rw[if_pos hc]
   obtain⟨hc1,hc2⟩:=hc;refine Vb kZ ?_;have hs:=Sn
   conv=>whnf
   repeat'((first|apply st|(refine RM ?_;intro K U)|(apply si;intro A B hA hB)|(refine hA _ _ ?_;clear hB B hA A)|(apply U;clear U K)|refine TK ?_|fail)<;>conv=>whnf)
   refine c1.use (rest:=[]) (by simpa using hs) ?_;clear hs;rintro r post Z ⟨v,rfl,rfl,hv⟩ hs
   conv=>whnf
   repeat'((first|(refine hA _ _ ?_;clear hB B hA A)|(apply U;clear U K)|fail)<;>conv=>whnf)
   refine Rx hs 0 rfl (fun Z2 h=> .cons (.refl _) (.cons (.refl _) (.cons h .nil))) fun Z hs=>?_
   conv=>whnf
   repeat'((first|apply st|(refine RM ?_;intro K U)|(apply si;intro A B hA hB)|(refine hA _ _ ?_;clear hB B hA A)|(apply U;clear U K)|refine⟨rfl,?_⟩|refine lI ?_|refine TK ?_|(constructor<;>intro hc<;>(try rw[hc])<;>(replace hc:=bp hc)<;>(try simp(disch:=omega) only[BL,wrap64,AM]at hc)<;>try(exfalso;omega))|clear U K)<;>conv=>whnf)
   all_goals first
    | (exfalso;omega)
    | (exfalso;simp_all;omega)
    | exact Ab Fs
  .rw[if_neg hc]
   refine Vb kZ ?_;have hs:=Sn
   conv=>whnf
   repeat'((first|apply st|(refine RM ?_;intro K U)|(apply si;intro A B hA hB)|(refine hA _ _ ?_;clear hB B hA A)|(apply U;clear U K)|refine TK ?_|fail)<;>conv=>whnf)
   refine c1.use (rest:=[]) (by simpa using hs) ?_;clear hs;rintro r post Z ⟨v,rfl,rfl,hv⟩ hs
   conv=>whnf
   repeat'((first|(refine hA _ _ ?_;clear hB B hA A)|(apply U;clear U K)|fail)<;>conv=>whnf)
   refine Rx hs 0 rfl (fun Z2 h=> .cons (.refl _) (.cons (.refl _) (.cons h .nil))) fun Z hs=>?_
   conv=>whnf
   repeat'((first|apply st|(refine RM ?_;intro K U)|(apply si;intro A B hA hB)|(refine hA _ _ ?_;clear hB B hA A)|(apply U;clear U K)|apply dr|refine⟨rfl,?_⟩|refine TK ?_|(constructor<;>intro hc<;>(try rw[hc])<;>(replace hc:=bp hc)<;>(try simp(disch:=omega) only[BL,wrap64,AM]at hc)<;>try(exfalso;omega))|fail)<;>conv=>whnf)
   all_goals first
    | (exfalso;omega)
    | (exfalso;simp_all;omega)
    | exact Ab Fs
 subst h2;cases prt
 rotate_left
 .have hL:Ee ⟨2,pick,fold⟩ ⟨ar,bT,be,pr,true,af⟩=([],true):=by
   simp only[Ee,Ir,if_true];rw[if_neg (by simp;omega)]
  rw[hL];refine Vb kZ ?_;have hs:=Sn
  conv=>whnf
  repeat'((first|apply st|(refine RM ?_;intro K U)|(apply si;intro A B hA hB)|(refine hA _ _ ?_;clear hB B hA A)|(apply U;clear U K)|refine TK ?_|fail)<;>conv=>whnf)
  refine c1.use (rest:=[]) (by simpa using hs) ?_;clear hs;rintro r post Z ⟨v,rfl,rfl,hv⟩ hs
  conv=>whnf
  repeat'((first|apply st|(refine RM ?_;intro K U)|(apply si;intro A B hA hB)|(refine hA _ _ ?_;clear hB B hA A)|(apply U;clear U K)|refine⟨rfl,?_⟩|refine TK ?_|(constructor<;>intro hc<;>(try rw[hc])<;>(replace hc:=bp hc)<;>(try simp(disch:=omega) only[BL,wrap64,AM]at hc)<;>try(exfalso;omega))|fail)<;>conv=>whnf)
  refine(J7 [] (.l [] true) (by simp) (.inr ⟨rfl,rfl⟩)).use (rest:=[]) (Ci Sat.nil 1) ?_;clear hs;rintro r post Z ⟨rfl,rfl⟩ hs
  conv=>whnf
  repeat'((first|apply st|(refine RM ?_;intro K U)|(apply si;intro A B hA hB)|(refine hA _ _ ?_;clear hB B hA A)|(apply U;clear U K)|apply dr|refine⟨rfl,?_⟩|refine TK ?_|(constructor<;>intro hc<;>(try rw[hc])<;>(replace hc:=bp hc))|fail)<;>conv=>whnf)
  all_goals first
   | (exfalso;omega)
   | (exfalso;simp_all;omega)
   | exact Ab (.t (.cons (.l (fun h=>by cases h) .nil) (.cons (.refl _) .nil)))
 by_cases hc:0<pick/\pick<(pr.length:Int)
 .have hL:Ee ⟨2,pick,fold⟩ ⟨ar,bT,be,pr,false,af⟩=(pr.reverse.take pick.toNat,false):=by
   simp only[Ee,Ir,if_true,KQ,if_false,List.length_reverse];rw[if_pos hc]
  obtain⟨hc1,hc2⟩:=hc;rw[hL];refine Vb kZ ?_;have hs:=Sn
  conv=>whnf
  repeat'((first|apply st|(refine RM ?_;intro K U)|(apply si;intro A B hA hB)|(refine hA _ _ ?_;clear hB B hA A)|(apply U;clear U K)|refine TK ?_|fail)<;>conv=>whnf)
  refine c1.use (rest:=[]) (by simpa using hs) ?_;clear hs;rintro r post Z ⟨v,rfl,rfl,hv⟩ hs
  conv=>whnf
  repeat'((first|apply st|(refine RM ?_;intro K U)|(apply si;intro A B hA hB)|(refine hA _ _ ?_;clear hB B hA A)|(apply U;clear U K)|refine⟨rfl,?_⟩|refine TK ?_|(constructor<;>intro hc<;>(try rw[hc])<;>(replace hc:=bp hc)<;>(try simp(disch:=omega) only[BL,wrap64,AM]at hc)<;>try(exfalso;omega))|fail)<;>conv=>whnf)
  refine(J7 pr v (by omega) hv).use (rest:=[]) hs ?_;clear hs;rintro r post Z ⟨rfl,rfl⟩ hs
  conv=>whnf
  repeat'((first|(refine hA _ _ ?_;clear hB B hA A)|(apply U;clear U K)|fail)<;>conv=>whnf)
  refine Rx hs 0 rfl (fun Z2 h=> .cons (.refl _) (.cons (.refl _) (.cons h .nil))) fun Z hs=>?_
  conv=>whnf
  repeat'((first|apply st|(refine RM ?_;intro K U)|(apply si;intro A B hA hB)|(refine hA _ _ ?_;clear hB B hA A)|(apply U;clear U K)|refine⟨rfl,?_⟩|refine lI ?_|refine TK ?_|(constructor<;>intro hc<;>(try rw[hc])<;>(replace hc:=bp hc)<;>(try simp(disch:=omega) only[BL,wrap64,AM]at hc)<;>try(exfalso;omega))|clear U K)<;>conv=>whnf)
  all_goals first
   | (exfalso;omega)
   | (exfalso;simp_all;omega)
   | exact Ab Fs
 .have hL:Ee ⟨2,pick,fold⟩ ⟨ar,bT,be,pr,false,af⟩=(pr.reverse,false):=by
   simp only[Ee,Ir,if_true,KQ,if_false,List.length_reverse];rw[if_neg hc]
  rw[hL];refine Vb kZ ?_;have hs:=Sn
  conv=>whnf
  repeat'((first|apply st|(refine RM ?_;intro K U)|(apply si;intro A B hA hB)|(refine hA _ _ ?_;clear hB B hA A)|(apply U;clear U K)|refine TK ?_|fail)<;>conv=>whnf)
  refine c1.use (rest:=[]) (by simpa using hs) ?_;clear hs;rintro r post Z ⟨v,rfl,rfl,hv⟩ hs
  conv=>whnf
  repeat'((first|apply st|(refine RM ?_;intro K U)|(apply si;intro A B hA hB)|(refine hA _ _ ?_;clear hB B hA A)|(apply U;clear U K)|refine⟨rfl,?_⟩|refine TK ?_|(constructor<;>intro hc<;>(try rw[hc])<;>(replace hc:=bp hc)<;>(try simp(disch:=omega) only[BL,wrap64,AM]at hc)<;>try(exfalso;omega))|fail)<;>conv=>whnf)
  refine(J7 pr v (by omega) hv).use (rest:=[]) hs ?_;clear hs;rintro r post Z ⟨rfl,rfl⟩ hs
  conv=>whnf
  repeat'((first|(refine hA _ _ ?_;clear hB B hA A)|(apply U;clear U K)|fail)<;>conv=>whnf)
  refine Rx hs 0 rfl (fun Z2 h=> .cons (.refl _) (.cons (.refl _) (.cons h .nil))) fun Z hs=>?_
  conv=>whnf
  repeat'((first|apply st|(refine RM ?_;intro K U)|(apply si;intro A B hA hB)|(refine hA _ _ ?_;clear hB B hA A)|(apply U;clear U K)|apply dr|refine⟨rfl,?_⟩|refine TK ?_|(constructor<;>intro hc<;>(try rw[hc])<;>(replace hc:=bp hc)<;>(try simp(disch:=omega) only[BL,wrap64,AM]at hc)<;>try(exfalso;omega))|fail)<;>conv=>whnf)
  all_goals first
   | (exfalso;omega)
   | (exfalso;simp_all;omega)
   | exact Ab Fs
end Go.Gl
namespace Go.Gl
open Go.Proofs
attribute [local irreducible] A6 Ar Ah AR AI Ae AQ AT AK Ad AN AO Ay A7 Sat AY A5 Ai W
def sG (p : Prog) (l:List Int) (f:Bool) (kd:Bool) (hl:l.length<=1000):Pure zP 22 [.a (BK p),.l (iL l) f,.b kd] (.b (Ed p l kd)):=by
 refine Pure.fit (by kernel_rfl) fun hf=>?_
 have⟨p1,p2,p3,p4⟩:=Ev hf.1;have hM:=Mx;refine y2 kZ ?_;have hs:=Sn
 conv=>whnf
 repeat'((first|apply st|(apply sq;intro K U)|(apply si;intro A B hA hB)|(refine hA _ _ ?_;clear hB B hA A)|(apply U;clear U K)|fail)<;>conv=>whnf)
 refine By l.length (fun i (_:Unit)=>[(7,eI (A9 i))]) (fun _ _=>[]) (fun i _=>(∀k y,k<i->l[k]? =some y->bP p l kd y=true)/\(l.take i).Nodup) () rfl ⟨fun k y h=>by omega,by simp⟩ hs ?_;clear hs;rintro i - Z hi ⟨ho,hn⟩ hs;rcases A3 l hi with⟨x,hx,hlt⟩|hie
 .have hci:A9 i=i:=AM (by omega)
  obtain⟨z,hz⟩: ∃z,l[0]? =some z:=⟨_,Cw (by omega)⟩
  have hz0:=B6 hz;have c1:=jV p x;have hbad:=fun h=>Sc (p:=p) (kd:=kd) hx h
  rw[bP,hz0]at hbad;cases hmx:BQ p x<;>rw[hmx]at c1
  .conv=>whnf
   repeat'((first|apply st|(apply sq;intro K U)|(apply si;intro A B hA hB)|(refine hA _ _ ?_;clear hB B hA A)|(apply U;clear U K)|apply dr|refine⟨rfl,?_⟩|refine⟨kZ,?_⟩|refine ix ?_|refine Od ?_|(refine OY (fun hc=>?_)<;>(try rw[hc])<;>clear hc)|refine c1.use ?_|clear U K)<;>conv=>whnf)
   all_goals exact AF (by rw[hbad (by rw[hmx];rfl)])
  have hmz:BQ p z=true:=by
   rcases Nat.eq_zero_or_pos i with h0|h0
   .rw[h0,hz]at hx
    rw[Option.some.inj hx];exact hmx
   .have:=ho 0 z h0 hz
    simp only[bP,BD]at this;exact this.1
  have hxP:=CA hmx;have hzP:=CA hmz;have c2:=aw p x z hmx hmz;have hxr:=hmx;have hzr:=hmz;simp only[BQ,BD,CD]at hxr hzr;by_cases hg:(Bf p x).gen=(Bf p z).gen
  .have hoxF:(!kd||DH p x z)=true->bP p l kd x=true:=fun h=>by rw[bP,hz0,hmx,hg,h];simp
   cases hal:DH p x z<;>rw[hal]at c2 hoxF<;>cases kd
   all_goals
    conv=>whnf
    repeat'((first|apply st|(apply sq;intro K U)|(apply si;intro A B hA hB)|(refine hA _ _ ?_;clear hB B hA A)|(apply U;clear U K)|apply dr|refine⟨rfl,?_⟩|refine⟨kZ,?_⟩|refine ix ?_|refine Y7 ?_|refine Uy ?_|refine Rp ?_|refine Gn ?_|(refine OY (fun hc=>?_)<;>(try rw[hc])<;>clear hc)|refine c1.use ?_|refine c2.use ?_|(constructor<;>intro hc<;>(try rw[hc])<;>(replace hc:=bp hc))|clear U K)<;>conv=>whnf)
   all_goals try(exfalso;simp[hg]at hc;done)
   all_goals try exact AF (by rw[hbad (by simp[hal,hg])])
   all_goals
    have hox:=hoxF rfl;refine By i (fun k (_:Unit)=>[(8,eI (A9 k))]) (fun _ _=>[]) (fun k _=> ∀k' y,k'<k->l[k']? =some y->y≠x) () rfl (fun k' y h=>by omega) hs ?_;clear hs;rintro k - Z hk hne hs;rcases Nat.lt_or_ge k i with hki|hki
    .obtain⟨y,hy⟩: ∃y,l[k]? =some y:=⟨_,Cw (by omega)⟩
     have hck:A9 k=k:=AM (by omega);by_cases hyx:y=x
     .conv=>whnf
      repeat'((first|apply st|(apply sq;intro K U)|(apply si;intro A B hA hB)|(refine hA _ _ ?_;clear hB B hA A)|(apply U;clear U K)|apply dr|refine⟨rfl,?_⟩|refine ix ?_|(constructor<;>intro hc<;>(try rw[hc])<;>(replace hc:=bp hc)<;>(try simp(disch:=omega) only[BL,wrap64,AM]at hc)<;>try(exfalso;omega))|clear U K)<;>conv=>whnf)
      exact AF (by rw[Sb hx (hyx ▸ hy) hki])
     .conv=>whnf
      repeat'((first|apply st|(apply sq;intro K U)|(apply si;intro A B hA hB)|(refine hA _ _ ?_;clear hB B hA A)|(apply U;clear U K)|apply dr|refine⟨rfl,?_⟩|refine ix ?_|(constructor<;>intro hc<;>(try rw[hc])<;>(replace hc:=bp hc)<;>(try simp(disch:=omega) only[BL,wrap64,AM]at hc)<;>try(exfalso;omega))|clear U K)<;>conv=>whnf)
      refine⟨hki,(),rfl,fun k' y' h h2=>?_,hs⟩;rcases Nat.lt_or_ge k' k with h'|h'
      .exact hne k' y' h' h2
      .rw[show k'=k by omega,hy]at h2
       rw[<-Option.some.inj h2];exact hyx
    .have hck:A9 k=k:=AM (by omega)
     conv=>whnf
     repeat'((first|apply st|(apply sq;intro K U)|(apply si;intro A B hA hB)|(refine hA _ _ ?_;clear hB B hA A)|(apply U;clear U K)|refine⟨rfl,?_⟩|(constructor<;>intro hc<;>(try rw[hc])<;>(replace hc:=bp hc)<;>(try simp(disch:=omega) only[BL,wrap64,AM]at hc)<;>try(exfalso;omega))|clear U K)<;>conv=>whnf)
     refine⟨hlt,(),rfl,⟨fun k' y' h h2=>?_,QY hx hn fun k' y' h h2=>hne k' y' (by omega) h2⟩,hs⟩;rcases Nat.lt_or_ge k' i with h'|h'
     .exact ho k' y' h' h2
     .rw[show k'=i by omega,hx]at h2
      rw[<-Option.some.inj h2];exact hox
  .conv=>whnf
   repeat'((first|apply st|(apply sq;intro K U)|(apply si;intro A B hA hB)|(refine hA _ _ ?_;clear hB B hA A)|(apply U;clear U K)|apply dr|refine⟨rfl,?_⟩|refine⟨kZ,?_⟩|refine ix ?_|refine Y7 ?_|refine Rp ?_|refine Gn ?_|(refine OY (fun hc=>?_)<;>(try rw[hc])<;>clear hc)|refine c1.use ?_|refine c2.use ?_|(constructor<;>intro hc<;>(try rw[hc])<;>(replace hc:=bp hc))|clear U K)<;>conv=>whnf)
   all_goals try(exfalso;have q:(bif !true then true else(Bf p x).gen != (Bf p z).gen)=false:=(by assumption);simp[hg]at q;done)
   all_goals exact AF (by rw[hbad (by simp[hg])])
 .conv=>whnf
  repeat'((first|apply st|(apply sq;intro K U)|(apply si;intro A B hA hB)|(refine hA _ _ ?_;clear hB B hA A)|(apply U;clear U K)|refine⟨rfl,?_⟩|(refine XQ (fun hc=>?_)<;>(try rw[hc])<;>clear hc)|clear U K)<;>conv=>whnf)
  have hall:Ed p l kd=true:=by
   rw[Ed,BD,Er];refine⟨fun y hy=>?_,decide_eq_true (by rw[hie,List.take_length]at hn;exact hn)⟩;obtain⟨k,hk⟩:=List.getElem?_of_mem hy;exact ho k y (by rw[hie];exact(Ii.1 hk).1) hk
  exact AF (by rw[hall])
def jC (p:Prog) (l:List Int) (f:Bool) (hok:EM p) (hG:PO p l) :
    Pure zP 23 [.a (BK p),.l (iL l) f] (.t [.a (zK (Ce (Af p) p l).1 (!(Ce (Af p) p l).2) (!(Ce (Af p) p l).2)),.b (Ce (Af p) p l).2]):=by
 refine Pure.of ?_;refine y1 kZ ?_;have hs:=Sn
 conv=>whnf
 repeat'((first|apply st|(apply sq;intro K U)|(apply si;intro A B hA hB)|(refine hA _ _ ?_;clear hB B hA A)|(apply U;clear U K)|apply dr|refine⟨kZ,?_⟩|(intro nn hnn;generalize hg:BV _ nn _=Z;refine G5 hg fun hs=>?_;clear hg)|fail)<;>conv=>whnf)
 refine(ku p l f hok hG.many hG.Ip).use (rest:=_) (hs.front (j:=0) rfl) ?_;clear hs;rintro r post Z ⟨rfl,T,rfl,hT,hq⟩ hs;have c1:=jD p T l f hG hok.many hT;rw[Ww hG hq]at c1
 conv=>whnf
 repeat'((first|apply st|(refine hA _ _ ?_;clear hB B hA A)|(apply U;clear U K)|apply dr|refine rk ?_ ?_|exact fun s e=>by cases e;rfl|refine⟨kZ,?_⟩|refine ld ?_|refine Gk fun Z hs=>?_|refine c1.use ?_|fail)<;>conv=>whnf)
 all_goals exact AU (by rfl)
end Go.Gl
namespace Go.Gl
open Go.Proofs
def Qy (A:Int->Int->Bool): ∀(k:Nat) (l:List Int),l.length=k->(BR A k l).1.length<=k/\(BR A k l).2=decide ((BR A k l).1.length<k)
 | 0,_,_=>⟨I3 _,rfl⟩
 | k + 1,l,h=>by
   rw[BR];cases hf:D7 A l with
   | none=>
     have:l.isEmpty=false:=by cases l with
      | nil=>simp at h
      | cons=>rfl
     simp[this]
   | some i=>
     have hi:=Sv hf;have hel:=List.length_eraseIdx_of_lt hi;obtain⟨h1,h2⟩:=Qy A k (l.eraseIdx i) (by omega);simp only[JD,Nat.add_lt_add_iff_right,Nat.add_le_add_iff_right];exact⟨h1,h2⟩
def V6 {p:Prog} {l:List Int} (h:(BW p).isSome=true) (h2:Ed p l false=true) (h3:(Ce (Af p) p l).2=true) :
    ∃m r,l=m::r/\p.methods[m.toNat]? =some (Bf p m)/\0<=m/\m<(p.methods.length:Int)/\0<=(Bf p m).gen/\(Bf p m).gen<(p.CW.length:Int)/\(Ce (Af p) p l).1.pr.length<=60/\l.length<=16:=by
 have hok:=look_ok h;have hG:=UG hok h2;cases l with
 | nil=>simp[Ce,B0]at h3
 | cons m r=>
   have hm:=hG.Ip m (.head _);have hx:=CA hm;have hkm:=(FU h).2 _ (Bz hx);simp only[Om,BD,CD]at hkm;have hmm:=hm;simp only[BQ,BD,CD]at hmm;refine⟨m,r,rfl,hx,hmm.1,hmm.2,hkm.2.2.1,hkm.2.2.2.1,?_,hG.many⟩;have h16:=hG.many;rw[Ce];split
   .simp[xD]
   .have:=(Qy (Af p) _ (B0 p (m::r) 1) rfl).1
    have:=UC (p:=p) (l:=m::r) (k:=1);show(ZF (Af p) p (m::r)).pr.length<=60;simp only[ZF];omega
def Ef {xs:List Int} {b:Bool} {t:Bool} {e:Int} {Z:AE}:FD Z emp (.t [.l (iL xs) b,.b t,eI e]) (.t [.l (iL xs) false,.b t,eI e]):= .t (.cons (.l (fun h=>by cases h) (.refl _ _ _)) (.cons (.refl _) (.cons (.refl _) .nil)))
abbrev lnV (x:(List Int×Bool)×Int):V:= .t [.l (iL x.1.1) false,.b x.1.2,eI x.2]
def SS (x:Pl×Bool):(VM x).2=if x.2 then 0 else 5:=by cases x with|mk a b=>cases b<;>rfl
attribute [local irreducible] A6 Ar Ah AR AI Ae AQ AT AK Ad AN AO Ay A7 Sat AY A5 Ai W
def y8 (p:Prog) (q:RN) (hq:Ew q=true) (l:List Int) (f:Bool) (hl:l.length<=60):Pure zP 14 [.a (BK p),.a (JK q),.l (iL l) f] (lnV (PQ p q l)):=by
 have hM:=Mx;have c1:=rO p;have c2:=wy p q hq;have c3:=sG p l f false (by omega);rw[PQ,Jb,FO];cases h1:(BW p).isSome<;>rw[h1]at c1
 .refine Vd kZ ?_
  have hs:=Sn
  conv=>whnf
  repeat'((first|apply st|(apply sq;intro K U)|(apply si;intro A B hA hB)|(refine hA _ _ ?_;clear hB B hA A)|(apply U;clear U K)|refine⟨kZ,?_⟩|refine Od ?_|refine c1.use ?_|clear U K)<;>conv=>whnf)
  all_goals first
   | exact Ab Ef
   | exact Ab (.t (.cons (.l (fun h=>by cases h) .nil) (.cons (.refl _) (.cons (.refl _) .nil))))
 cases h2:Kj p q<;>rw[h2]at c2
 .refine Vd kZ ?_
  have hs:=Sn
  conv=>whnf
  repeat'((first|apply st|(apply sq;intro K U)|(apply si;intro A B hA hB)|(refine hA _ _ ?_;clear hB B hA A)|(apply U;clear U K)|refine⟨kZ,?_⟩|refine Od ?_|refine Gn ?_|refine c1.use ?_|refine c2.use ?_|clear U K)<;>conv=>whnf)
  all_goals first
   | exact Ab Ef
   | exact Ab (.t (.cons (.l (fun h=>by cases h) .nil) (.cons (.refl _) (.cons (.refl _) .nil))))
 cases h3:Ed p l false<;>rw[h3]at c3
 .refine Vd kZ ?_
  have hs:=Sn
  conv=>whnf
  repeat'((first|apply st|(apply sq;intro K U)|(apply si;intro A B hA hB)|(refine hA _ _ ?_;clear hB B hA A)|(apply U;clear U K)|refine⟨kZ,?_⟩|refine Uy ?_|refine Gn ?_|refine c1.use ?_|refine c2.use ?_|refine c3.use ?_|clear U K)<;>conv=>whnf)
  all_goals first
   | exact Ab Ef
   | exact Ab (.t (.cons (.l (fun h=>by cases h) .nil) (.cons (.refl _) (.cons (.refl _) .nil))))
 have c4:=jC p l f (look_ok h1) (UG (look_ok h1) h3);have hpre:=V6 h1 h3;have hc:Jb p q=true:=by rw[Jb,h1,h2];rfl
 have hcl:=(P1 h2).1;have⟨q1,q2,q3⟩:=GD hq;simp only[Bool.and_self,if_true,SS];cases hb:(Ce (Af p) p l).2
 .rw[hb]at c4
  generalize Ce (Af p) p l=x at *;obtain⟨x,b⟩:=x;dsimp only at hb c4;refine Vd kZ ?_;have hs:=Sn
  conv=>whnf
  repeat'((first|apply st|(apply sq;intro K U)|(apply si;intro A B hA hB)|(refine hA _ _ ?_;clear hB B hA A)|(apply U;clear U K)|refine⟨kZ,?_⟩|refine Gk fun Z hs=>?_|refine Uy ?_|refine Rp ?_|refine Gn ?_|refine c1.use ?_|refine c2.use ?_|refine c3.use ?_|refine c4.use ?_|(intro nn hnn;generalize hg:BV _ nn _=Z;refine G5 hg fun hs=>?_;clear hg)|clear U K)<;>conv=>whnf)
  all_goals first
   | exact Ab Ef
   | exact Ab (.t (.cons (.l (fun h=>by cases h) .nil) (.cons (.refl _) (.cons (.refl _) .nil))))
 obtain⟨m,r,rfl,hm,m0,m1,g0,g1,hpr,-⟩:=hpre hb;rw[hb]at c4;have hpe:(VM (Ce (Af p) p (m::r))).1=(Ce (Af p) p (m::r)).1:=by rw[VM,hb];rfl
 simp only[hpe];generalize Ce (Af p) p (m::r)=x at *;obtain⟨x,b⟩:=x;dsimp only at hb hpr c4;subst hb;obtain⟨c,hcm⟩: ∃c,q.Cf[(Bf p m).gen.toNat]? =some c:=⟨_,Cw (by omega)⟩
 have hgd:q.Cf.getD (Bf p ((m::r).getD 0 0)).gen.toNat ⟨0,0,0⟩=c:=by
  rw[DL (l:=q.Cf),List.getD_cons_zero,hcm];rfl
 simp only[if_true,hgd];generalize Bf p m=y at *;have c5:=sH c x false false false false hpr;have hl0:(m::r)[0]? =some m:=rfl;refine Vd kZ ?_;have hs:=Sn
 conv=>whnf
 repeat'((first|apply st|(apply sq;intro K U)|(apply si;intro A B hA hB)|(refine hA _ _ ?_;clear hB B hA A)|(apply U;clear U K)|apply dr|refine⟨kZ,?_⟩|refine Y7 ?_|refine ld ?_|refine Gk fun Z hs=>?_|refine Rp ?_|refine Gn ?_|refine c1.use ?_|refine c2.use ?_|refine c3.use ?_|refine c4.use ?_|refine c5.use ?_|(intro nn hnn;generalize hg:BV _ nn _=Z;refine G5 hg fun hs=>?_;clear hg)|fail)<;>conv=>whnf)
 all_goals first
  | exact Ab Ef
  | exact Ab (.t (.cons (.l (fun h=>by cases h) .nil) (.cons (.refl _) (.cons (.refl _) .nil))))
  | (exfalso;omega)
def y9 (p:Prog) (q:RN) (hq:Ew q=true) (l:List Int) (f:Bool) (hl:l.length<=60):Pure zP 13 [.a (BK p),.a (JK q),.l (iL l) f] (lnV (PQ p q l)):=by
 have hM:=Mx;have c1:=CheckM p q hq;have c2:=wz p l f (by omega);rw[PQ];cases h1:Jb p q<;>rw[h1]at c1
 .rw[if_neg (by decide)]at c1
  rw[if_neg (by decide)];refine ff kZ ?_;have hs:=Sn
  conv=>whnf
  repeat'((first|apply st|(apply sq;intro K U)|(apply si;intro A B hA hB)|(refine hA _ _ ?_;clear hB B hA A)|(apply U;clear U K)|refine⟨rfl,?_⟩|refine⟨kZ,?_⟩|refine c1.use ?_|(constructor<;>intro hc<;>(try rw[hc])<;>(replace hc:=bp hc)<;>try(exfalso;omega))|clear U K)<;>conv=>whnf)
  all_goals first
   | exact Ab Ef
   | exact Ab (.t (.cons (.l (fun h=>by cases h) .nil) (.cons (.refl _) (.cons (.refl _) .nil))))
 rw[if_pos rfl]at c1;simp only[if_true];rw[Jb,BD]at h1;obtain⟨h1,h2⟩:=h1;have hcl:=(P1 h2).1;have⟨q1,q2,q3⟩:=GD hq;by_cases he:(FO p l).2=0
 rotate_left
 .rw[if_neg he]
  generalize FO p l=x at *;obtain⟨x,e⟩:=x;dsimp only at he c2;refine ff kZ ?_;have hs:=Sn
  conv=>whnf
  repeat'((first|apply st|(apply sq;intro K U)|(apply si;intro A B hA hB)|(refine hA _ _ ?_;clear hB B hA A)|(apply U;clear U K)|refine⟨rfl,?_⟩|refine⟨kZ,?_⟩|refine Gk fun Z hs=>?_|refine c1.use ?_|refine c2.use ?_|(constructor<;>intro hc<;>(try rw[hc])<;>(replace hc:=bp hc)<;>(try simp(disch:=omega) only[BL,wrap64,AM]at hc)<;>try(exfalso;omega))|(intro nn hnn;generalize hg:BV _ nn _=Z;refine G5 hg fun hs=>?_;clear hg)|clear U K)<;>conv=>whnf)
  all_goals first
   | exact Ab Ef
   | exact Ab (.t (.cons (.l (fun h=>by cases h) .nil) (.cons (.refl _) (.cons (.refl _) .nil))))
   | (exfalso;omega)
 rw[if_pos he]
 have h3:Ed p l false=true:=by
  cases hb:Ed p l false with
  | true=>rfl
  | false=>simp[FO,hb]at he
 have hb:(Ce (Af p) p l).2=true:=by
  cases hb:(Ce (Af p) p l).2 with
  | true=>rfl
  | false=>simp[FO,h1,h3,SS,hb]at he
 have hx:FO p l=((Ce (Af p) p l).1,0):=by
  simp only[FO,h1,h3,Bool.and_self,if_true,VM,hb]
 obtain⟨m,r,rfl,hm,m0,m1,g0,g1,hpr,-⟩:=V6 h1 h3 hb;rw[hx]at c2 ⊢;generalize (Ce (Af p) p (m::r)).1=x at *;obtain⟨c,hcm⟩: ∃c,q.Cf[(Bf p m).gen.toNat]? =some c:=⟨_,Cw (by omega)⟩
 have hgd:q.Cf.getD (Bf p ((m::r).getD 0 0)).gen.toNat ⟨0,0,0⟩=c:=by
  rw[DL (l:=q.Cf),List.getD_cons_zero,hcm];rfl
 simp only[hgd];generalize Bf p m=y at *;have c5:=yO c x true true true false hpr;have hl0:(m::r)[0]? =some m:=rfl;refine ff kZ ?_;have hs:=Sn
 conv=>whnf
 repeat'((first|apply st|(apply sq;intro K U)|(apply si;intro A B hA hB)|(refine hA _ _ ?_;clear hB B hA A)|(apply U;clear U K)|apply dr|refine⟨rfl,?_⟩|refine⟨kZ,?_⟩|refine Y7 ?_|refine ld ?_|refine Gk fun Z hs=>?_|refine c1.use ?_|refine c2.use ?_|refine c5.use ?_|(constructor<;>intro hc<;>(try rw[hc])<;>(replace hc:=bp hc)<;>(try simp(disch:=omega) only[BL,wrap64,AM]at hc)<;>try(exfalso;omega))|(intro nn hnn;generalize hg:BV _ nn _=Z;refine G5 hg fun hs=>?_;clear hg)|fail)<;>conv=>whnf)
 all_goals first
  | exact Ab Ef
  | exact Ab (.t (.cons (.l (fun h=>by cases h) .nil) (.cons (.refl _) (.cons (.refl _) .nil))))
  | (exfalso;omega)
end Go.Gl
