import Derived.Test.YtnidfcmdimehdaaGreatW14
import Derived.Test.YtnidfcmdimehdaaGreatW17
import Derived.Test.YtnidfcmdimehdaaGreatW21
import Derived.Test.YtnidfcmdimehdaaGreatW22
import Derived.Test.YtnidfcmdimehdaaGreatW25
import Derived.Test.YtnidfcmdimehdaaGreatW26
set_option linter.all false
set_option linter.defProp false
set_option maxHeartbeats 8000000
noncomputable section
namespace Go.Gl
open Go.Proofs
attribute [local irreducible] Ao Ai AY AO AJ AX AN AP AI AW AK AL Ak Au Sat AT Ar Aa W
def Re (xs:List Int) (f:Bool):Pure zP 264 [.l (iL xs) f] (.f (.func 303) [] [.rp [.l (iL xs) f]]):=by
 refine sh kZ ?_;have hs:=Sn;exact zW
def lH (xs:List Int) (f:Bool) (hxl:xs.length<=1000) {S:Type} {fn:Fn} {fi ca:List V} {H:S->List At} (Inv:Nat->S->Prop) {s:S} (h0:Inv 0 s)
    (hT: ∀(k:Nat) s y,xs[k]? =some y->Inv k s-> ∀Z:AE,Sat Z (H s)->Ak zP (.f fn fi ca) [eI y] Z fun r Z'=> ∃s',r= .ret (.b true)/\Inv (k+1) s'/\Sat Z' (H s')) (Z:AE) (hs:Sat Z (H s)) :
    Ao zP 303 [.f fn fi ca,.rp [.l (iL xs) f]] Z fun r Z'=> ∃s',r= .ret (.t [])/\Inv xs.length s'/\Sat Z' (H s'):=by
 have hM:=Mx;refine sP kZ ?_;refine zz ?_;(repeat clear U K);repeat intro K U
 refine Du xs.length (fun k (_:S)=>[(7,eI (Bj k))]) (fun _ s'=>H s') (fun k s'=>Inv k s') s rfl h0 hs ?_;clear hs;rintro k s' Z hk ho hs;rcases BJ xs hk with⟨y,hy,hlt⟩|hke
 .have hT':=hT k s' y hy ho
  refine zz ?_;(repeat clear U K);repeat intro K U
  refine(hT' Z hs).mono ?_;rintro r Z ⟨s2,rfl,hi2,hs⟩;refine zz ?_;(repeat clear U K);repeat intro K U
  exact⟨hlt,_,rfl,hi2,hs⟩
 .rw[hke]at ho
  refine zz ?_;(repeat clear U K);repeat intro K U
  exact AH ⟨_,rfl,ho,hs⟩
def cw (xs:List Int) (f:Bool) (hxl:xs.length<=1000):BK zP 316 [.l [] true,.f (.func 303) [] [.rp [.l (iL xs) f]]] [] fun r post=> ∃v,r= .ret v/\post= [.own v 1 (iL xs)]/\((CQ v).isSome=true\/(v= .l [] true/\xs= [])):=by
 intro Z hs;have hM:=Mx;refine sL kZ ?_
 conv=>whnf
 repeat'((first|clear U K|apply st|(apply zk;intro K U)|refine zo fun nn hnn Z hs=>?_|fail)<;>conv=>whnf)
 rename_i nb _ _ _;clear hnn
 revert hs
 generalize hE:([(2,V.p nb 0)]:Env)=E;generalize hk:BW _ _ _ _=ok;intro hs;refine Ao.mono (lH xs f hxl (fn:= .yield nn) (fi:=[]) (ca:=[]) (H:=fun s:V×List Int=> .obj nn (.loop .ready E ok):: [.box nb [s.1],.own s.1 1 (iL s.2)]) (fun k s=>s.2=xs.take k/\(1<=k->(CQ s.1).isSome=true)/\(k=0->s.1= .l [] true)) (s:=(.l [] true,[])) ⟨rfl,fun h=>by omega,fun _=>rfl⟩ ?_ Z ((DN hs 1).perm (Ia _ _ _ _))) ?_
 .clear hs
  subst hE hk;rintro k ⟨v,ys⟩ y hy ⟨h1,h2,h3⟩ Z hs;dsimp only at h1 h2 h3 hs;have hkl:k<xs.length:=(Je.1 hy).1;have hyl:ys.length=k:=by rw[h1,NK];omega
  have hll:ys.length<As/\(ys.length+1)*8<=140737488355328:=by omega
  refine uh (WX (l:=[.box nb [v],.own v 1 (iL ys)]) rfl hs ?_);clear hs;intro Z hs
  conv=>whnf
  repeat'((first|clear U K|apply st|(apply zk;intro K U)|refine zY ?_|refine zs fun Z hs=>?_|refine aq fun v Z hs hsl=>?_|fail)<;>conv=>whnf)
  intro hn;exact⟨(v,ys++[y]),rfl,⟨by rw[An hy,h1],fun _=>hsl,fun h=>by omega⟩,hs.Uo hn⟩
 .clear hs
  rintro r Z ⟨⟨v,ys⟩,rfl,⟨h1,h2,h3⟩,hs⟩;dsimp only at h1 h2 h3 hs;refine HD hs fun Z hs=>?_
  refine zz ?_;(repeat clear U K);repeat intro K U
  rw[List.take_length]at h1;subst h1;refine A0 hs (NJ _ _) (.refl _) fun Z' hs'=>⟨_,⟨v,rfl,rfl,?_⟩,hs'⟩
  rcases Nat.eq_zero_or_pos ys.length with h|h
  .exact .inr ⟨h3 h,W7.1 h⟩
  .exact .inl (h2 h)
def cd (xs:List Int) (f:Bool) (hxl:xs.length<=1000):BK zP 302 [.f (.func 303) [] [.rp [.l (iL xs) f]]] [] fun r post=> ∃v,r= .ret v/\post= [.own v 1 (iL xs)]/\((CQ v).isSome=true\/(v= .l [] true/\xs= [])):=by
 intro Z hs;refine sQ kZ ?_
 conv=>whnf
 repeat'((first|clear U K|apply st|(apply zk;intro K U)|fail)<;>conv=>whnf)
 refine(cw xs f hxl).use (rest:=[]) (by simpa using hs) ?_;clear hs;rintro r post Z ⟨v,rfl,rfl,hv⟩ hs;refine zz ?_;(repeat clear U K);repeat intro K U
 exact A0 hs (List.sublist_append_left _ _) (.refl _) fun Z' hs'=>⟨_,⟨v,rfl,rfl,hv⟩,hs'⟩
def Ri (xs:List Int) (f:Bool) (hxl:xs.length<=1000):Pure zP 263 [.f (.func 303) [] [.rp [.l (iL xs) f]]] (.l (iL (xs.mergeSort Gq)) false):=by
 refine sj kZ ?_;have hs:=Sn
 conv=>whnf
 repeat'((first|clear U K|apply st|(apply zk;intro K U)|fail)<;>conv=>whnf)
 refine(cd xs f hxl).use (rest:=[]) (by simpa using hs) ?_;clear hs;rintro r post Z ⟨v,rfl,rfl,hv⟩ hs
 conv=>whnf
 repeat'((first|clear U K|apply st|(apply zk;intro K U)|fail)<;>conv=>whnf)
 refine(dy hv).use (rest:=[]) hs ?_;clear hs;rintro r post Z ⟨rfl,rfl⟩ hs;refine zz ?_;(repeat clear U K);repeat intro K U
 exact Br (hs.He 0 rfl)
def SL {S:Type} {stp:Int->S->Bool×S} {q:Int->Bool}: ∀(xs:List Int) (k:Nat) (s:S),(∀y∈xs,∀s,(stp y s).1=q y)->decide ((Bd stp xs k s).1≥0)=xs.any q
 | [],_,_,_=>rfl
 | y ::r,k,s,h=>by
   rw[Bd,h y (.head _),Qj];cases hq:q y
   .rw[if_neg (by decide),Bool.false_or]
    exact SL r (k+1) _ fun z hz=>h z (.tail _ hz)
   .rw[if_pos rfl,Bool.true_or]
    exact decide_eq_true (Int.natCast_nonneg k)
def bM (l:List Int) (q:Int->Bool):(List.range l.length).all (fun j=> !q (l.getD j 0))= !l.any q:=by
 rw[Gr,DR,Bool.not_eq_true',<-Bool.not_eq_true,GF];constructor
 .rintro h ⟨x,hx,hq⟩
  obtain⟨i,hi⟩:=List.getElem?_of_mem hx;have:=h i (List.mem_range.2 (Je.1 hi).1);rw[E4 hi,hq]at this;cases this
 .intro h j hj
  cases hq:q (l.getD j 0)
  .rfl
  .exact absurd ⟨_,SC (List.mem_range.1 hj),hq⟩ h
def Zm {p:Prog} {l:List Int} {M:List (Int×Int)}:(Bd (fun(m:Int) (M:List (Int×Int))=>(!(decide ((Bd (fun y M=>(Aw p y m,an p M y m)) l 0 M).1≥0)),vM p l m M)) l 0 M).1=match XJ (Aw p) l with|some i=>((i:Nat):Int)|none=> -1:=by
 rw[SJ (q:=fun m=> !l.any fun y=>Aw p y m) l 0 M fun m _ s=>by dsimp only;rw[SL (q:=fun y=>Aw p y m) l 0 s fun y _ s=>rfl]];rw[XJ,find_congr (g:=fun i=>aT (Aw p) l i l.length) fun i _=>by rw[aT,bM l fun y=>Aw p y (l.getD i 0)]];cases(List.range l.length).find? fun i=>aT (Aw p) l i l.length with
 | none=>rfl
 | some i=>simp
def ct (p:Prog) (L:Nat) (l:List Int) (f:Bool) (hok:ES p) (hgw:Cn (AM p)) (hfm: ∀x∈p.methods,EC (AM p) x.fact=true) (hl:TE p l) (hnd:l.Nodup) (M:List (Int×Int)) :
    BK zP 219 [Sh p L,.l (iL l) f] [.map L (J4 p M)] fun r post=>r= .ret (.l (iL (GY (Aw p) l.length (l.mergeSort Gq))) true)/\ ∃M',post= [.map L (J4 p M')]:=by
 intro Z hs;have hM:=Mx;have h16:=hl.many;have hml:(l.mergeSort Gq).length=l.length:=List.length_mergeSort _;have c1:=Re l f;have c2:=Ri l f (by omega);refine ft kZ ?_
 conv=>whnf
 repeat'((first|clear U K|apply st|(apply zk;intro K U)|refine zY ?_|refine zs fun Z hs=>?_|refine zC ?_|refine zo fun nn hnn Z hs=>?_|fail)<;>conv=>whnf)
 clear c1 c2 hnn
 refine Ft (fun(x:List Int×Bool×V×List Int×List (Int×Int))=>x.1.length) (fun x=>[(5,x.2.2.1)]) (fun x=>[.box nn [.l (iL x.1) x.2.1],.own x.2.2.1 1 (iL x.2.2.2.1),.map L (J4 p x.2.2.2.2)])
  (fun x=>(∀y∈x.1,BX p y=true)/\x.1.Nodup/\x.2.2.2.1.length+x.1.length<=16/\GY (Aw p) l.length (l.mergeSort Gq)=x.2.2.2.1++GY (Aw p) x.1.length x.1) (l.mergeSort Gq,false,.l [] true,[],M) rfl ⟨fun y hy=>hl.K3 y (List.mem_mergeSort.1 hy),(List.mergeSort_perm l Gq).symm.nodup hnd,by simpa[hml]using h16,by simp[hml]⟩ ((DN hs 1).perm (.swap _ _ _)) ?_
 clear hs;rintro⟨l',f',v,out,M⟩ Z ⟨hme,hn,hlen,hm⟩ hs;dsimp only at hme hn hlen hm hs;dsimp only;have hll:out.length<As/\(out.length+1)*8<=140737488355328:=by omega
 by_cases hz:l'.length=0
 .rw[hz]at hm
  simp only[GY,Fj]at hm
  conv=>whnf
  repeat'((first|clear U K|apply st|(apply zk;intro K U)|refine zY ?_|(refine zb (fun hc=>?_) (fun hc=>?_)<;>try exact⟨⟩)|fail)<;>conv=>whnf)
  refine(PR out v (by omega)).use (rest:=[_,_]) (hs.perm (.swap _ _ _)) ?_;clear hs;rintro r post Z ⟨rfl,rfl⟩ hs;refine zz ?_;(repeat clear U K);repeat intro K U
  exact A0 hs (NJ _ _) (.refl _) fun Z' hs'=>⟨_,⟨by rw[hm],M,rfl⟩,hs'⟩
 .obtain⟨n,hnn⟩: ∃n,l'.length=n+1:=⟨l'.length - 1,by omega⟩
  have hne:l'≠[]:=fun e=>hz (by rw[e];rfl)
  obtain⟨i,hi⟩:=Rz hok hne hme;have hil:i<l'.length:=by simpa using List.mem_of_find?_eq_some hi
  obtain⟨x,hx⟩: ∃x,l'[i]? =some x:=⟨_,Di hil⟩
  rw[hnn,GY,hi,Option.getD_some,E4 hx]at hm;have c3:=Mp l' f' x (by omega);rw[Fh hn hx]at c3;have hel:=List.length_eraseIdx_of_lt hil
  conv=>whnf
  repeat'((first|clear U K|apply st|(apply zk;intro K U)|refine zY ?_|(refine zb (fun hc=>?_) (fun hc=>?_)<;>try exact⟨⟩)|fail)<;>conv=>whnf)
  refine(H7 265 [] [.p nn 0,.rp [Sh p L]] (fun M=>[.box nn [.l (iL l') f'],.map L (J4 p M)]) _ _ (Y7 p L nn l' f' hok hgw hfm hme) l' f' M (Gc fun y hy _=>hme y hy)).use (rest:=[.own v 1 (iL out)]) (hs.perm (.cons _ (.swap _ _ _))) ?_;clear hs;rintro r post Z ⟨rfl,rfl⟩ hs;rw[Zm,hi];generalize (Bd _ l' 0 M).2=M2 at hs;dsimp only
  conv=>whnf
  repeat'((first|clear U K|apply st|(apply zk;intro K U)|refine zY ?_|refine zs fun Z hs=>?_|refine aq fun v Z hs hsl=>?_|refine zC ?_|fail)<;>conv=>whnf)
  refine⟨(l'.eraseIdx i,true,v,out++[x],M2),by dsimp only;omega,rfl,⟨fun y hy=>hme y (List.mem_of_mem_eraseIdx hy),hn.sublist (List.eraseIdx_sublist _ _),by simp;omega,?_⟩,hs.perm (.cons _ (.swap _ _ _))⟩;dsimp only;rw[hm,hel,show l'.length - 1=n by omega];simp
def bD: ∀ {l:List Int},l.Nodup->(l.mergeSort Gq).Pairwise (· < ·):=fun {l} h=>by
 have h1:=List.pairwise_mergeSort (le:=Gq) (fun a b c h1 h2=>by simp only[Gq,CT]at *;omega) (fun a b=>by simp only[Gq,Ek,CT];omega) l;have h2:=List.nodup_iff_pairwise_ne.1 ((List.mergeSort_perm l Gq).symm.nodup h);exact(h1.and h2).imp fun⟨a,b⟩=>by simp only[Gq,CT]at a;omega
def Zb {x:Int}: ∀ {out:List Int},out.Pairwise (· < ·)->x∉out->(Nz x out).Pairwise (· < ·)
 | [],_,_=>by simp[Nz]
 | y ::r,h,hx=>by
   rw[List.pairwise_cons]at h;rw[FR,not_or]at hx;by_cases hy:y<x
   .have e:Nz x (y::r)=y::Nz x r:=by simp[Nz,List.takeWhile_cons,List.dropWhile_cons,hy]
    rw[e,List.pairwise_cons];refine⟨fun z hz=>?_,Zb h.2 hx.2⟩;rcases Pj.1 hz with rfl|hz
    .exact hy
    .exact h.1 z hz
   .have e:Nz x (y::r)=x::y::r:=by simp[Nz,List.takeWhile_cons,List.dropWhile_cons,hy]
    rw[e,List.pairwise_cons,List.pairwise_cons];refine⟨fun z hz=>?_,h⟩;rcases FR.1 hz with rfl|hz
    .have:=hx.1;omega
    .have:=h.1 z hz
     have:=hx.1;omega
def V1: ∀(l out:List Int),out.Pairwise (· < ·)->l.Nodup->(∀x∈l,x∉out)->(l.foldl (fun out x=>Nz x out) out).Pairwise (· < ·)
 | [],_,h,_,_=>h
 | x::r,out,h,hn,hx=>by
   rw[List.nodup_cons]at hn;refine V1 r _ (Zb h (hx x (.head _))) hn.2 fun y hy hm=>?_
   rcases Pj.1 hm with rfl|hm
   .exact hn.1 hy
   .exact hx y (.tail _ hy) hm
def Rj {l:List Int} (h:l.Nodup):l.mergeSort Gq=Jl l:=
 KX (bD h) (V1 l [] .nil h fun x _ hm=>by cases hm) fun x=>by rw[List.mem_mergeSort,bE]
end Go.Gl
namespace Go.Gl
open Go.Proofs
end Go.Gl
namespace Go.Gl
variable {P:Program} {Z:AE}
def Ao.RP {f:FuncId} {args args':List V} {Z Z2:AE} {Q:R->AE->Prop} (h:Ao P f args' Z2 Q) (hsub:Sub Z2 Z) (hf:Cz Z Z2 args args'):Ao P f args Z Q:=by
 refine⟨h.1,fun F w cs hR hv=>?_⟩;exact Calls.mono (h.2 F w cs (hR.drop hsub) ⟨by rw[hf.length];exact hv.1,hf.rel hR hsub (fun _ _ e=>e) hv.2⟩) fun e w' ⟨r,Z',hr,h1,h2,h3⟩=>⟨r,Z',hr,h1,h2,(Bw.drop w hsub).trans h3⟩
def Pure.arg {f:FuncId} {args args':List V} {v:V} (h:Pure P f args' v) (hf:Cz emp emp args args'):Pure P f args v:=Ao.RP h (Sub.refl _) hf
def Own.qK {v:V} {sz:Nat} {es es':List (List V)} (h:Own Z v sz es) (hR:FA Z emp es es'):FZ Z emp v (.l es' false):=by
 rcases h with⟨rfl,_⟩|⟨n,cap,rfl,hn⟩
 .exact .l (fun h=>(by cases h)) hR
 .exact .arr hn rfl rfl hR
end Go.Gl
namespace Go.Gl
open Go.Proofs
attribute [local irreducible] Ao Ai AY AO AJ AX AN AP AI AW AK AL Ak Au Sat AT Ar Aa W
def pR (g:FuncId) (fi ca:List V) (q:Int×Int->Bool):Prop:= ∀v,Pure zP g (fi++[.a (pI v)]++ca) (.b (q v))
def pR.use {g:FuncId} {fi ca:List V} {q:Int×Int->Bool} (h:pR g fi ca q) {v:Int×Int} {Z:AE} {k kp:V->AE->Prop} (hk:k (.b (q v)) Z):Ak zP (.f (.func g) fi ca) [.a (pI v)] Z (qk k kp):=Ay ((h v).use hk)
end Go.Gl
namespace Go.Gl
open Go.Proofs
structure Wid (w w':AG) (ps:List Int):Prop where
 par:w'.parents=w.parents++[ps]
 own:w'.owner=w.owner++[3+(w.parents.length:Int)]
variable {w w':AG} {ps:List Int}
def Wid.ol (h:Wid w w' ps):w'.owner.length=w.owner.length+1:=by rw[h.own];simp
def S5 (l:List Int) (s:Int):List Int:=if l.contains s then l else l++[s]
def kJ (k:Kn) (s:Int):Kn:={k with AF:=S5 k.AF s}
def G6 (a:Int) (p:List Int) (k:Kn) (l:Fact):Kn:=
 if(Ag l).1.arg=a/\BY (Ag l).1.path p=true then
  (if(Ag l).1.path=p then Bl (Bm k (Ag l).2) (Ag l).1 (Ag l).2 else kJ (Bm k (Ag l).2) ((Ag l).1.path.getD p.length 0))
 else k
def kg (ls:List Fact) (a:Int) (p:List Int):Kn:=ls.foldl (G6 a p) k0
structure dY (k k':Kn):Prop where
 core:C9 k=C9 k'
 dh:k.Ad=k'.Ad
 AF: ∀s,s∈k.AF↔s∈k'.AF
def kA (l:List Int) (s x:Int):x∈S5 l s↔x∈l\/x=s:=by
 unfold S5;split
 .rename_i h
  rw[List.contains_iff_mem]at h;exact⟨.inl,fun h'=>h'.elim id fun e=>by rw[e];exact h⟩
 .simp
def iM {k k':Kn} (h:dY k k') (a:Int) (p:List Int) (l:Fact):dY (G6 a p k l) (Cd a p k' l):=by
 unfold G6 Cd;split
 .split
  .refine⟨Pu (k:=Bm k (Ag l).2) (k':=Bm k' (Ag l).2) h.core _ _,?_,fun s=>?_⟩
   .rw[Ko,Ko];simp[Bm,h.dh]
   .rw[Hb,Hb];exact h.AF s
  .refine⟨h.core,by simp[kJ,dR,Bm,h.dh],fun s=>?_⟩
   show s∈S5 k.AF _↔s∈IJ k'.AF _;rw[Sc,kA,h.AF]
 .exact h
def VW (a:Int) (p:List Int): ∀(ls:List Fact) (k k':Kn),dY k k'->dY (ls.foldl (G6 a p) k) (ls.foldl (Cd a p) k')
 | [],_,_,h=>h
 | l::r,_,_,h=>VW a p r _ _ (iM h a p l)
def Fv (ls:List Fact) (a:Int) (p:List Int):dY (kg ls a p) (kn ls a p):=VW a p ls k0 k0 ⟨rfl,rfl,fun _=>Iff.rfl⟩
def ZY (ls:List Fact) (a:Int) (p:List Int):C9 (kg ls a p)=C9 (Dq (ls.filter (Jk a p)) k0):=(Fv ls a p).core.trans (LK ls a p)
def R5 (ls:List Fact) (a:Int) (p:List Int):(kg ls a p).Ad= !EP ls a p:=by rw[(Fv ls a p).dh,JR]
def My {w:AG} {ls:List Fact} (hl: ∀l∈ls,Dc w l):Gb w.owner.length ls:=fun l h=>(hl l h).path
def Ph {w:AG} {ls:List Fact} (hl: ∀l∈ls,Dc w l) {a:Int} {p:List Int} {s:Int}:s∈(kg ls a p).AF↔ ∃l∈ls,(Ag l).1.arg=a/\ ∃q,(Ag l).1.path=p++s::q:=by
 rw[(Fv ls a p).AF,Iv (My hl),JM hl]
def wc {w:AG} {ls:List Fact} (hl: ∀l∈ls,Dc w l) {a:Int} {p:List Int} {s:Int} (h:s∈(kg ls a p).AF):0<=s/\s<(w.owner.length:Int):=by
 obtain⟨l,h1,h2,q,hq⟩:=(Ph hl).1 h;exact(hl l h1).path s (by rw[hq];simp)
def ff (ls:List Fact) (a:Int) (p:List Int):G7 (kg ls) a p=G7 (kn ls) a p:=by
 rw[G7,G7,Gr,DR,DR];constructor
 .intro h s hs
  have:=h s (((Fv ls a p).AF s).2 hs)
  rwa [(Fv ls a (p++[s])).dh]at this
 .intro h s hs
  have:=h s (((Fv ls a p).AF s).1 hs)
  rwa [(Fv ls a (p++[s])).dh]
def LS {k k':Kn} (h:C9 k=C9 k'):k.low=k'.low/\k.high=k'.high/\k.no=k'.no/\k.BL=k'.BL/\k.DS=k'.DS/\k.whole=k'.whole:=by
 simpa only[C9,Prod.mk.injEq]using h
def wg (ls:List Fact) (a:Int) (p:List Int):Gv (kg ls) a p=Gv (kn ls) a p:=by
 obtain⟨c1,c2,c3,c4,c5,-⟩:=LS (Fv ls a p).core;rw[Gv,Gv,Dx,Dx,ff,D2,D2,c1,c2,c3,c4,c5]
def qz (ls:List Fact) (a:Int) (p:List Int):EA (kg ls) a p=EA (kn ls) a p:=by
 obtain⟨-,-,-,c4,c5,c6⟩:=LS (Fv ls a p).core;rw[EA,EA,Dx,Dx,ff,c4,c5,c6]
def Pv {w:AG} {ls:List Fact} (hl: ∀l∈ls,Dc w l):GC (3+w.parents.length) ls:=fun l h ho=>by
 have:=(hl l h).cls ho;omega
def mf {w:AG} (hw:Nr w) {ls:List Fact} (hl: ∀l∈ls,Dc w l) (a:Int) (p:List Int):Gv (kg ls) a p=true↔ ∃m,J5 w (.int m)/\TT w ls a p (.int m):=by
 rw[wg,Xe (n:=3+w.parents.length) (by have:=hw.len;omega) (Pv hl) (My hl),Ll hl]
def im {w:AG} (hw:Nr w) {ls:List Fact} (hl: ∀l∈ls,Dc w l) (a:Int) (p:List Int):EA (kg ls) a p=true↔TT w ls a p .J3:=by
 rw[qz,Ti (n:=3+w.parents.length) (by have:=hw.len;omega) (Pv hl) (My hl),JP hl]
def UU (w:AG) (kf:Int->List Int->Kn) (a:Int) (p:List Int) (up:Nat) (can:Int->Bool):Bool:=
 !(kf a p).whole&&(Gs (kf a p).BL up&&((kf a p).DS&&&up==0&&(kf a p).AF.all fun s=>if up.testBit (B2 w s).toNat then can s else !(kf a (p++[s])).Ad))
def ig {w : AG} (hw:Nr w) {ls:List Fact} (hl: ∀l∈ls,Dc w l) {a:Int} {p:List Int} {up:Nat} {can:Int->Bool} {OK:I3->Prop} (hnon:OK .J3) (u0:up.testBit 0=true) (u1:up.testBit 1=false) (u2:up.testBit 2=false)
    (hcan: ∀s∈(kg ls a p).AF,(can s=true↔ ∃t,OK t/\TT w ls a (p++[s]) t)) :
    UU w (kg ls) a p up can=true↔ ∃kid,(∀s,OK (kid s))/\TT w ls a p (.obj (fun b=>up.testBit b) kid):=by
 obtain⟨-,-,-,c4,c5,c6⟩:=LS (ZY ls a p);have hc2:GC (3+w.parents.length) (ls.filter (Jk a p)):=fun l h=>Pv hl l (Kv.1 h).1
 have hlt:(Dq (ls.filter (Jk a p)) k0).BL<2 ^ 64:=Nat.lt_of_lt_of_le (LH hc2) (Nat.pow_le_pow_right (by decide) (by have:=hw.len;omega));have hon: ∀l,l∈ls.filter (Jk a p)↔l∈ls/\(Ag l).1.arg=a/\(Ag l).1.path=p:=fun l=>by rw[Kv,E0]
 rw[UU,A4,A4,A4,c4,c5,c6,Ra,LX hlt,Ls,DR];simp only[Iu,Th,hon];constructor
 .rintro ⟨h1,h2,h3,h4⟩
  have hk: ∀s,∃t,OK t/\(s∈(kg ls a p).AF->up.testBit (B2 w s).toNat=true->TT w ls a (p++[s]) t):=fun s=>by
   rcases Classical.em (s∈(kg ls a p).AF/\up.testBit (B2 w s).toNat=true)with⟨e1,e2⟩|e
   .have:=h4 s e1
    rw[if_pos e2]at this;obtain⟨t,q1,q2⟩:=(hcan s e1).1 this;exact⟨t,q1,fun _ _=>q2⟩
   .exact⟨.J3,hnon,fun e1 e2=>absurd ⟨e1,e2⟩ e⟩
  refine⟨fun s=>Classical.choose (hk s),fun s=>(Classical.choose_spec (hk s)).1,fun l k1 k2 q hq=>?_⟩;cases q with
  | nil =>
    rw[Fj]at hq;have hcl:=(hl l k1).cls;show EN _ _=_;simp only[EN];cases hb:(Ag l).2
    .have ho:=h1 l ⟨k1,k2,hq⟩ hb
     have hu:=h2 _ ⟨l,⟨k1,k2,hq⟩,ho,hb,rfl⟩;have:=hcl ho;rw[Cy.2 ho,Ed];by_cases e0:(Ag l).1.cls=0
     .rw[e0];rfl
     .have e3:3<=(Ag l).1.cls:=by
       rcases Int.lt_or_le (Ag l).1.cls 3 with hlt|hge
       .exfalso
        have:(Ag l).1.cls.toNat=1\/(Ag l).1.cls.toNat=2:=by omega
        rcases this with e|e<;>rw[e]at hu
        .rw[u1]at hu;cases hu
        .rw[u2]at hu;cases hu
       .exact hge
      rw[decide_eq_true e3,hu];simp
    .by_cases ho:(Ag l).1.op=2
     .have hn:=h3 _ ⟨l,⟨k1,k2,hq⟩,ho,hb,rfl⟩
      have:=hcl ho;rw[Cy.2 ho,Ed];have e0:(Ag l).1.cls≠0:=fun e=>hn (by rw[e];exact u0)
      rw[beq_eq_false_iff_ne.2 e0,Bool.false_or];cases hu:up.testBit (Ag l).1.cls.toNat
      .simp
      .exact(hn hu).elim
     .rw[beq_eq_false_iff_ne.2 ho];rfl
  | cons s r=>
    have hs:s∈(kg ls a p).AF:=(Ph hl).2 ⟨l,k1,k2,r,hq⟩;rw[NM];have hsp:=(Classical.choose_spec (hk s)).2;generalize Classical.choose (hk s)=t at hsp ⊢;cases hu:up.testBit (B2 w s).toNat
    .have:=h4 s hs
     rw[hu,if_neg (by decide),R5,Bool.not_not]at this;have:=FK.1 this l k1 k2 r (by rw[hq];simp);rw[this];rfl
    .rw[Ed]
     exact hsp hs hu l k1 k2 r (by rw[hq];simp)
 .rintro ⟨kid,hkid,hT⟩
  have hleaf: ∀l∈ls,(Ag l).1.arg=a->(Ag l).1.path=p->((Ag l).1.op==2&&((Ag l).1.cls==0||(decide (3<=(Ag l).1.cls)&&up.testBit (Ag l).1.cls.toNat)))= !(Ag l).2:=fun l k1 k2 k3=>hT l k1 k2 [] (by rw[k3];simp)
  refine⟨?_,?_,?_,?_⟩
  .rintro l ⟨k1,k2,k3⟩ hb
   have:=hleaf l k1 k2 k3;rw[hb,Bool.not_false,A4,Cy]at this;exact this.1
  .rintro b ⟨l,⟨k1,k2,k3⟩,ho,hb,rfl⟩
   have:=hleaf l k1 k2 k3;rw[hb,Bool.not_false,A4,Ek,A4,Cy,Cy]at this;rcases this.2 with e|e
   .rw[e];exact u0
   .exact e.2
  .rintro b ⟨l,⟨k1,k2,k3⟩,ho,hb,rfl⟩ hu
   have:=hleaf l k1 k2 k3;have hc:=(hl l k1).cls ho;rw[hb,Cy.2 ho,hu,Ed,Bool.and_true]at this;by_cases e0:(Ag l).1.cls=0
   .rw[e0]at this;cases this
   .have e3:3<=(Ag l).1.cls:=by
     rcases Int.lt_or_le (Ag l).1.cls 3 with hlt|hge
     .exfalso
      have:(Ag l).1.cls.toNat=1\/(Ag l).1.cls.toNat=2:=by omega
      rcases this with e|e<;>rw[e]at hu
      .rw[u1]at hu;cases hu
      .rw[u2]at hu;cases hu
     .exact hge
    rw[decide_eq_true e3]at this;simp at this
  .intro s hs
   cases hu:up.testBit (B2 w s).toNat
   .rw[if_neg (by decide),R5,Bool.not_not]
    refine FK.2 fun l k1 k2 q hq=>?_
    have:=hT l k1 k2 (s::q) (by rw[hq];simp);rw[NM,hu,Bool.false_and]at this;simpa using this.symm
   .rw[if_pos rfl]
    refine(hcan s hs).2 ⟨kid s,hkid s,fun l k1 k2 q hq=>?_⟩;have:=hT l k1 k2 (s::q) (by rw[hq];simp)
    rwa [NM,hu,Ed]at this
def Oc {w:AG} (hw:Nr w) {ls:List Fact} (hl: ∀l∈ls,Dc w l) {a:Int} {p:List Int} {C C':Nat->Bool} {kid:Int->I3} (h: ∀b,3<=b->C b=C' b) (hT:TT w ls a p (.obj C kid)):TT w ls a p (.obj C' kid):=fun l k1 k2 q hq=>by
 rw[<-hT l k1 k2 q hq];cases q with
 | nil=>
   show EN _ _=EN _ _;simp only[EN];by_cases h3:3<=(Ag l).1.cls
   .rw[h _ (by omega)]
   .rw[decide_eq_false h3,Bool.false_and,Bool.false_and]
 | cons s r=>
   have:=PF hw ((hl l k1).path s (by rw[hq];simp));rw[NM,NM,h _ (by omega)]
def UP (w:AG):I3->Prop
 | .int n=> -1000000000<=n/\n<=1000000000
 | .J3=>True
 | .obj C kid=>(∃c:Nat,3<=c/\c<3+w.parents.length/\ ∀b,C b=GG w.parents c b)/\ ∀s,UP w (kid s)
def Sq (w:AG) (t:I3) (c:Nat):Prop:=match t with
 | .int _=>c=1
 | .J3=>c=2
 | .obj C _=>3<=c/\c<3+w.parents.length/\ ∀b,C b=GG w.parents c b
def XW {w:AG}: ∀t:I3,UP w t-> ∃c,Sq w t c/\1<=c/\c<3+w.parents.length
 | .int _,_=>⟨1,rfl,by omega,by omega⟩
 | .J3,_=>⟨2,rfl,by omega,by omega⟩
 | .obj C kid,⟨⟨c,h1,h2,h3⟩,_⟩=>⟨c,⟨h1,h2,h3⟩,by omega,h2⟩
def Ul (w:AG) (kf:Int->List Int->Kn) (a:Int) (p:List Int) (can:Int->Bool) (c:Nat):Bool:=
 if c=1 then Gv kf a p else if c=2 then EA kf a p else UU w kf a p ((B1 w.parents).getD c 0) can
def Q2 (w:AG) (kf:Int->List Int->Kn) (a:Int):Nat->(Nat->Bool)->List Int->Bool
 | 0,fit,p=>(List.range (3+w.parents.length)).any fun c=>decide (1<=c)&&(fit c&&Ul w kf a p (fun _=>false) c)
 | d+1,fit,p=>(List.range (3+w.parents.length)).any fun c=>decide (1<=c)&&(fit c&&Ul w kf a p (fun s=>Q2 w kf a d (fun _=>true) (p++[s])) c)
def V8 {w : AG} (hw:Nr w) {ls:List Fact} (hl: ∀l∈ls,Dc w l) {a:Int} {p:List Int} {can:Int->Bool} (hcan: ∀s∈(kg ls a p).AF,(can s=true↔ ∃t,UP w t/\TT w ls a (p++[s]) t)) {c:Nat} (h1:1<=c) (h2:c<3+w.parents.length) :
    Ul w (kg ls) a p can c=true↔ ∃t,Sq w t c/\UP w t/\TT w ls a p t:=by
 rw[Ul];split
 .rename_i e
  subst e;rw[mf hw hl];constructor
  .rintro⟨m,k1,k2⟩
   exact⟨.int m,rfl,k1,k2⟩
  .rintro⟨t,k0,k1,k2⟩
   cases t with
   | int m=>exact⟨m,k1,k2⟩
   | J3=>cases k0
   | obj C kid=>exact absurd k0.1 (by omega)
 .split
  .rename_i e
   subst e;rw[im hw hl];constructor
   .intro k
    exact⟨.J3,rfl,trivial,k⟩
   .rintro⟨t,k0,k1,k2⟩
    cases t with
    | int m=>cases k0
    | J3=>exact k2
    | obj C kid=>exact absurd k0.1 (by omega)
  .rename_i e1 e2
   have hb:=fun b=>VM hw.ord (b:=b) h2
   have h3:3<=c:=by omega
   have u0:((B1 w.parents).getD c 0).testBit 0=true:=by rw[hb];rfl
   have hno: ∀b,b=1\/b=2->((B1 w.parents).getD c 0).testBit b=false:=fun b hbb=>by
    rw[hb,<-Bool.not_eq_true,Ek,Cy];rintro(h|h)
    .omega
    .have:=PC hw.ord c b h3 h
     omega
   rw[ig hw hl (OK:=UP w) trivial u0 (hno 1 (.inl rfl)) (hno 2 (.inr rfl)) hcan]
   have hagree: ∀b,3<=b->((B1 w.parents).getD c 0).testBit b=GG w.parents c b:=fun b hb3=>by
    rw[hb,beq_eq_false_iff_ne.2 (show b≠0 by omega),Bool.false_or]
   constructor
   .rintro⟨kid,k1,k2⟩
    exact⟨.obj (fun b=>GG w.parents c b) kid,⟨h3,h2,fun _=>rfl⟩,⟨⟨c,h3,h2,fun _=>rfl⟩,k1⟩,Oc hw hl hagree k2⟩
   .rintro⟨t,k0,k1,k2⟩
    cases t with
    | int m=>exact absurd k0 (by simp only[Sq];omega)
    | J3=>exact absurd k0 (by simp only[Sq];omega)
    | obj C kid=>
      exact⟨kid,k1.2,Oc hw hl (fun b hb3=>by rw[hagree b hb3,k0.2.2]) k2⟩
def Lt {w:AG} (hw:Nr w) {ls:List Fact} (hl: ∀l∈ls,Dc w l) (a:Int): ∀(d:Nat) (fit:Nat->Bool) (p:List Int),p.length+d=2->(Q2 w (kg ls) a d fit p=true↔ ∃t c,Sq w t c/\fit c=true/\UP w t/\TT w ls a p t):=by
 have key: ∀(fit:Nat->Bool) (p:List Int) (can:Int->Bool),(∀s∈(kg ls a p).AF,(can s=true↔ ∃t,UP w t/\TT w ls a (p++[s]) t))->(((List.range (3+w.parents.length)).any fun c=>decide (1<=c)&&(fit c&&Ul w (kg ls) a p can c))=true↔ ∃t c,Sq w t c/\fit c=true/\UP w t/\TT w ls a p t):=fun fit p can hcan=>by
  rw[GF];constructor
  .rintro⟨c,h1,h2⟩
   rw[A4,A4,CT]at h2;obtain⟨t,k0,k1,k2⟩:=(V8 hw hl hcan h2.1 (List.mem_range.1 h1)).1 h2.2.2;exact⟨t,c,k0,h2.2.1,k1,k2⟩
  .rintro⟨t,c,k0,k1,k2,k3⟩
   have hc:1<=c/\c<3+w.parents.length:=by
    cases t with
    | int m=>have k0:c=1:=k0;omega
    | J3=>have k0:c=2:=k0;omega
    | obj C kid=>have:=k0.1;have:=k0.2.1;omega
   refine⟨c,List.mem_range.2 hc.2,?_⟩;rw[decide_eq_true hc.1,k1,(V8 hw hl hcan hc.1 hc.2).2 ⟨t,k0,k2,k3⟩];rfl
 intro d
 induction d with
 | zero=>
   intro fit p hp;rw[Q2];refine key fit p _ fun s hs=>?_
   obtain⟨l,h1,h2,q,hq⟩:=(Ph hl).1 hs;have:=(hl l h1).short;rw[hq]at this;simp at this;omega
 | succ d ih=>
   intro fit p hp;rw[Q2];refine key fit p _ fun s _=>?_
   rw[ih (fun _=>true) (p++[s]) (by simp;omega)];constructor
   .rintro⟨t,c,_,_,k1,k2⟩
    exact⟨t,k1,k2⟩
   .rintro⟨t,k1,k2⟩
    obtain⟨c,k3,_⟩:=XW t k1;exact⟨t,c,k3,rfl,k1,k2⟩
def Hi (cs:List Int) (a:Int) (c:Nat):Bool:=decide ((cs.length:Int)<=a)||cs.getD a.toNat 0==(c:Int)
def IV (w:AG) (cs:List Int) (ls:List Fact):Bool:=(BT 3).all fun a=>Q2 w (kg ls) a 2 (Hi cs a) []
def ku (w:AG) (cs:List Int) (M:Int->I3):Prop:= ∀a,UP w (M a)/\(0<=a->a<3-> ∃c,Sq w (M a) c/\Hi cs a c=true)
def Ir {w:AG} (hw:Nr w) {cs:List Int} {ls:List Fact} (hl: ∀l∈ls,Dc w l):IV w cs ls=true↔ ∃M:Int->I3,ku w cs M/\ ∀l∈ls,Em w M l:=by
 rw[IV,DR];constructor
 .intro h
  have hk: ∀a:Int,∃t,UP w t/\(0<=a/\a<3->TT w ls a [] t/\ ∃c,Sq w t c/\Hi cs a c=true):=fun a=>by
   rcases Classical.em (0<=a/\a<3)with e|e
   .obtain⟨t,c,k0,k1,k2,k3⟩:=(Lt hw hl a 2 _ [] rfl).1 (h a (Ck.2 e))
    exact⟨t,k2,fun _=>⟨k3,c,k0,k1⟩⟩
   .exact⟨.J3,trivial,fun k=>absurd k e⟩
  exact⟨fun a=>Classical.choose (hk a),fun a=>⟨(Classical.choose_spec (hk a)).1,fun h0 h1=>((Classical.choose_spec (hk a)).2 ⟨h0,h1⟩).2⟩,fun l k=>((Classical.choose_spec (hk (Ag l).1.arg)).2 (hl l k).arg).1 l k rfl _ rfl⟩
 .rintro⟨M,h1,h2⟩ a ha
  have ha:=Ck.1 ha;obtain⟨c,k0,k1⟩:=(h1 a).2 ha.1 (by omega);refine(Lt hw hl a 2 _ [] rfl).2 ⟨M a,c,k0,k1,(h1 a).1,fun l k1 k2 q hq=>?_⟩;have:=h2 l k1;rw[Em,k2]at this;rw[List.nil_append]at hq;rw[<-hq];exact this
def stepOf (w:AG) (c:Int) (x:Fact×Bool):Bool:=(x.1.op==2&&Un w.parents c x.1.cls)==x.2
def uv (w:AG) (ls:List Fact) (a:Int) (p:List Int) (can:Int->Bool) (c:Int):Bool:=
 (ls.filter (Jk a p)).all (fun l=> !stepOf w c (Ag l))&&(CX w.owner.length ls a p).all fun s=>if hasB w c s then can s else EP ls a (p++[s])
def ai (w:AG) (ls:List Fact) (a:Int):Nat->List Int->Bool
 | 0,p=>((Ny ls a p).isSome&&GI w.owner.length ls a p)||(Ic w.owner.length ls a p||(BT w.parents.length).any fun c=>uv w ls a p (fun _=>false) (3+c))
 | d+1,p=>((Ny ls a p).isSome&&GI w.owner.length ls a p)||(Ic w.owner.length ls a p||(BT w.parents.length).any fun c=>uv w ls a p (fun s=>ai w ls a d (p++[s])) (3+c))
def Te {w : AG} (hw:Nr w) {ls:List Fact} (hl: ∀l∈ls,Dc w l) {a:Int} {p:List Int} {can:Int->Bool} (hcan: ∀s∈CX w.owner.length ls a p,(can s=true↔ ∃t,UP w t/\TT w ls a (p++[s]) t)) {c:Int} (h3:3<=c) (hc:c<3+(w.parents.length:Int)) :
    uv w ls a p can c=true↔ ∃kid,(∀s,UP w (kid s))/\TT w ls a p (.obj (fun b=>GG w.parents c.toNat b) kid):=by
 have hleaf: ∀l∈ls,∀kid,EN (.obj (fun b=>GG w.parents c.toNat b) kid) (Ag l).1=((Ag l).1.op==2&&Un w.parents c (Ag l).1.cls):=fun l hm kid=>by
  simp only[EN];by_cases ho:(Ag l).1.op=2
  .have hcl:=(hl l hm).cls ho
   rw[Cy.2 ho,Ed,Ed,Un,decide_eq_true h3,Ed];by_cases hz:(Ag l).1.cls=0
   .rw[hz];simp
   rw[beq_eq_false_iff_ne.2 hz,Bool.false_or,Bool.false_or];by_cases h3c:3<=(Ag l).1.cls
   .rw[decide_eq_true h3c,Ed]
    by_cases he:c=(Ag l).1.cls
    .rw[<-he,FH hw.ord];simp
    .rw[beq_eq_false_iff_ne.2 he,Bool.false_or]
   .rw[decide_eq_false h3c,Bool.false_and,beq_eq_false_iff_ne.2 (show c≠(Ag l).1.cls by omega),Bool.false_or]
    cases hb:GG w.parents c.toNat (Ag l).1.cls.toNat
    .rfl
    .have:=PC hw.ord _ _ (by omega) hb
     omega
  .rw[beq_eq_false_iff_ne.2 ho];rfl
 have hhas: ∀s,0<=s/\s<(w.owner.length:Int)->hasB w c s=GG w.parents c.toNat (B2 w s).toNat:=fun s hs=>by
  have ho:=PF hw hs;rw[hasB,Un,decide_eq_true h3,Ed,beq_eq_false_iff_ne.2 (show B2 w s≠0 by omega),Bool.false_or,Ed];by_cases he:c=B2 w s
  .rw[<-he,FH hw.ord];simp
  .rw[beq_eq_false_iff_ne.2 he,Bool.false_or]
 have hstep: ∀l∈ls,∀kid,(!stepOf w c (Ag l))=true↔EN (.obj (fun b=>GG w.parents c.toNat b) kid) (Ag l).1= !(Ag l).2:=fun l hm kid=>by
  rw[hleaf l hm kid,stepOf];cases((Ag l).1.op==2&&Un w.parents c (Ag l).1.cls)<;>cases(Ag l).2<;>decide
 rw[uv,A4,DR,DR];constructor
 .rintro⟨h1,h2⟩
  have hk: ∀s,∃t,UP w t/\(s∈CX w.owner.length ls a p->hasB w c s=true->TT w ls a (p++[s]) t):=fun s=>by
   rcases Classical.em (s∈CX w.owner.length ls a p/\hasB w c s=true)with⟨e1,e2⟩|e
   .have:=h2 s e1
    rw[if_pos e2]at this;obtain⟨t,q1,q2⟩:=(hcan s e1).1 this;exact⟨t,q1,fun _ _=>q2⟩
   .exact⟨.J3,trivial,fun e1 e2=>absurd ⟨e1,e2⟩ e⟩
  refine⟨fun s=>Classical.choose (hk s),fun s=>(Classical.choose_spec (hk s)).1,fun l k1 k2 q hq=>?_⟩;cases q with
  | nil=>
    rw[Fj]at hq;exact(hstep l k1 _).1 (h1 l (Kv.2 ⟨k1,E0.2 ⟨k2,hq⟩⟩))
  | cons s r=>
    have hs:s∈CX w.owner.length ls a p:=(JM hl).2 ⟨l,k1,k2,r,hq⟩;have hin:=HS hs;rw[NM,<-hhas s hin];have hsp:=(Classical.choose_spec (hk s)).2;generalize Classical.choose (hk s)=t at hsp ⊢;cases hu:hasB w c s
    .have:=h2 s hs
     rw[hu,if_neg (by decide)]at this;rw[FK.1 this l k1 k2 r (by rw[hq];simp)];rfl
    .rw[Ed]
     exact hsp hs hu l k1 k2 r (by rw[hq];simp)
 .rintro⟨kid,hkid,hT⟩
  refine⟨fun l hm=>?_,fun s hs=>?_⟩
  .obtain⟨k1,k2⟩:=Kv.1 hm
   obtain⟨k3,k4⟩:=E0.1 k2;exact(hstep l k1 kid).2 (hT l k1 k3 [] (by rw[k4];simp))
  .have hin:=HS hs
   cases hu:hasB w c s
   .rw[if_neg (by decide)]
    refine FK.2 fun l k1 k2 q hq=>?_
    have:=hT l k1 k2 (s::q) (by rw[hq];simp);rw[NM,<-hhas s hin,hu,Bool.false_and]at this;simpa using this.symm
   .rw[if_pos rfl]
    refine(hcan s hs).2 ⟨kid s,hkid s,fun l k1 k2 q hq=>?_⟩;have:=hT l k1 k2 (s::q) (by rw[hq];simp)
    rwa [NM,<-hhas s hin,hu,Ed]at this
def WB {w:AG} (hw:Nr w) {ls:List Fact} (hl: ∀l∈ls,Dc w l) (a:Int): ∀(d:Nat) (p:List Int),p.length+d=2->(ai w ls a d p=true↔ ∃t,UP w t/\TT w ls a p t):=by
 have key: ∀(p:List Int) (can:Int->Bool),(∀s∈CX w.owner.length ls a p,(can s=true↔ ∃t,UP w t/\TT w ls a (p++[s]) t))->((((Ny ls a p).isSome&&GI w.owner.length ls a p)||(Ic w.owner.length ls a p||(BT w.parents.length).any fun c=>uv w ls a p can (3+c)))=true↔ ∃t,UP w t/\TT w ls a p t):=fun p can hcan=>by
  rw[Ek,Ek,Ll hl,JP hl,GF];constructor
  .rintro(⟨m,h1,h2⟩|h|⟨c,h1,h2⟩)
   .exact⟨.int m,h1,h2⟩
   .exact⟨.J3,trivial,h⟩
   .have:=Ck.1 h1
    obtain⟨kid,k1,k2⟩:=(Te hw hl hcan (by omega) (by omega)).1 h2;exact⟨.obj (fun b=>GG w.parents (3+c).toNat b) kid,⟨⟨(3+c).toNat,by omega,by omega,fun _=>rfl⟩,k1⟩,k2⟩
  .rintro⟨t,h1,h2⟩
   cases t with
   | int m=>exact .inl ⟨m,h1,h2⟩
   | J3=>exact .inr (.inl h2)
   | obj C kid=>
     obtain⟨⟨c,k1,k2,k3⟩,k4⟩:=h1;refine .inr (.inr ⟨(c:Int) - 3,Ck.2 (by omega),(Te hw hl hcan (by omega) (by omega)).2 ⟨kid,k4,?_⟩⟩);rw[show(3+((c:Int) - 3)).toNat=c by omega];exact Oc hw hl (fun b _=>k3 b) h2
 intro d
 induction d with
 | zero=>
   intro p hp;rw[ai];refine key p _ fun s hs=>?_
   rw[Mu (m:=2) (fun l h=>(hl l h).short) (by omega)]at hs;cases hs
 | succ d ih=>
   intro p hp;rw[ai];exact key p _ fun s _=>ih (p++[s]) (by simp;omega)
def ph (w:AG) (ls:List Fact) (cs:List Int) (a:Int):Bool:=
 if(cs.length:Int)<=a\/cs.getD a.toNat 0=0 then ai w ls a 2 []else if cs.getD a.toNat 0=1 then(Ny ls a []).isSome&&GI w.owner.length ls a []else if cs.getD a.toNat 0=2 then Ic w.owner.length ls a []else uv w ls a [] (fun s=>ai w ls a 1 [s]) (cs.getD a.toNat 0)
def Og (w:AG) (cs:List Int) (ls:List Fact):Bool:=(BT 3).all (ph w ls cs)
def VR {w : AG} (hw:Nr w) {ls:List Fact} (hl: ∀l∈ls,Dc w l) {cs:List Int} (hcs: ∀c∈cs,1<=c/\c<3+(w.parents.length:Int)) {a:Int} (h0:0<=a):ph w ls cs a=true↔ ∃t c,Sq w t c/\Hi cs a c=true/\UP w t/\TT w ls a [] t:=by
 rw[ph];by_cases hle:(cs.length:Int)<=a
 .rw[if_pos (.inl hle),WB hw hl a 2 [] rfl]
  have hf: ∀c,Hi cs a c=true:=fun c=>by rw[Hi,decide_eq_true hle];rfl
  constructor
  .rintro⟨t,k1,k2⟩
   obtain⟨c,k3,_⟩:=XW t k1;exact⟨t,c,k3,hf c,k1,k2⟩
  .rintro⟨t,c,_,_,k1,k2⟩
   exact⟨t,k1,k2⟩
 .obtain ⟨x,hx⟩: ∃x,cs[a.toNat]? =some x:=⟨_,Di (by omega)⟩
  have hxd:cs.getD a.toNat 0=x:=by rw[Dh,hx];rfl
  have hxc:=hcs x (Dn hx);have hf: ∀c:Nat,Hi cs a c=true↔x=(c:Int):=fun c=>by rw[Hi,decide_eq_false hle,Bool.false_or,hxd,Cy]
  rw[hxd,if_neg (by omega)];by_cases h1:x=1
  .rw[if_pos h1,Ll hl]
   constructor
   .rintro⟨m,k1,k2⟩
    exact⟨.int m,1,rfl,(hf 1).2 h1,k1,k2⟩
   .rintro⟨t,c,k0,k1,k2,k3⟩
    have:=(hf c).1 k1;cases t with
    | int m=>exact⟨m,k2,k3⟩
    | J3=>have k0:c=2:=k0;omega
    | obj C kid=>have:=k0.1;omega
  .rw [if_neg h1]
   by_cases h2:x=2
   .rw[if_pos h2,JP hl]
    constructor
    .intro k
     exact⟨.J3,2,rfl,(hf 2).2 h2,trivial,k⟩
    .rintro⟨t,c,k0,k1,k2,k3⟩
     have:=(hf c).1 k1;cases t with
     | int m=>have k0:c=1:=k0;omega
     | J3=>exact k3
     | obj C kid=>have:=k0.1;omega
   .rw [if_neg h2,Te hw hl (fun s _=>WB hw hl a 1 [s] rfl) (by omega) (by omega)]
    constructor
    .rintro⟨kid,k1,k2⟩
     exact⟨.obj (fun b=>GG w.parents x.toNat b) kid,x.toNat,⟨by omega,by omega,fun _=>rfl⟩,(hf _).2 (by omega),⟨⟨x.toNat,by omega,by omega,fun _=>rfl⟩,k1⟩,k2⟩
    .rintro⟨t,c,k0,k1,k2,k3⟩
     have:=(hf c).1 k1;cases t with
     | int m=>have k0:c=1:=k0;omega
     | J3=>have k0:c=2:=k0;omega
     | obj C kid=>
       refine⟨kid,k2.2,Oc hw hl (fun b _=>?_) k3⟩;rw[k0.2.2,show x.toNat=c by omega]
def qX {w:AG} (hw:Nr w) {cs:List Int} (hcs: ∀c∈cs,1<=c/\c<3+(w.parents.length:Int)) {ls:List Fact} (hl: ∀l∈ls,Dc w l):IV w cs ls=Og w cs ls:=by
 rw[IV,Og,Gr,DR,DR];constructor
 .intro h a ha
  exact(VR hw hl hcs (Ck.1 ha).1).2 ((Lt hw hl a 2 _ [] rfl).1 (h a ha))
 .intro h a ha
  exact(Lt hw hl a 2 _ [] rfl).2 ((VR hw hl hcs (Ck.1 ha).1).1 (h a ha))
end Go.Gl
