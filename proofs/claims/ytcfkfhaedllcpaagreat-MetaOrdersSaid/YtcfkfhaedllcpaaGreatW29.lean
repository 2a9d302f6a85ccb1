import Derived.Test.YtcfkfhaedllcpaaGreatW14
import Derived.Test.YtcfkfhaedllcpaaGreatW21
import Derived.Test.YtcfkfhaedllcpaaGreatW25
import Derived.Test.YtcfkfhaedllcpaaGreatW26
import Derived.Test.YtcfkfhaedllcpaaGreatW27
import Derived.Test.YtcfkfhaedllcpaaGreatW28
set_option linter.all false
set_option linter.defProp false
set_option maxHeartbeats 8000000
noncomputable section
namespace Go.Gl
open Go.Proofs
attribute [local irreducible] A3 Aq Af AR AJ Ad AQ AT AK Ac AM AN Ax A5 Sat AX A4 Ah W
def vD (w:AI) (hw:Dx w) {kf:Int->List Int->Kn} (hr:JB w kf) (a:Int): ∀(d:Nat) (p:List Int),p.length+d=2-> ∀(L:Nat) (es:List Cx),Dr kf es->
    Bc zP 404 [Uh w (Ek w.parents) L,EV a p] (B8 L es) fun r post=>r= .ret (.b (OR w kf a d p))/\PD kf L es post:=by
 intro d
 induction d with
 | zero=>
   intro p hp L es h Z hs;have hint:=QU w (Ek w.parents) hr h (L:=L) (a:=a) (p:=p) (by omega);have hnone:=fun es h=>ZY w (Ek w.parents) hr (es:=es) h (L:=L) (a:=a) (p:=p) (by omega)
   have hobj:=fun es h=>SC w hw hr (a:=a) (p:=p) (by omega) (fun _=>false) (by rw[hr.short a p (by omega)];intro s hs;cases hs) (L:=L) (es:=es) h
   rw[OR];cases hI:TE kf a p<;>cases hN:LV kf a p<;>rw[hI]at hint<;>rw[hN]at hnone
   all_goals
    refine fl kZ ?_
    conv=>whnf
    repeat'((first|apply st|(apply sq;intro K U)|(apply si;intro A B hA hB)|(refine hA _ _ ?_;clear hB B hA A)|(apply U;clear U K)|refine⟨kZ,?_⟩|fail)<;>conv=>whnf)
    refine hint.use (rest:=[]) (by simpa using hs) ?_;clear hs;rintro r post Z ⟨rfl,es2,hx2,hi2,rfl⟩ hs;rw[Ip]at hs
    conv=>whnf
    repeat'((first|apply st|(apply sq;intro K U)|(apply si;intro A B hA hB)|(refine hA _ _ ?_;clear hB B hA A)|(apply U;clear U K)|refine⟨kZ,?_⟩|clear U K)<;>conv=>whnf)
   rotate_left 2
   .exact AU ⟨_,⟨rfl,es2,hx2,hi2,rfl⟩,hs⟩
   .exact AU ⟨_,⟨rfl,es2,hx2,hi2,rfl⟩,hs⟩
   all_goals
    refine(hnone es2 hi2).use (rest:=[]) (by simpa using hs) ?_;clear hs;rintro r post Z ⟨rfl,es3,hx3,hi3,rfl⟩ hs;rw[Ip]at hs
    conv=>whnf
    repeat'((first|apply st|(apply sq;intro K U)|(apply si;intro A B hA hB)|(refine hA _ _ ?_;clear hB B hA A)|(apply U;clear U K)|refine⟨kZ,?_⟩|refine df ?_|refine Ox ?_|clear U K)<;>conv=>whnf)
   rotate_left 1
   .exact AU ⟨_,⟨rfl,es3,hx2.trans hx3,hi3,rfl⟩,hs⟩
   .refine(hobj es3 hi3).use (rest:=[]) (by simpa using hs) ?_
    clear hs;rintro r post Z ⟨rfl,es4,hx4,hi4,rfl⟩ hs;rw[Ip]at hs
    conv=>whnf
    repeat'((first|apply st|(apply sq;intro K U)|(apply si;intro A B hA hB)|(refine hA _ _ ?_;clear hB B hA A)|(apply U;clear U K)|fail)<;>conv=>whnf)
    exact AU ⟨_,⟨rfl,es4,(hx2.trans hx3).trans hx4,hi4,rfl⟩,hs⟩
 | succ d ih=>
   intro p hp L es h Z hs;have hint:=QU w (Ek w.parents) hr h (L:=L) (a:=a) (p:=p) (by omega);have hnone:=fun es h=>ZY w (Ek w.parents) hr (es:=es) h (L:=L) (a:=a) (p:=p) (by omega)
   have hobj:=fun es h=>SC w hw hr (a:=a) (p:=p) (by omega) (fun s=>OR w kf a d (p++[s])) (fun s hs L es h=>ih (p++[s]) (by simp;omega) L es h) (L:=L) (es:=es) h
   rw[OR];cases hI:TE kf a p<;>cases hN:LV kf a p<;>rw[hI]at hint<;>rw[hN]at hnone
   all_goals
    refine fl kZ ?_
    conv=>whnf
    repeat'((first|apply st|(apply sq;intro K U)|(apply si;intro A B hA hB)|(refine hA _ _ ?_;clear hB B hA A)|(apply U;clear U K)|refine⟨kZ,?_⟩|fail)<;>conv=>whnf)
    refine hint.use (rest:=[]) (by simpa using hs) ?_;clear hs;rintro r post Z ⟨rfl,es2,hx2,hi2,rfl⟩ hs;rw[Ip]at hs
    conv=>whnf
    repeat'((first|apply st|(apply sq;intro K U)|(apply si;intro A B hA hB)|(refine hA _ _ ?_;clear hB B hA A)|(apply U;clear U K)|refine⟨kZ,?_⟩|clear U K)<;>conv=>whnf)
   rotate_left 2
   .exact AU ⟨_,⟨rfl,es2,hx2,hi2,rfl⟩,hs⟩
   .exact AU ⟨_,⟨rfl,es2,hx2,hi2,rfl⟩,hs⟩
   all_goals
    refine(hnone es2 hi2).use (rest:=[]) (by simpa using hs) ?_;clear hs;rintro r post Z ⟨rfl,es3,hx3,hi3,rfl⟩ hs;rw[Ip]at hs
    conv=>whnf
    repeat'((first|apply st|(apply sq;intro K U)|(apply si;intro A B hA hB)|(refine hA _ _ ?_;clear hB B hA A)|(apply U;clear U K)|refine⟨kZ,?_⟩|refine df ?_|refine Ox ?_|clear U K)<;>conv=>whnf)
   rotate_left 1
   .exact AU ⟨_,⟨rfl,es3,hx2.trans hx3,hi3,rfl⟩,hs⟩
   .refine(hobj es3 hi3).use (rest:=[]) (by simpa using hs) ?_
    clear hs;rintro r post Z ⟨rfl,es4,hx4,hi4,rfl⟩ hs;rw[Ip]at hs
    conv=>whnf
    repeat'((first|apply st|(apply sq;intro K U)|(apply si;intro A B hA hB)|(refine hA _ _ ?_;clear hB B hA A)|(apply U;clear U K)|fail)<;>conv=>whnf)
    exact AU ⟨_,⟨rfl,es4,(hx2.trans hx3).trans hx4,hi4,rfl⟩,hs⟩
abbrev ox:V:= .Ey 433 (.a [])
def gi (w:AI) (hw:Dx w) {kf:Int->List Int->Kn} (hr:JB w kf) {L:Nat} {es:List Cx} (h:Dr kf es) :
    Bc zP 398 [Uh w (Ek w.parents) L] (B8 L es) fun r post=>r=(if dh w kf then .ret (.t [])else .Bb ox)/\post= []:=by
 intro Z hs;refine sF kZ ?_
 conv=>whnf
 repeat'((first|apply st|(apply sq;intro K U)|(apply si;intro A B hA hB)|(refine hA _ _ ?_;clear hB B hA A)|(apply U;clear U K)|fail)<;>conv=>whnf)
 refine B0 3 (fun k (x:List Cx)=>[(3,eI (A8 k))]) (fun k x=>B8 L x) (fun k x=>Dr kf x/\dh w kf=((Cn 3).drop k).all fun a=>OR w kf a 2 []) es rfl ⟨h,rfl⟩ hs ?_;clear hs h;rintro k es Z hk ⟨h,hn⟩ hs;have hck:A8 k=k:=AO (by simp only[AY];omega);have hl3:(Cn 3).length=3:=rfl;rcases BC (Cn 3) hk with⟨a,ha,hlt⟩|hke
 .rw[drop_cons ha,LC]at hn
  have hak:a=A8 k:=by
   rw[hck];simp only[Cn,Md,List.getElem?_range (show k<3 from hlt),W6]at ha;exact(Option.some.inj ha).symm
  subst hak;have hcan:=vD w hw hr (A8 k) 2 [] rfl L es h;cases hC:OR w kf (A8 k) 2 []<;>rw[hC]at hcan hn
  all_goals
   conv=>whnf
   repeat'((first|apply st|(apply sq;intro K U)|(apply si;intro A B hA hB)|(refine hA _ _ ?_;clear hB B hA A)|(apply U;clear U K)|refine⟨rfl,?_⟩|(constructor<;>intro hc<;>(try rw[hc])<;>(replace hc:=bp hc)<;>(try simp(disch:=omega) only[BU,wrap64,AO]at hc)<;>try(exfalso;omega))|fail)<;>conv=>whnf)
   refine hcan.use (rest:=[]) (by simpa using hs) ?_;clear hs;rintro r post Z ⟨rfl,es2,hx2,hi2,rfl⟩ hs;rw[Ip]at hs
   conv=>whnf
   repeat'((first|apply st|(apply si;intro A B hA hB)|(refine hA _ _ ?_;clear hB B hA A)|(refine hB _ _ _ ?_;clear hB B hA A)|(apply U;clear U K)|refine⟨rfl,?_⟩|refine df ?_|refine Ox ?_|clear U K)<;>conv=>whnf)
  .exact DE ⟨_,⟨by rw[hn];rfl,rfl⟩,hs.less (KG _)⟩
  .exact⟨by omega,es2,rfl,⟨hi2,by simpa using hn⟩,hs⟩
 .rw[Ao hke]at hn
  conv=>whnf
  repeat'((first|apply st|(apply sq;intro K U)|(apply si;intro A B hA hB)|(refine hA _ _ ?_;clear hB B hA A)|(apply U;clear U K)|refine⟨rfl,?_⟩|(constructor<;>intro hc<;>(try rw[hc])<;>(replace hc:=bp hc)<;>(try simp(disch:=omega) only[BU,wrap64,AO]at hc)<;>try(exfalso;omega))|clear U K)<;>conv=>whnf)
  exact AU ⟨_,⟨by rw[hn];rfl,rfl⟩,hs.less (KG _)⟩
def aH {w:AI} {ls:List Fact} (hw:w.parents.length<=60) (h: ∀x∈ls,Is w x):Xl ls:=by
 intro l hl;obtain⟨-,hc,hsm,hsh⟩:=JG h;obtain⟨-,hn,hlf⟩:=HS (h l hl);exact⟨Fq hlf,hsh l hl,fun ho=>by have:=hc l hl ho;omega,hsm l hl⟩
def rG {ls:List Fact} (h:KW ls) (a:Int) (p:List Int): -1000000000<=(kn ls a p).low/\(kn ls a p).low<=1000000000:=by
 have key: ∀(ls:List Fact) (k:Kn),KW ls->(-1000000000<=k.low/\k.low<=1000000000)-> -1000000000<=(ls.foldl (C5 a p) k).low/\(ls.foldl (C5 a p) k).low<=1000000000:=by
  intro ls
  induction ls with
  | nil=>intro k _ h;exact h
  | cons l r ih=>
    intro k hs hk;refine ih _ (fun x hx=>hs x (.tail _ hx)) ?_;have hn:=hs l (.head _);unfold C5 Ck Db jt
    repeat' split
    all_goals first
     | exact hk
     | exact hn
     | (simp only;exact hk)
     | (simp only;exact hn)
 exact key ls k0 h ⟨by decide,by decide⟩
def ZQ {w:AI} {ls:List Fact} (h: ∀x∈ls,Is w x):Ht w.owner.length ls:=by
 intro l hl s hs;obtain⟨-,hn,-⟩:=HS (h l hl);rw[Cp,BD]at hn;have:=hn.1;simp only[C6,E5,BD,E3,IU,CN]at this;exact this.2.2.2.2.1.1 s hs
def lM {w:AI} (hw:Dx w) {ls:List Fact} (h: ∀x∈ls,Is w x) (hlen:ls.length<900):JB w (kn ls):=by
 have hadd:=aH (by have:=hw.1.1;omega) h;obtain⟨-,-,hsm,hsh⟩:=JG h;have hp:=ZQ h;refine⟨fun a p=>?_,rG hsm,fun a p hpl=>?_,fun a p s hs=>?_⟩
 .obtain⟨h1,h2,h3,h4⟩:=fX hadd a p
  exact⟨h1,h2,by omega,by omega⟩
 .rw[L8 hp]
  exact NJ hsh hpl
 .rw[L8 hp]at hs
  exact Jo hs
def qC {w:AI} (hw:Dx w) {ls:List Fact} (h: ∀x∈ls,Is w x):dh w (kn ls)=Gn w ls:=by
 obtain⟨-,hc,-,-⟩:=JG h;refine qD ?_ (fun s h0 h1=>?_) (by have:=hw.1.1;omega) (fun l hl ho=>by have:=hc l hl ho;omega) (ZQ h)
 .exact cL hw.1
 .obtain⟨o,ho⟩: ∃o,w.owner[s.toNat]? =some o:=⟨_,Cy (by omega)⟩
  have hoI:Cm w s=o:=by simp only[Cm,DH,ho];rfl
  rw[hoI];exact hw.2.2 o (B1 ho)
def nG {Z:AE} {n:Nat} {x:V} {rest:List At} (hs:Sat Z (.box n [x]::rest)) {Q:AE->Prop} (hq: ∀Z',Sat Z' (.box n [.b false]::rest)->Q Z'):Gs zP 396 [.p n 0] (some ox) Z Q:=by
 refine Z1 kZ ?_
 conv=>whnf
 repeat'((first|apply st|(apply sq;intro K U)|(apply si;intro A B hA hB)|(refine hA _ _ ?_;clear hB B hA A)|(apply U;clear U K)|refine nt fun Z hs=>?_|refine Ug fun Z hs=>?_|refine pS rfl ?_|(intro nn hnn;generalize hg:Bd _ nn _=Z;refine RX hg fun hs=>?_;clear hg)|fail)<;>conv=>whnf)
 exact hq _ (hs.less (Mc _ _))
def nH {Z:AE} {n:Nat} {x:V} {rest:List At} (hs:Sat Z (.box n [x]::rest)) {Q:AE->Prop} (hq: ∀Z',Sat Z' (.box n [x]::rest)->Q Z'):Gs zP 396 [.p n 0] none Z Q:=by
 refine Z1 kZ ?_
 conv=>whnf
 repeat'((first|apply st|(apply sq;intro K U)|(apply si;intro A B hA hB)|(refine hA _ _ ?_;clear hB B hA A)|(apply U;clear U K)|refine⟨rfl,?_⟩|refine Ug fun Z hs=>?_|(intro nn hnn;generalize hg:Bd _ nn _=Z;refine RX hg fun hs=>?_;clear hg)|fail)<;>conv=>whnf)
 exact hq _ (hs.less (Mc _ _))
attribute [local irreducible] Gs
def WO (w:AI) (hw:Dx w) (ls:List Fact) (b:Bool) (hl: ∀x∈ls,Is w x) (hlen:ls.length<900):Pure zP 388 [.rp (wC w (Ek w.parents)),.l (E7 ls) b] (.b (Gn w ls)):=by
 refine Pure.of ?_;refine sN kZ ?_;have hs:=Sn
 conv=>whnf
 repeat'((first|(apply sq;intro K U)|(apply si;intro A B hA hB)|(refine hA _ _ ?_;clear hB B hA A)|(apply U;clear U K)|(intro nn hnn;generalize hg:Bd _ nn _=Z;refine RX hg fun hs=>?_;clear hg)|fail)<;>conv=>whnf)
 refine(gv w (Ek w.parents) ls b (aH (by have:=hw.1.1;omega) hl) hlen).use (rest:=[.box nn [.b false]]) (by simpa using hs) ?_;clear hs;rintro r post Z ⟨L,es,rfl,hinv,rfl⟩ hs;have hwh:=gi w hw (lM hw hl hlen) hinv (L:=L);rw[qC hw hl]at hwh;cases ht:Gn w ls<;>rw[ht]at hwh
 all_goals
  conv=>whnf
  refine hwh.use (rest:=[.box nn [.b false]]) hs ?_;clear hs;rintro r post Z ⟨rfl,rfl⟩ hs
  conv=>whnf
  repeat'((first|apply st|(apply sq;intro K U)|(apply si;intro A B hA hB)|(refine hA _ _ ?_;clear hB B hA A)|(refine hB _ _ _ ?_;clear hB B hA A)|(apply U;clear U K)|refine nt fun Z hs=>?_|clear U K)<;>conv=>whnf)
 .refine nG (rest:=[]) hs fun Z hs=>?_
  conv=>whnf
  repeat'((first|refine ld ?_|fail)<;>conv=>whnf)
  exact AU (by rw[ht];rfl)
 .refine nH (rest:=[]) (x:= .b true) hs fun Z hs=>?_
  conv=>whnf
  repeat'((first|refine ld ?_|fail)<;>conv=>whnf)
  exact AU (by rw[ht];rfl)
end Go.Gl
namespace Go.Gl
open Go.Proofs
attribute [local irreducible] A3 Aq Af AR AJ Ad AQ AT AK Ac AM AN Ax A5 Sat AX A4 Ah W
def Ua {α S:Type} (stp:α->S->Bool×S) (D:α->S->Prop):List α->S->Prop
 | [],_=>True
 | y::r,s=>D y s/\((stp y s).1=true->Ua stp D r (stp y s).2)
section
variable {α β S:Type} {stp:α->S->Bool×S} {D:α->S->Prop}
def P1: ∀(A B:List α) (s:S),Ce stp (A++B) s=if(Ce stp A s).1 then Ce stp B (Ce stp A s).2 else(false,(Ce stp A s).2)
 | [],B,s=>by simp[Ce]
 | y::r,B,s=>by
   rw[List.cons_append,Ce,Ce];cases(stp y s).1
   .rfl
   .simpa using P1 r B (stp y s).2
def WC (l:α) (s:S):Ce stp [l] s=stp l s:=by
 rw[Ce,Ce];rcases stp l s with⟨b,s'⟩;cases b<;>rfl
def Ts: ∀ {A B:List α} {s:S},Ua stp D (A++B) s->Ua stp D A s/\((Ce stp A s).1=true->Ua stp D B (Ce stp A s).2)
 | [],B,s,h=>⟨trivial,fun _=>h⟩
 | y ::r,B,s,h=>by
   obtain⟨h1,h2⟩:=h;rw[Ua,Ce];cases hy:(stp y s).1
   .exact⟨⟨h1,fun h=>(by cases h)⟩,fun h=>(by simp at h)⟩
   .obtain⟨h3,h4⟩:=Ts (h2 hy)
    exact⟨⟨h1,fun _=>h3⟩,by simpa using h4⟩
def Og {A:List α}: ∀ {B:List α} {s:S},(∀y∈B,y∈A)->Ua stp D B s->Ua stp (fun y s=>y∈A/\D y s) B s
 | [],_,_,_=>trivial
 | y::r,_,hm,h=>⟨⟨hm y (.head _),h.1⟩,fun hy=>Og (fun z hz=>hm z (.tail _ hz)) (h.2 hy)⟩
def ZT {g:β->α}: ∀ {B:List β} {s:S},Ua stp D (B.map g) s->Ua (fun b s=>stp (g b) s) (fun b s=>D (g b) s) B s
 | [],_,_=>trivial
 | y::r,_,h=>⟨h.1,fun hy=>ZT (h.2 hy)⟩
end
section
variable {S:Type} {stp:List Fact->S->Bool×S} {D:List Fact->S->Prop}
def Sx (B:List (List Fact)): ∀(A:List (List Fact)) (s:S),Ce stp (Da A B) s=Ce (fun x s=>Ce (fun y s=>stp (CL x y) s) B s) A s
 | [],s=>rfl
 | x::r,s=>by
   have ih:=Sx B r;rw[Da,List.flatMap_cons,P1,MI,Ce];simp only[Da]at ih;rw[ih]
def Vg (B:List (List Fact)): ∀ {A:List (List Fact)} {s:S},Ua stp D (Da A B) s->Ua (fun x s=>Ce (fun y s=>stp (CL x y) s) B s) (fun x s=>Ua (fun y s=>stp (CL x y) s) (fun y s=>D (CL x y) s) B s) A s
 | [],_,_=>trivial
 | x::r,s,h=>by
   rw[Da,List.flatMap_cons]at h;obtain⟨h1,h2⟩:=Ts h;refine⟨ZT h1,fun hy=>?_⟩;rw[MI]at h2;exact Vg B (h2 hy)
end
abbrev XG (l:List Fact) (b:Bool):V:= .l (E7 l) b
def Rj {S:Type} (x:V) (H:S->List At) (stp:List Fact->S->Bool×S) (D:List Fact->S->Prop):Prop:= ∀b,Cz zP x (fun l=>XG l b) H stp D
abbrev Uz (n:Nat):V:= .f (.func 392) [] [.p n 0]
def b7 {f:Fact} (hl:B7 f=true) (c:Bool):KQ (if c then FV f else f)=xF f++[.b c]:=by
 have:=Fq hl;cases c with
 | true=>rfl
 | false=>
   have h5: ¬f.op=5:=by omega
   simp only[KQ,LG,if_false,Av,if_neg h5]
def WalkC (f:Fact):Prop:= ∀(c:Bool) (S:Type) (fn:Fn) (fi ca:List V) (H:S->List At) (stp:List Fact->S->Bool×S) (D:List Fact->S->Prop) (nW:Nat) (s:S),
 Rj (.f fn fi ca) (fun s=> .box nW [Uz nW]::H s) stp D->Ua stp D (BG f c) s-> ∀Z,Sat Z (.box nW [Uz nW]::H s)->
  Ax zP (Uz nW) [.a (xF f),.b c,.f fn fi ca] Z fun r Z'=>r= .ret (.b (Ce stp (BG f c) s).1)/\Sat Z' (.box nW [Uz nW]::H (Ce stp (BG f c) s).2)
def jZ {w:AI} {S:Type} {fn:Fn} {fi ca:List V} {H:S->List At} {stp:List Fact->S->Bool×S} {D:List Fact->S->Prop} (hT:Rj (.f fn fi ca) H stp D) {k0 k1:Fact} {c:Bool} (hn0:Bh w k0=true) (hn1:Bh w k1=true) (hv0:lv k0<=100) (hv1:lv k1<=100) {a:List Fact} (ha:a∈BG k0 c) (fa:Bool) :
    Rj (.f (.func 394) [] [.rp [.f fn fi ca],.rp [XG a fa]]) H (fun y s=>stp (CL a y) s) (fun y s=>y∈BG k1 c/\D (CL a y) s):=by
 rintro b y s ⟨hy,hd⟩ Z hs;refine By ?_;show A3 zP 394 ([]++[XG y b]++[.rp [.f fn fi ca],.rp [XG a fa]]) Z _;have hla:=(ET k0 (Cr _ hn0) c).2 a ha;have hly:=(ET k1 (Cr _ hn1) c).2 y hy;have hM:=Mx;refine sI kZ ?_
 conv=>whnf
 repeat'((first|clear U K|apply st|(apply zk;intro K U)|refine rk ?_ ?_|exact fun s e=>by cases e;rfl|refine Pure.use (cG (w:=w) a y fa b (Ec k0 hn0 c a ha) (Ec k1 hn1 c y hy) (by omega)) ?_|fail)<;>conv=>whnf)
 refine(hT false).use hd hs ?_;clear hs;intro Z hs;refine zz ?_;(repeat clear U K);repeat intro K U
 exact AU ⟨rfl,hs⟩
def ja {w:AI} {S:Type} {fn:Fn} {fi ca:List V} {H:S->List At} {stp:List Fact->S->Bool×S} {D:List Fact->S->Prop} {nW:Nat} (hT:Rj (.f fn fi ca) (fun s=> .box nW [Uz nW]::H s) stp D) {f k0 k1:Fact} (hk:f.kids= [k0,k1]) {c:Bool} (hn0:Bh w k0=true) (hn1:Bh w k1=true) (hv0:lv k0<=100) (hv1:lv k1<=100) (hw1:WalkC k1) :
    Rj (.f (.func 393) [] [.p nW 0,.rp (xF f),.rp [.b c],.rp [.f fn fi ca]]) (fun s=> .box nW [Uz nW]::H s) (fun a s=>Ce (fun y s=>stp (CL a y) s) (BG k1 c) s) (fun a s=>a∈BG k0 c/\Ua (fun y s=>stp (CL a y) s) (fun y s=>D (CL a y) s) (BG k1 c) s):=by
 rintro fa a s ⟨ha,hd⟩ Z hs;refine By ?_;show A3 zP 393 ([]++[XG a fa]++[.p nW 0,.rp (xF f),.rp [.b c],.rp [.f fn fi ca]]) Z _;have h1:f.kids[(1:Int).toNat]? =some k1:=by rw[hk];rfl
 refine sJ kZ ?_;refine zz ?_;(repeat clear U K);repeat intro K U
 refine(hw1 c S _ _ _ H _ _ nW s (jZ hT hn0 hn1 hv0 hv1 ha fa) (Og (fun y hy=>hy) hd) Z hs).mono ?_;clear hs;rintro r Z ⟨rfl,hs⟩;refine zz ?_;(repeat clear U K);repeat intro K U
 exact AU ⟨rfl,hs⟩
def kg {w : AI} (f:Fact):Bh w f=true->lv f<=100->WalkC f:=by
 induction f using Fact.ind with
 | h f ih=>
   intro hn hv c S fn fi ca H stp D nW s hT hd Z hs;have har:=Cr _ hn
   have hnk: ∀k∈f.kids,Bh w k=true:=by
    rw[Cp,BD,E3]at hn;exact hn.2
   have hop:f.op=1\/f.op=5\/B7 f=true\/f.op=6\/f.op=7:=by
    rw[Cp,BD]at hn;have h1:=hn.1;simp only[C6,W7,BD]at h1;rw[Pg];simp only[BD,CN];have h2:=h1.1;split at h2
    .omega
    .split at h2
     .omega
     .simp only[Fl,EU]at h2
      omega
   refine By ?_;show A3 zP 392 ([]++[.a (xF f),.b c,.f fn fi ca]++[.p nW 0]) Z _;refine sK kZ ?_;rw[F1,FH]at hd;have hcs:=F1 f c;rw[FH]at hcs;rcases hop with h1|h5|hl|h67
   .rw[if_pos h1]at hd hcs
    rw[hcs];cases c
    .rw[if_neg (by decide)]at hd ⊢
     rw[WC]
     conv=>whnf
     repeat'((first|clear U K|apply st|(apply zk;intro K U)|refine zY ?_|(refine zb (fun hc=>?_) (fun hc=>?_)<;>try exact⟨⟩)|fail)<;>conv=>whnf)
     refine(hT true).use (y:=[]) hd.1 hs ?_;clear hs;intro Z hs;refine zz ?_;(repeat clear U K);repeat intro K U
     exact AU ⟨rfl,hs⟩
    .rw[if_pos rfl]at hd ⊢
     conv=>whnf
     repeat'((first|clear U K|apply st|(apply zk;intro K U)|refine zY ?_|(refine zb (fun hc=>?_) (fun hc=>?_)<;>try exact⟨⟩)|fail)<;>conv=>whnf)
     exact AU ⟨rfl,hs⟩
   .obtain⟨k,hk,-⟩:=H5 har h5
    have hkm:k∈f.kids:=by rw[hk];exact .head _
    have hvk:lv k<=100:=by
     rw[Ns,dX,if_pos h5,hk]at hv;exact hv
    rw[if_neg (by omega),if_pos h5,hk]at hd hcs;have hcs2:BG f c=BG k (!c):=hcs;have h0:f.kids[(0:Int).toNat]? =some k:=by rw[hk];rfl
    rw[hcs2]
    conv=>whnf
    repeat'((first|clear U K|apply st|(apply zk;intro K U)|refine zY ?_|(refine zb (fun hc=>?_) (fun hc=>?_)<;>try exact⟨⟩)|fail)<;>conv=>whnf)
    refine(ih k hkm (hnk k hkm) hvk (!c) S _ _ _ H stp D nW s hT hd Z hs).mono ?_;clear hs;rintro r Z ⟨rfl,hs⟩;refine zz ?_;(repeat clear U K);repeat intro K U
    exact AU ⟨rfl,hs⟩
   .have hlo:=Fq hl
    have hlB:=Tz f;rw[hl]at hlB;rw[if_neg (by omega),if_neg (by omega),if_neg (by omega)]at hd hcs;have hcs2:BG f c= [[if c then FV f else f]]:=by rw[hcs];cases c<;>rfl
    rw[<-hcs,hcs2]at hd;rw[hcs2,WC]
    have e:XG [if c then FV f else f] true= .l [xF f++[.b c]] true:=by
     show V.l [KQ (if c then FV f else f)] true=_;rw[b7 hl]
    have hst:=(hT true) [if c then FV f else f] s hd.1;simp only[e]at hst
    conv=>whnf
    repeat'((first|clear U K|apply st|(apply zk;intro K U)|refine zY ?_|refine hlB.use ?_|(refine zb (fun hc=>?_) (fun hc=>?_)<;>try exact⟨⟩)|fail)<;>conv=>whnf)
    refine(hst Z hs).mono ?_;clear hs;rintro r Z ⟨rfl,hs⟩;refine zz ?_;(repeat clear U K);repeat intro K U
    exact AU ⟨rfl,hs⟩
   .obtain⟨k0,k1,hk,-,-⟩:=H4 har h67
    have hkm0:k0∈f.kids:=by rw[hk];exact .head _
    have hkm1:k1∈f.kids:=by rw[hk];exact .tail _ (.head _)
    have hlf:B7 f=false:=by rw[Pg,decide_eq_false (show¬f.op<=4 by omega),Bool.and_false]
    have hlB:=Tz f;rw[hlf]at hlB
    have hvk:lv k0+lv k1<=100:=by
     rw[Ns,dX,if_neg (by omega),if_pos h67,hk]at hv;exact hv
    rw[if_neg (by omega),if_neg (by omega),if_pos h67,hk]at hd hcs;have h0:f.kids[(0:Int).toNat]? =some k0:=by rw[hk];rfl
    have h1:f.kids[(1:Int).toNat]? =some k1:=by rw[hk];rfl
    have i0:=ih k0 hkm0 (hnk k0 hkm0) (by omega);have i1:=ih k1 hkm1 (hnk k1 hkm1) (by omega);by_cases hap:(c != (f.op==7))=true
    .rw [if_pos hap]at hd hcs
     have hcs2:BG f c=BG k0 c++BG k1 c:=hcs;have hd2:Ua stp D (BG k0 c++BG k1 c) s:=hd;obtain⟨hd3,hd4⟩:=Ts hd2;rw[hcs2,P1];clear hcs hcs2 hd hd2;rcases h67 with h6|h7
     .have h6b:(f.op==6)=true:=by rw[h6];rfl
      have hct:c=true:=by rw[h6]at hap;cases c<;>simp_all
      subst hct
      conv=>whnf
      repeat'((first|clear U K|apply st|(apply zk;intro K U)|refine zY ?_|refine hlB.use ?_|(rw[h6b])|(refine zb (fun hc=>?_) (fun hc=>?_)<;>try exact⟨⟩)|fail)<;>conv=>whnf)
      refine(i0 true S _ _ _ H stp D nW s hT hd3 Z hs).mono ?_;clear hs;rintro r Z ⟨rfl,hs⟩;generalize Ce stp (BG k0 true) s=x at *;obtain⟨b1,s1⟩:=x;cases b1
      .refine zz ?_;(repeat clear U K);repeat intro K U
       exact AU ⟨rfl,hs⟩
      .refine zz ?_;(repeat clear U K);repeat intro K U
       refine(i1 true S _ _ _ H stp D nW s1 hT (hd4 rfl) Z hs).mono ?_;clear hs;rintro r Z ⟨rfl,hs⟩;refine zz ?_;(repeat clear U K);repeat intro K U
       exact AU ⟨rfl,hs⟩
     .have h6b:(f.op==6)=false:=by rw[h7];rfl
      have hct:c=false:=by rw[h7]at hap;cases c<;>simp_all
      subst hct
      conv=>whnf
      repeat'((first|clear U K|apply st|(apply zk;intro K U)|refine zY ?_|refine hlB.use ?_|(rw[h6b])|(refine zb (fun hc=>?_) (fun hc=>?_)<;>try exact⟨⟩)|fail)<;>conv=>whnf)
      refine(i0 false S _ _ _ H stp D nW s hT hd3 Z hs).mono ?_;clear hs;rintro r Z ⟨rfl,hs⟩;generalize Ce stp (BG k0 false) s=x at *;obtain⟨b1,s1⟩:=x;cases b1
      .refine zz ?_;(repeat clear U K);repeat intro K U
       exact AU ⟨rfl,hs⟩
      .refine zz ?_;(repeat clear U K);repeat intro K U
       refine(i1 false S _ _ _ H stp D nW s1 hT (hd4 rfl) Z hs).mono ?_;clear hs;rintro r Z ⟨rfl,hs⟩;refine zz ?_;(repeat clear U K);repeat intro K U
       exact AU ⟨rfl,hs⟩
    .rw[if_neg hap]at hd hcs
     have hcs2:BG f c=Da (BG k0 c) (BG k1 c):=hcs;have hd2:Ua stp D (Da (BG k0 c) (BG k1 c)) s:=hd;have hd3:=Vg _ hd2;have hT2:=ja hT hk (c:=c) (hnk k0 hkm0) (hnk k1 hkm1) (by omega) (by omega) i1;rw[hcs2,Sx];clear hcs hcs2 hd hd2;rcases h67 with h6|h7
     .have h6b:(f.op==6)=true:=by rw[h6];rfl
      have hct:c=false:=by rw[h6]at hap;cases c<;>simp_all
      subst hct
      conv=>whnf
      repeat'((first|clear U K|apply st|(apply zk;intro K U)|refine zY ?_|refine hlB.use ?_|(rw[h6b])|(refine zb (fun hc=>?_) (fun hc=>?_)<;>try exact⟨⟩)|fail)<;>conv=>whnf)
      refine(i0 false S _ _ _ H _ _ nW s hT2 (Og (fun y hy=>hy) hd3) Z hs).mono ?_;clear hs;rintro r Z ⟨rfl,hs⟩;refine zz ?_;(repeat clear U K);repeat intro K U
      exact AU ⟨rfl,hs⟩
     .have h6b:(f.op==6)=false:=by rw[h7];rfl
      have hct:c=true:=by rw[h7]at hap;cases c<;>simp_all
      subst hct
      conv=>whnf
      repeat'((first|clear U K|apply st|(apply zk;intro K U)|refine zY ?_|refine hlB.use ?_|(rw[h6b])|(refine zb (fun hc=>?_) (fun hc=>?_)<;>try exact⟨⟩)|fail)<;>conv=>whnf)
      refine(i0 true S _ _ _ H _ _ nW s hT2 (Og (fun y hy=>hy) hd3) Z hs).mono ?_;clear hs;rintro r Z ⟨rfl,hs⟩;refine zz ?_;(repeat clear U K);repeat intro K U
      exact AU ⟨rfl,hs⟩
def rQ {w:AI} (f:Fact) (hn:Bh w f=true) (hv:lv f<=100) (c:Bool) {S:Type} {fn:Fn} {fi ca:List V} {H:S->List At} {stp:List Fact->S->Bool×S} {D:List Fact->S->Prop} {s:S} (hT: ∀nW,Rj (.f fn fi ca) (fun s=> .box nW [Uz nW]::H s) stp D) (hd:Ua stp D (BG f c) s) (Z:AE) (hs:Sat Z (H s)) :
    A3 zP 391 [.f fn fi ca,.rp (xF f),.rp [.b c]] Z fun r Z'=>r= .ret (.t [])/\Sat Z' (H (Ce stp (BG f c) s).2):=by
 refine sL kZ ?_
 conv=>whnf
 repeat'((first|clear U K|apply st|(apply zk;intro K U)|refine zY ?_|refine zs fun Z hs=>?_|refine zo fun nn hnn Z hs=>?_|fail)<;>conv=>whnf)
 refine(kg f hn hv c S fn fi ca H stp D nn s (hT nn) hd Z hs).mono ?_;clear hs;rintro r Z ⟨rfl,hs⟩
 conv=>whnf
 repeat'((first|clear U K|apply st|fail)<;>conv=>whnf)
 exact AU ⟨rfl,hs.less (Mc _ _)⟩
def jb (f:Fact) (c:Bool):Pure zP 387 [.a (xF f),.b c] (.f (.func 391) [] [.rp (xF f),.rp [.b c]]):=by
 refine sO kZ ?_;have hs:=Sn;exact zW
abbrev Oz (w:AI) (l:List Fact) (s:Bool):Bool×Bool:=if Gn w l then(false,true)else(true,s)
def WE {w:AI}: ∀(cs:List (List Fact)),Ce (Oz w) cs false=(!cs.any (Gn w),cs.any (Gn w))
 | []=>rfl
 | l::r=>by
   rw[Ce,Q1];simp only[Oz];cases h:Gn w l
   .simpa using WE r
   .rfl
def ZU {w:AI} {G:List Fact->Prop}: ∀ {cs:List (List Fact)},(∀l∈cs,G l)->Ua (Oz w) (fun l s=>s=false/\G l) cs false
 | [],_=>trivial
 | l ::r,h=>⟨⟨rfl,h l (.head _)⟩,fun hy=>by
     cases ht:Gn w l
     .have e:(Oz w l false).2=false:=by simp[Oz,ht]
      rw[e];exact ZU fun x hx=>h x (.tail _ hx)
     .simp[Oz,ht]at hy⟩
abbrev vP (w:AI) (L:Nat) (E:Env) (ok:FuncId->Array Tmp->Code->Code->Nat->Prop) (nF:Nat):Prop:=
 M9 zP L E ok (fun(x:List Fact×Bool)=>[XG x.1 x.2]) (fun s:Bool=>[.box nF [.b s]]) (fun _=>True) (fun x s=>if Gn w x.1 then .stop (.exit 0) true else .go s) (fun x s=>s=false/\(∀y∈x.1,Is w y)/\x.1.length<900)
def mU {w:AI} (f:Fact) (hn:Bh w f=true) (hv:lv f<=100) {L:Nat} {E:Env} {ok:FuncId->Array Tmp->Code->Code->Nat->Prop} {nF:Nat} (hY:vP w L E ok nF) (Z:AE) (hs:Sat Z [.obj L (.loop .ready E ok),.box nF [.b false]]) :
    A3 zP 391 [.f (.yield L) [] [],.rp (xF f),.rp [.b false]] Z fun r Z'=>r= .ret (.t [])/\Sat Z' [.obj L (.loop (if Q4 w f then .exit 0 else .ready) E ok),.box nF [.b (Q4 w f)]]:=by
 have hg:=rQ f hn hv false (fn:= .yield L) (fi:=[]) (ca:=[]) (H:=fun s:Bool=>[.obj L (.loop (if s then .exit 0 else .ready) E ok),.box nF [.b s]]) (stp:=Oz w) (D:=fun l s=>s=false/\(∀y∈l,Is w y)/\l.length<900) (s:=false) (by
  rintro nW b l s ⟨rfl,hl,hlen⟩ Z hs;refine hY.use (y:=(l,b)) (s:=false) ⟨rfl,hl,hlen⟩ (rest:=[.box nW [Uz nW]]) (hs.perm (LS _ _ _ _)) ?_;intro r Z' hq;cases ht:Gn w l
  .simp only[ht,LG,if_false]at hq
   obtain⟨rfl,hs'⟩:=hq;have e:Oz w l false=(true,false):=by simp[Oz,ht]
   rw[e];exact⟨rfl,hs'.perm (LS _ _ _ _).symm⟩
  .simp only[ht,if_true]at hq
   obtain⟨rfl,hs'⟩:=hq;have e:Oz w l false=(false,true):=by simp[Oz,ht]
   rw[e]
   exact⟨rfl,hs'.perm (LS _ _ _ _).symm⟩) (ZU fun l hl=>⟨Ec f hn false l hl,by have:=(ET f (Cr _ hn) false).2 l hl;omega⟩) Z hs
 rw[WE]at hg;exact hg
def vF (w:AI) (hw:Dx w) (f:Fact) (hn:Bh w f=true) (hv:lv f<=100):Pure zP 371 [.rp (wC w (Ek w.parents)),.a (xF f)] (.b (Q4 w f)):=by
 refine Pure.of ?_;refine sW kZ ?_;have hs:=Sn
 conv=>whnf
 repeat'((first|clear U K|apply st|(apply zk;intro K U)|refine zY ?_|refine zs fun Z hs=>?_|refine Pure.use (jb _ _) ?_|refine zo fun nn hnn Z hs=>?_|fail)<;>conv=>whnf)
 rename_i _ nF hnF _ _ _ _;refine A3.mono (mU (w:=w) f hn hv (L:=nn) (nF:=nF) ?_ Z hs) ?_
 .refine N4 (fun y=>rfl) ?_
  clear hs hnn hnF;rintro⟨l,b⟩ s ⟨rfl,hl,hlen⟩ rest Z hs;dsimp only at hl hlen;have htg:=WO w hw l b hl hlen;dsimp only;cases ht:Gn w l<;>rw[ht]at htg
  .conv=>whnf
   repeat'((first|clear U K|apply st|(apply zk;intro K U)|refine htg.use ?_|fail)<;>conv=>whnf)
   intro hn;exact Vb (H:=fun s:Bool=>[.box nF [.b s]]) (J:=fun _=>True) (s:=false) rfl hs hn
  .conv=>whnf
   repeat'((first|clear U K|apply st|(apply zk;intro K U)|refine zs fun Z hs=>?_|refine htg.use ?_|fail)<;>conv=>whnf)
   intro hn;exact Xu (H:=fun s:Bool=>[.box nF [.b s]]) (J:=fun _=>True) (s:=true) (st:= .exit 0) rfl hs hn
 .clear hs hnn hnF
  cases hp:Q4 w f
  .rintro r Z ⟨rfl,hs⟩
   refine Pb hs fun Z hs=>?_
   refine zz ?_;(repeat clear U K);repeat intro K U
   exact AU (by rw[hp])
  .rintro r Z ⟨rfl,hs⟩
   refine Xx hs fun Z hs=>?_
   refine zz ?_;(repeat clear U K);repeat intro K U
   exact AU (by rw[hp])
def qe (f:Fact):Pure zP 373 [.a (xF f)] (.a (xF (FV f))):=by
 refine sU kZ ?_;have hs:=Sn
 conv=>whnf
 repeat'((first|clear U K|apply st|(apply zk;intro K U)|refine zX ?_|refine zr fun Z hs=>?_|refine zp fun nn hnn Z hs=>?_|fail)<;>conv=>whnf)
 refine Ap (.a (.cons (.refl _) (.cons (.refl _) (.cons H2 (.cons (.refl _) (.cons (.refl _) (.cons ?_ .nil)))))));refine .l (fun h=>by cases h) ?_;simp only[FV,Fact.kids,List.map,BV];exact Ea _
def vI (f g:Fact):Pure zP 372 [.a (xF f),.a (xF g)] (.a (xF (OS f g))):=by
 refine sV kZ ?_;have hs:=Sn
 conv=>whnf
 repeat'((first|clear U K|apply st|(apply zk;intro K U)|refine zX ?_|refine zr fun Z hs=>?_|refine zp fun nn hnn Z hs=>?_|fail)<;>conv=>whnf)
 refine Ap (.a (.cons (.refl _) (.cons (.refl _) (.cons H2 (.cons (.refl _) (.cons (.refl _) (.cons ?_ .nil)))))));refine .l (fun h=>by cases h) ?_;simp only[OS,Fact.kids,List.map,BV];exact Ea _
def YA (w:AI) (hw:Dx w) (a b:Fact) (ha:Bh w a=true) (hb:Bh w b=true) (hl:lv a+lv b<=100):Pure zP 341 [.rp (wC w (Ek w.parents)),.a (xF a),.a (xF b)] (.b (TF w a b)):=by
 have hcan:=vF w hw (OS a (FV b)) (Pd ha hb) (by rw[fT];exact hl);refine su kZ ?_;have hs:=Sn
 conv=>whnf
 repeat'((first|clear U K|apply st|(apply zk;intro K U)|refine zY ?_|refine rk ?_ ?_|exact fun s e=>by cases e;rfl|refine Pure.use (qe _) ?_|refine Pure.use (vI _ _) ?_|refine hcan.use ?_|fail)<;>conv=>whnf)
 all_goals exact AF rfl
def dR (w:AI) (hw:Dx w) (a b:Fact) (ha:C7 w a=true) (hb:C7 w b=true) (hna:Bh w a=true) (hnb:Bh w b=true) (hl:lv a+lv b<=100):Pure zP 307 [.a (A1 w),.a (xF a),.a (xF b)] (.t [.b (TF w a b),eI 0]):=by
 have hrd: ∀f,Pure zP 266 [.a (A1 w),.l [xF a,xF b] f] (.t [.rp (wC w (Ek w.parents)),.b true]):=fun f=>by
  have:=ZJ w hw [a,b] f (by simp);rw[show([a,b].all (LW w))=true by simp[Zp,ha,hb]]at this;simpa[BV]using this
 have hip:=YA w hw a b hna hnb hl;refine tK kZ ?_;have hs:=Sn
 conv=>whnf
 repeat'((first|clear U K|apply st|(apply zk;intro K U)|refine zY ?_|refine Pure.use (hrd _) ?_|refine hip.use ?_|fail)<;>conv=>whnf)
 all_goals exact AF rfl
def lL (a:Int) (n:Nat) (h1:1<=n) (hn:n<=120):Bc zP 96 [.l [[eI a]] true,eI n] [] fun r post=> ∃v,r= .ret v/\post= [.own v 1 (iL (List.replicate n a))]/\(Be v).isSome=true:=by
 intro Z hs;have hM:=Mx;have hw1:IntKind.u64.wrap 1=1:=rfl;have hwn:IntKind.u64.wrap (n:Int)=n:=HO (by omega);have hwi:IntKind.i64.wrap (n:Int)=n:=wrap64 (by omega) (by omega);refine xP kZ ?_
 conv=>whnf
 repeat'((first|clear U K|apply st|(apply zk;intro K U)|refine zY ?_|(refine zb (fun hc=>?_) (fun hc=>?_)<;>try exact⟨⟩)|fail)<;>conv=>whnf)
 rw[show IntKind.u64.wrap (([[eI a]]:List (List V)).length:Nat)=1 from rfl,hwn];refine(qw n hn).use ?_
 conv=>whnf
 repeat'((first|clear U K|apply st|(apply zk;intro K U)|refine zY ?_|(refine zb (fun hc=>?_) (fun hc=>?_)<;>try exact⟨⟩)|fail)<;>conv=>whnf)
 all_goals try(exfalso;omega)
 rw[hwi];refine kO hs (Io n) (by omega) fun v Z hs hv=>?_
 obtain⟨id,rfl⟩:=hv
 conv=>whnf
 repeat'((first|clear U K|apply st|(apply zk;intro K U)|fail)<;>conv=>whnf)
 refine xI hs 0 (ys:=[[eI a]]) rfl (by simp;omega) (fun e he=>by simp at he;subst he;rfl) (fun e he v hv=>by simp at he;subst he;simp at hv;subst hv;rfl) fun Z hs=>?_
 have hst:([[eI a]]:List (List V))++(List.replicate n [V.i .i64 0]).drop ([[eI a]]:List (List V)).length=List.replicate 1 [eI a]++List.replicate (n - 1) [eI 0]:=by simp[List.drop_replicate]
 rw[hst]at hs;refine zz ?_;(repeat clear U K);repeat intro K U
 refine Dz (fun m:Nat=>n - m) (fun m=>[(8,eI m)]) (fun m=>[.own (.sl id n n) 1 (List.replicate m [eI a]++List.replicate (n - m) [eI 0])]) (fun m=>1<=m/\m<=n) 1 rfl ⟨by omega,h1⟩ hs ?_;clear hs hst;rintro m Z ⟨hm1,hmn⟩ hs
 have hgl: ∀e∈(List.replicate m [eI a]++List.replicate (n - m) [eI 0]:List (List V)),e.length=1/\ ∀v∈e,CC v=true:=fun e he=>by
  rcases E4.1 he with he|he
  .rw[(List.mem_replicate.1 he).2];exact⟨rfl,fun v hv=>by simp at hv;subst hv;rfl⟩
  .rw[(List.mem_replicate.1 he).2];exact⟨rfl,fun v hv=>by simp at hv;subst hv;rfl⟩
 have hlen:(List.replicate m [eI a]++List.replicate (n - m) [eI 0]:List (List V)).length=n:=by simp;omega
 rcases Nat.lt_or_ge m n with hlt|hge
 .have hcpy:(List.replicate m [eI a]++List.replicate (n - m) [eI 0]:List (List V)).take m++(((List.replicate m [eI a]++List.replicate (n - m) [eI 0]:List (List V)).take m).take (min m (n - m))++(List.replicate m [eI a]++List.replicate (n - m) [eI 0]:List (List V)).drop (m+min m (n - m)))=List.replicate (m+min m (n - m)) [eI a]++List.replicate (n - (m+min m (n - m))) [eI 0]:=by
   have e1:(List.replicate m [eI a]++List.replicate (n - m) [eI 0]:List (List V)).take m=List.replicate m [eI a]:=by
    rw[List.take_append_of_le_length (by simp)];simp
   rw[e1,List.take_replicate,List.drop_append,List.drop_replicate,List.drop_replicate,List.length_replicate,<-Wx,List.replicate_append_replicate];have e2:m - (m+min m (n - m))=0:=by omega
   have e3:n - m - (m+min m (n - m) - m)=n - (m+min m (n - m)):=by omega
   rw[e2,e3,List.replicate_zero,List.nil_append];congr 2;omega
  conv=>whnf
  repeat'((first|clear U K|apply st|(apply zk;intro K U)|refine zY ?_|(refine zb (fun hc=>?_) (fun hc=>?_)<;>try exact⟨⟩)|fail)<;>conv=>whnf)
  all_goals try(exfalso;omega)
  refine dj ?_;refine zz ?_;(repeat clear U K);repeat intro K U
  refine pX ?_;refine zz ?_;(repeat clear U K);repeat intro K U
  rw[JP,show((n:Int) - m).toNat=n - m by omega];refine xH hs 0 rfl (by rw[hlen];omega) (by rw[hlen];omega) (fun e he=>(hgl e he).1) (fun e he=>(hgl e he).2) fun Z hs=>?_
  rw[hcpy]at hs;refine zz ?_;(repeat clear U K);repeat intro K U
  refine⟨m+min m (n - m),by omega,?_,⟨by omega,by omega⟩,hs⟩;rw[wrap64 (by omega) (by omega)];rfl
 .have hme:m=n:=by omega
  subst hme
  conv=>whnf
  repeat'((first|clear U K|apply st|(apply zk;intro K U)|refine zY ?_|(refine zb (fun hc=>?_) (fun hc=>?_)<;>try exact⟨⟩)|fail)<;>conv=>whnf)
  all_goals try(exfalso;omega)
  refine Ak hs (List.Sublist.refl _) (.refl _) fun Z' hs'=>⟨_,⟨_,rfl,?_,rfl⟩,hs'⟩
  simp[iL]
def bV (n:Nat) (h1:1<=n) (hn:n<=120):Bc zP 96 [.l [[eI (-1)]] true,eI n] [] fun r post=> ∃v,r= .ret v/\post= [.own v 1 (iL (List.replicate n (-1)))]/\(Be v).isSome=true:=lL (-1) n h1 hn
end Go.Gl
