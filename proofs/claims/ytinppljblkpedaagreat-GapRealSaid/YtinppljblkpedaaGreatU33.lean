import Derived.Test.YtinppljblkpedaaGreatU14
import Derived.Test.YtinppljblkpedaaGreatU20
import Derived.Test.YtinppljblkpedaaGreatU29
import Derived.Test.YtinppljblkpedaaGreatU30
import Derived.Test.YtinppljblkpedaaGreatU31
import Derived.Test.YtinppljblkpedaaGreatU32
set_option linter.all false
set_option linter.defProp false
set_option maxHeartbeats 8000000
noncomputable section
namespace Go.Gl
open Go.Proofs
def fZ (w:AF) (f:Fact):V:=
 match(BV f false).find? (EN w)with
 | none=> .t [.a [.l [] true,.l [] true],.l [] true,.l [] true,eI 5]
 | some ls=> .t [.a (A5 (C4 w (Dp w ls).2.1)),.l ((Dp w ls).2.2.map MC) false,.l (pP (Dp w ls).1) false,eI 0]
def runK (w:AF) (ls:List Fact):Nat->List (Int×Int)×Gj
 | 0=>([],([],[]))
 | k+1=>((runK w ls k).1++[(EO w (kn ls) k 2 [] (runK w ls k).2).1],(EO w (kn ls) k 2 [] (runK w ls k).2).2)
def sm (w:AF) (ls:List Fact):runK w ls 3=Dp w ls:=rfl
def WH {w:AF} (ho:w.owner.length<=40) {ls:List Fact} (hsh: ∀a p,2<=p.length->(kn ls a p).AI= []): ∀k,(runK w ls k).2.2.length<=k*1641/\(runK w ls k).2.1.length<=k*1641/\(runK w ls k).1.length=k
 | 0=>⟨Ft _,Ft _,rfl⟩
 | k+1=>by
   have h1:=WH ho hsh k;have h2:=YS ho hsh k 2 [] (runK w ls k).2 rfl;have e:gM 2=1641:=rfl;rw[e]at h2;rw[runK];dsimp only;rw[HQ,List.length_singleton];omega
def qA {w:AF} {more:List Nat} {m:Nat} (hm:m<18446744073709551616) (h: ∀x∈more,x<18446744073709551616): ∀x∈(Cx w more m).2,x<18446744073709551616:=by
 rw[Cx];split
 .exact h
 .split
  .exact h
  .intro x hx
   rcases Dn.1 hx with hx|hx
   .exact h x hx
   .rw[Jf.1 hx];exact hm
def PS {w:AF} {m:Nat} {sl:List Int} {rec:Int->Gj->(Int×Int)×Gj} (hrec: ∀s∈sl,∀z:Gj,(∀x∈z.1,x<18446744073709551616)-> ∀x∈(rec s z).2.1,x<18446744073709551616) :
    ∀(l:List Int) (z:Gj) (vs:List (Int×Int)),(∀x∈z.1,x<18446744073709551616)-> ∀x∈(CX w m sl rec l z vs).1.1,x<18446744073709551616
 | [],z,vs,h=>h
 | s ::r,z,vs,h=>by
   rw[CX];split
   .split
    .rename_i hc
     exact PS hrec r _ _ (hrec s (List.contains_iff_mem.1 hc) z h)
    .exact PS hrec r _ _ h
   .exact PS hrec r _ _ h
def ai {w:AF} (hw:BR w) {kf:Int->List Int->Kn} (hr:DC w kf) {a:Int} {p:List Int} {can:Int->Bool} {rec:Int->Gj->(Int×Int)×Gj} (hrec: ∀s∈(kf a p).AI,∀z:Gj,(∀x∈z.1,x<18446744073709551616)-> ∀x∈(rec s z).2.1,x<18446744073709551616) (z:Gj) (h: ∀x∈z.1,x<18446744073709551616) :
    ∀x∈(Is w kf a p can rec z).2.1,x<18446744073709551616:=by
 rw[Is];split
 .exact h
 split
 .exact h
 dsimp only;exact PS hrec _ _ _ (qA (aY hw (hr.ok a p).1 (hr.AI a p)) h)
def iD {w:AF} (hw:BR w) {kf:Int->List Int->Kn} (hr:DC w kf) (a:Int): ∀(d:Nat) (p:List Int) (z:Gj),p.length+d=2->(∀x∈z.1,x<18446744073709551616)-> ∀x∈(EO w kf a d p z).2.1,x<18446744073709551616
 | 0,p,z,hp,h=>ai hw hr (fun s hs=>by rw[hr.short a p (by omega)]at hs;cases hs) z h
 | d+1,p,z,hp,h=>ai hw hr (fun s _ z h=>iD hw hr a d (p++[s]) z (by simp;omega) h) z h
def aD {w:AF} (hw:BR w) {ls:List Fact} (hr:DC w (kn ls)): ∀k,∀x∈(runK w ls k).2.1,x<18446744073709551616
 | 0=>fun x hx=>by cases hx
 | k+1=>iD hw hr k 2 [] _ rfl (aD hw hr k)
abbrev HM (w:AF) (L:Nat) (E:Env) (ok:FuncId->Array Tmp->Code->Code->Nat->Prop) (n8 n4 n5 n6 n7:Nat):Option (List Fact)->List At
 | none=>[.obj L (.loop .ready E ok),.box n8 [.rp (wC w (Ah w.parents))],.box n7 [eI 0],.box n6 [.l [] true],.box n5 [.l [] true],.box n4 [.l [] true,.l [] true]]
 | some ls=>[.obj L (.loop .ret E ok),.box n8 [.rp (wC w (Ah w.parents))],.box n7 [eI 0],.box n6 [.l (pP (Dp w ls).1) false],.box n5 [.l ((Dp w ls).2.2.map MC) false],.box n4 (A5 (C4 w (Dp w ls).2.1))]
abbrev H9 (w:AF) (l:List Fact) (_:Option (List Fact)):Bool×Option (List Fact):=if EN w l then(false,some l)else(true,none)
def TS {w:AF}: ∀(cs:List (List Fact)),(By (H9 w) cs none).2=cs.find? (EN w)
 | []=>rfl
 | l::r=>by
   rw[By,List.find?_cons];simp only[H9];cases h:EN w l
   .simpa using TS r
   .rfl
def WR {w:AF} {G:List Fact->Prop}: ∀ {cs:List (List Fact)},(∀l∈cs,G l)->OH (H9 w) (fun l s=>s=none/\G l) cs none
 | [],_=>trivial
 | l ::r,h=>⟨⟨rfl,h l (.head _)⟩,fun hy=>by
     cases ht:EN w l
     .have e:(H9 w l none).2=none:=by simp[H9,ht]
      rw[e];exact WR fun x hx=>h x (.tail _ hx)
     .simp[H9,ht]at hy⟩
def pV {w:AF} (f:Fact) (hn:Ae w f=true) (hv:lv f<=100) {L:Nat} {E:Env} {ok:FuncId->Array Tmp->Code->Code->Nat->Prop} {n8 n4 n5 n6 n7:Nat}
    (hY: ∀l b,(∀y∈l,DS w y)->l.length<900-> ∀(rest:List At) (Z:AE),Sat Z (HM w L E ok n8 n4 n5 n6 n7 none++rest)->LB zP L [K6 l b] Z fun r Z'=>r= .ret (.b (H9 w l none).1)/\Sat Z' (HM w L E ok n8 n4 n5 n6 n7 (H9 w l none).2++rest)) (Z:AE) (hs:Sat Z (HM w L E ok n8 n4 n5 n6 n7 none)) :
    As zP 122 [.f (.yield L) [] [],.rp (xF f),.rp [.b false]] Z fun r Z'=>r= .ret (.t [])/\Sat Z' (HM w L E ok n8 n4 n5 n6 n7 ((BV f false).find? (EN w))):=by
 have hg:=iS f hn hv false (fn:= .yield L) (fi:=[]) (ca:=[]) (H:=HM w L E ok n8 n4 n5 n6 n7) (stp:=H9 w) (D:=fun l s=>s=none/\(∀y∈l,DS w y)/\l.length<900) (s:=none) (by
  rintro nW b l s ⟨rfl,hl,hlen⟩ Z hs;refine(hY l b hl hlen [.box nW [Tu nW]] Z (hs.perm (HP (l₁:=[_])))).mono ?_;rintro r Z' ⟨e,h2⟩
  exact⟨e,h2.perm HP⟩) (WR fun l hl=>⟨DB f hn false l hl,by have:=(G8 f (Al _ hn) false).2 l hl;omega⟩) Z hs
 rw[TS]at hg;exact hg
set_option maxRecDepth 100000 in
def l5:=Jg [] [2,3] Tryz.func16
attribute [local irreducible] As Ag AY AQ AL AX AP AR AK AW AM AN Ai Ap Sat AT An AZ W
attribute [local irreducible] Fz
def qU (w : AF) (hw:BR w) (f:Fact) (hf:JK w f=true) (hn:Ae w f=true) (hv:lv f<=100) (hpl:w.parents.length<=20):Pure zP 16 [.a (A5 w),.a (xF f)] (fZ w f):=by
 have hrd: ∀b,Pure zP 60 [.a (A5 w),.l [EI f] b] (.t [.rp (wC w (Ah w.parents)),.b true]):=fun b=>by
  have:=KY w hw [f] b (by simp);simpa[hf]using this
 rw[BC]at hrd;refine Pure.of ?_;generalize hR:fZ w f=R;refine l5 kZ ?_;have hs:=Sn
 conv=>whnf
 repeat'((first|apply st|(apply sq;intro K U)|(apply si;intro A B hA hB)|(refine hA _ _ ?_;clear hB B hA A)|(apply U;clear U K)|refine⟨rfl,?_⟩|refine⟨kZ,?_⟩|refine MA fun Z hs=>?_|refine SG ?_|refine Pure.use (hrd _) ?_|refine Pure.use (W7 _ _) ?_|(constructor<;>intro hc<;>(try rw[hc])<;>(replace hc:=bp hc)<;>(try simp(disch:=omega) only[Bc,wrap64,AS]at hc)<;>try(exfalso;omega))|(intro nn hnn;generalize hg:BZ _ nn _=Z;refine GF hg fun hs=>?_;clear hg)|fail)<;>conv=>whnf)
 rename_i _ n4 _ _ _ n5 _ _ _ n6 _ _ _ n7 _ _ _ n8 _ _ _ _ _;refine As.mono (pV (w:=w) f hn hv (L:=nn) (n8:=n8) (n4:=n4) (n5:=n5) (n6:=n6) (n7:=n7) ?_ Z hs) ?_
 .clear hs hnn U
  clear K;intro l b hl hlen rest Z hs;have htg:=OY w hw l b hl hlen;cases ht:EN w l<;>rw[ht]at htg
  .have e:H9 w l none=(true,none):=by simp[H9,ht]
   rw[e];refine KF rfl hs fun Z hs=>?_
   conv=>whnf
   repeat'((first|apply st|(apply sq;intro K U)|(apply si;intro A B hA hB)|(refine hA _ _ ?_;clear hB B hA A)|(apply U;clear U K)|refine ld ?_|refine Zg ?_|refine htg.use ?_|clear U K)<;>conv=>whnf)
   intro hn;exact⟨rfl,hs.R5 hn⟩
  .have e:H9 w l none=(false,some l):=by simp[H9,ht]
   rw[e];refine KF rfl hs fun Z hs=>?_
   clear e;replace hs:Sat Z ([.box n8 [.rp (wC w (Ah w.parents))],.box n7 [eI 0],.box n6 [.l [] true],.box n5 [.l [] true],.box n4 [.l [] true,.l [] true]]++rest):=hs
   conv=>whnf
   repeat'((first|apply st|(apply sq;intro K U)|(apply si;intro A B hA hB)|(refine hA _ _ ?_;clear hB B hA A)|(apply U;clear U K)|refine ld ?_|refine SG ?_|refine htg.use ?_|fail)<;>conv=>whnf)
   refine(V6 w (Ah w.parents) l b (Ko (by omega) hl) hlen).use (rest:=_) (by simpa using hs) ?_;clear hs;rintro r post Z ⟨L2,es,rfl,hinv,rfl⟩ hs;replace hs:=hs.perm HP;have hr:=US hw hl hlen
   conv=>whnf
   repeat'((first|apply st|(refine Ta ?_;intro K U)|(apply si;intro A B hA hB)|(refine hA _ _ ?_;clear hB B hA A)|(apply U;clear U K)|refine cE ?_|(intro nn hnn;generalize hg:BZ _ nn _=Z;refine GF hg fun hs=>?_;clear hg)|fail)<;>conv=>whnf)
   generalize nn=nM at *
   have hs4:Sat Z ([.own (.l [] true) 2 (pP (runK w l 0).1),.box nM [HF w (Ah w.parents) L2,.l [] true,.l [] true],.own (.l [] true) 1 (uR (runK w l 0).2.1),.own (.l [] true) 2 ((FR (runK w l 0).2.2).map OI)]++BM L2 es++([.box n8 [.rp (wC w (Ah w.parents))],.box n7 [eI 0],.box n6 [.l [] true],.box n5 [.l [] true],.box n4 [.l [] true,.l [] true]]++rest)):=
    (Ch (Ch (Ch hs 2) 1) 2).perm (.cons _ ((JH _ _ _ _).symm.trans (.cons _ (.cons _ (.cons _ HP)))))
   clear hs
   have hcan: ∀k:Nat,k<3->EZ w (kn l) (k:Int) 2 []=true:=fun k hk=>by
    have:=YJ hw hl;rw[ht,Ow,Cu]at this;exact this _ (BW.2 (by omega))
   have hrl:=WH (w:=w) hw.2.1 (ls:=l) (fun a p hp=>hr.short a p hp);have hr64:=aD hw hr 3
   refine B4 3 (fun k (x:V×V×V×List Bv)=>[(12,x.1),(43,eI (A7 k))]) (fun k x=>[.own x.1 2 (pP (runK w l k).1),.box nM [HF w (Ah w.parents) L2,x.2.1,x.2.2.1],.own x.2.1 1 (uR (runK w l k).2.1),.own x.2.2.1 2 ((FR (runK w l k).2.2).map OI)]++BM L2 x.2.2.2++([.box n8 [.rp (wC w (Ah w.parents))],.box n7 [eI 0],.box n6 [.l [] true],.box n5 [.l [] true],.box n4 [.l [] true,.l [] true]]++rest))
    (fun _ x=>Bj (kn l) x.2.2.2) (.l [] true,.l [] true,.l [] true,es) rfl hinv hs4 ?_
   clear hs4 hinv hs;rintro k ⟨va,vm,vo,es⟩ Z hk hinv hs;dsimp only at hinv hs;have hM:=Mx;have hck:A7 k=k:=AS (by omega);obtain⟨hk1,hk2,hk3⟩:=hrl k;rcases Nat.lt_or_ge k 3 with hlt|hge
   .have hg2:gM 2=1641:=rfl
    have hval:=j3 w hw hr (k:Int) (nM:=nM) (L:=L2) 2 [] rfl (Ft _) (hcan k hlt) (runK w l k).2 vm vo (FR (runK w l k).2.2) es hinv (by rw[Bc]) (by omega);rw[<-hck]at hval;have hrs:runK w l (k+1)=((runK w l k).1++[(EO w (kn l) (A7 k) 2 [] (runK w l k).2).1],(EO w (kn l) (A7 k) 2 [] (runK w l k).2).2):=by rw[hck];rfl
    rw[hrs];generalize EO w (kn l) (A7 k) 2 [] (runK w l k).2=y at *
    conv=>whnf
    repeat'((first|apply st|(apply sq;intro K U)|(apply si;intro A B hA hB)|(refine hA _ _ ?_;clear hB B hA A)|(apply U;clear U K)|refine⟨rfl,?_⟩|(constructor<;>intro hc<;>(try rw[hc])<;>(replace hc:=bp hc)<;>(try simp(disch:=omega) only[Bc,wrap64,AS]at hc)<;>try(exfalso;omega))|fail)<;>conv=>whnf)
    refine hval.use (rest:=([.box n8 [.rp (wC w (Ah w.parents))],.box n7 [eI 0],.box n6 [.l [] true],.box n5 [.l [] true],.box n4 [.l [] true,.l [] true]]++rest)++[.own va 2 (pP (runK w l k).1)]) (by
     have:=hs.perm (HP (l₁:=[_]))
     simpa using this) ?_
    clear hs hval;rintro r post Z ⟨rfl,vm2,vo2,t2,es6,⟨ht2,-⟩,⟨hx6,hi6⟩,rfl⟩ hs
    replace hs:Sat Z ([.own va 2 (pP (runK w l k).1),.box nM [HF w (Ah w.parents) L2,vm2,vo2],.own vm2 1 (uR y.2.1),.own vo2 2 ((FR y.2.2).map OI)]++BM L2 es6++([.box n8 [.rp (wC w (Ah w.parents))],.box n7 [eI 0],.box n6 [.l [] true],.box n5 [.l [] true],.box n4 [.l [] true,.l [] true]]++rest)):=by
     rw[ht2,show FR ((runK w l k).2.2++t2)=FR (runK w l k).2.2++FR t2 from LX];rw[<-LC]at hs;exact hs.perm HP
    have hll:(runK w l k).1.length<Ab/\((runK w l k).1.length+1)*16<=140737488355328:=by omega
    generalize (runK w l k).1=rs at *
    conv=>whnf
    repeat'((first|(apply si;intro A B hA hB)|(refine hA _ _ ?_;clear hB B hA A)|(apply U;clear U K)|refine⟨rfl,?_⟩|refine aq (enc:=pI) (x:=y.1) (fun v Z hs hsl=>?_) (hg:=Qc)|clear U K)<;>conv=>whnf)
    exact⟨by omega,⟨v,vm2,vo2,es6⟩,rfl,hi6,hs⟩
   .obtain rfl:k=3:=by omega
    have e2:(FR (runK w l 3).2.2).map OI=(runK w l 3).2.2.map MC:=by rw[rV];rfl
    rw[e2]at hs;rw[sm]at hs hk1 hk2 hr64;clear hcan hrl;have hwb:=jw w hw (Dp w l).2.1 (nM:=nM) (L:=L2) (vm:=vm) (vo:= .l ((Dp w l).2.2.map MC) false) hr64 (by omega)
    conv=>whnf
    repeat'((first|(refine Ta ?_;intro K U)|(apply si;intro A B hA hB)|(refine hA _ _ ?_;clear hB B hA A)|(apply U;clear U K)|refine⟨rfl,?_⟩|fail)<;>conv=>whnf)
    refine rA hs 3 1 rfl rfl (fun Z2 h=> .cons (.refl _) (.cons (.refl _) (.cons h .nil))) (fun Z2 h=> .cons (.refl _) (.cons (.refl _) (.cons (.refl _) (.cons (.refl _) (.cons (.refl _) (.cons (.refl _) (.cons (.refl _) (.cons (.refl _) .nil)))))))) fun Z hs=>?_
    replace hs:Sat Z ([.own va 2 (pP (Dp w l).1),.box nM [HF w (Ah w.parents) L2,vm,.l ((Dp w l).2.2.map MC) false],.own vm 1 (uR (Dp w l).2.1)]++BM L2 es++([.box n8 [.rp (wC w (Ah w.parents))],.box n7 [eI 0],.box n6 [.l [] true],.box n5 [.l [] true],.box n4 [.l [] true,.l [] true]]++rest)):=hs
    conv=>whnf
    repeat'((first|apply st|(refine Ta ?_;intro K U)|(apply U;clear U K)|(constructor<;>intro hc<;>(try rw[hc])<;>(replace hc:=bp hc)<;>(try simp(disch:=omega) only[Bc,wrap64,AS]at hc)<;>try(exfalso;omega))|clear U K)<;>conv=>whnf)
    refine Vm hs 0 rfl (fun Z2 h=> .cons (.refl _) (.cons (.refl _) (.cons (.refl _) (.cons (.refl _) (.cons (.refl _) (.cons h .nil)))))) fun Z hs=>?_
    conv=>whnf
    repeat'((first|(refine Ta ?_;intro K U)|(apply si;intro A B hA hB)|apply dr|refine ld ?_|fail)<;>conv=>whnf)
    refine hwb.use (rest:=BM L2 es++([.box n8 [.rp (wC w (Ah w.parents))],.box n7 [eI 0],.box n6 [.l [] true],.box n5 [.l [] true],.box n4 [.l [] true,.l [] true]]++rest)) hs ?_;clear hs hwb;rintro r post Z ⟨rfl,rfl⟩ hs;have hs6:Sat Z ((([.box nM [HF w (Ah w.parents) L2,vm,.l ((Dp w l).2.2.map MC) false],.own vm 1 (uR (Dp w l).2.1)]++BM L2 es)++[.box n8 [.rp (wC w (Ah w.parents))],.box n7 [eI 0],.box n6 [.l [] true],.box n5 [.l [] true],.box n4 [.l [] true,.l [] true]])++rest):=by simpa using hs
    clear hs;have hs:=hs6.perm (HP.append_right rest);clear hs6
    conv=>whnf
    repeat'((first|apply st|(refine hA _ _ ?_;clear hB B hA A)|(apply U;clear U K)|apply dr|refine rk ?_ ?_|exact fun s e=>by cases e;rfl|refine ld ?_|refine MA fun Z hs=>?_|refine FX fun Z hs=>?_|refine cE ?_|fail)<;>conv=>whnf)
    intro hn;exact⟨rfl,(hs.less (List.Sublist.append (List.sublist_append_left _ _) (List.Sublist.refl _))).R5 hn⟩
 .clear hs hnn
  rintro r Z ⟨rfl,hs⟩;rw[fZ]at hR;cases hfd:(BV f false).find? (EN w)with
  | none=>
    rw[hfd]at hR hs;subst hR;refine Gy hs fun Z hs=>?_
    conv=>whnf
    repeat'((first|apply st|(refine Ta ?_;intro K U)|(apply si;intro A B hA hB)|(refine hA _ _ ?_;clear hB B hA A)|(apply U;clear U K)|refine⟨kZ,?_⟩|refine ld ?_|refine MA fun Z hs=>?_|refine FX fun Z hs=>?_|refine cE ?_|fail)<;>conv=>whnf)
    exact AJ rfl
  | some ls=>
    rw[hfd]at hR hs;subst hR;refine dM hs fun Z hs=>?_
    conv=>whnf
    repeat'((first|refine⟨kZ,?_⟩|refine ld ?_|clear U K)<;>conv=>whnf)
    exact AJ rfl
end Go.Gl
namespace Go.Gl
open Go.Proofs
attribute [local irreducible] As Ag AY AQ AL AX AP AR AK AW AM AN Ai Ap Sat AT An AZ W
def aF (a:Int) (n:Nat) (h1:1<=n) (hn:n<=120):BL zP 107 [.l [[eI a]] true,eI n] [] fun r post=> ∃v,r= .ret v/\post= [.own v 1 (iL (List.replicate n a))]/\(Bi v).isSome=true:=by
 intro Z hs;have hM:=Mx;have hw1:IntKind.u64.wrap 1=1:=rfl;have hwn:IntKind.u64.wrap (n:Int)=n:=IJ (by omega);have hwi:IntKind.i64.wrap (n:Int)=n:=wrap64 (by omega) (by omega);refine x2 kZ ?_
 conv=>whnf
 repeat'((first|clear U K|apply st|(apply zk;intro K U)|refine zY ?_|(refine zb (fun hc=>?_) (fun hc=>?_)<;>try exact⟨⟩)|fail)<;>conv=>whnf)
 rw[show IntKind.u64.wrap (([[eI a]]:List (List V)).length:Nat)=1 from rfl,hwn];refine(tg n hn).use ?_
 conv=>whnf
 repeat'((first|clear U K|apply st|(apply zk;intro K U)|refine zY ?_|(refine zb (fun hc=>?_) (fun hc=>?_)<;>try exact⟨⟩)|fail)<;>conv=>whnf)
 all_goals try(exfalso;omega)
 rw[hwi];refine yy hs (Ft n) (by omega) fun v Z hs hv=>?_
 obtain⟨id,rfl⟩:=hv
 conv=>whnf
 repeat'((first|clear U K|apply st|(apply zk;intro K U)|fail)<;>conv=>whnf)
 refine z7 hs 0 (ys:=[[eI a]]) rfl (by simp;omega) (fun e he=>by simp at he;subst he;rfl) (fun e he v hv=>by simp at he;subst he;simp at hv;subst hv;rfl) fun Z hs=>?_
 have hst:([[eI a]]:List (List V))++(List.replicate n [V.i .i64 0]).drop ([[eI a]]:List (List V)).length=List.replicate 1 [eI a]++List.replicate (n - 1) [eI 0]:=by simp[List.drop_replicate]
 rw[hst]at hs;refine zz ?_;(repeat clear U K);repeat intro K U
 refine Ff (fun m:Nat=>n - m) (fun m=>[(8,eI m)]) (fun m=>[.own (.sl id n n) 1 (List.replicate m [eI a]++List.replicate (n - m) [eI 0])]) (fun m=>1<=m/\m<=n) 1 rfl ⟨by omega,h1⟩ hs ?_;clear hs hst;rintro m Z ⟨hm1,hmn⟩ hs
 have hgl: ∀e∈(List.replicate m [eI a]++List.replicate (n - m) [eI 0]:List (List V)),e.length=1/\ ∀v∈e,Dg v=true:=fun e he=>by
  rcases Dn.1 he with he|he
  .rw[(List.mem_replicate.1 he).2];exact⟨rfl,fun v hv=>by simp at hv;subst hv;rfl⟩
  .rw[(List.mem_replicate.1 he).2];exact⟨rfl,fun v hv=>by simp at hv;subst hv;rfl⟩
 have hlen:(List.replicate m [eI a]++List.replicate (n - m) [eI 0]:List (List V)).length=n:=by simp;omega
 rcases Nat.lt_or_ge m n with hlt|hge
 .have hcpy:(List.replicate m [eI a]++List.replicate (n - m) [eI 0]:List (List V)).take m++(((List.replicate m [eI a]++List.replicate (n - m) [eI 0]:List (List V)).take m).take (min m (n - m))++(List.replicate m [eI a]++List.replicate (n - m) [eI 0]:List (List V)).drop (m+min m (n - m)))=List.replicate (m+min m (n - m)) [eI a]++List.replicate (n - (m+min m (n - m))) [eI 0]:=by
   have e1:(List.replicate m [eI a]++List.replicate (n - m) [eI 0]:List (List V)).take m=List.replicate m [eI a]:=by
    rw[List.take_append_of_le_length (by simp)];simp
   rw[e1,List.take_replicate,List.drop_append,List.drop_replicate,List.drop_replicate,List.length_replicate,<-LC,List.replicate_append_replicate];have e2:m - (m+min m (n - m))=0:=by omega
   have e3:n - m - (m+min m (n - m) - m)=n - (m+min m (n - m)):=by omega
   rw[e2,e3,List.replicate_zero,List.nil_append];congr 2;omega
  conv=>whnf
  repeat'((first|clear U K|apply st|(apply zk;intro K U)|refine zY ?_|(refine zb (fun hc=>?_) (fun hc=>?_)<;>try exact⟨⟩)|fail)<;>conv=>whnf)
  all_goals try(exfalso;omega)
  refine slLo ?_;refine zz ?_;(repeat clear U K);repeat intro K U
  refine slHi ?_;refine zz ?_;(repeat clear U K);repeat intro K U
  rw[GR,show((n:Int) - m).toNat=n - m by omega];refine z6 hs 0 rfl (by rw[hlen];omega) (by rw[hlen];omega) (fun e he=>(hgl e he).1) (fun e he=>(hgl e he).2) fun Z hs=>?_
  rw[hcpy]at hs;refine zz ?_;(repeat clear U K);repeat intro K U
  refine⟨m+min m (n - m),by omega,?_,⟨by omega,by omega⟩,hs⟩;rw[wrap64 (by omega) (by omega)];rfl
 .have hme:m=n:=by omega
  subst hme
  conv=>whnf
  repeat'((first|clear U K|apply st|(apply zk;intro K U)|refine zY ?_|(refine zb (fun hc=>?_) (fun hc=>?_)<;>try exact⟨⟩)|fail)<;>conv=>whnf)
  all_goals try(exfalso;omega)
  refine Au hs (List.Sublist.refl _) (.refl _) fun Z' hs'=>⟨_,⟨_,rfl,?_,rfl⟩,hs'⟩
  simp[iL]
def dK (n:Nat) (h1:1<=n) (hn:n<=120):BL zP 107 [.l [[eI (-1)]] true,eI n] [] fun r post=> ∃v,r= .ret v/\post= [.own v 1 (iL (List.replicate n (-1)))]/\(Bi v).isSome=true:=aF (-1) n h1 hn
def M4 {p:Prog} (h:BE p=true):BR (AH p)/\Br p.AO<=40/\p.AO.length<=10:=by
 have h1:=h;rw[RX]at h1;simp only[A4,B7]at h1;have h2:=h;simp only[BE,A4,B7]at h2;have hm:=(Fj _ _ h2.2.1).1;refine⟨⟨lZ (D6 h1.2.2.2.1),?_,fun o ho=>?_⟩,by omega,h1.1⟩
 .rw[AH,CV];omega
 .have:=GV ho
  simp only[AH,Ay,Bc];omega
def mc (s:List Int):Prop:= ∀x∈s,(-1:Int)<=x
def pW {s:List Int} (h:mc s) (i:Nat) {x:Int} (hx:0<=x):mc (s.set i x):=fun y hy=>by
 rcases List.mem_or_eq_of_mem_set hy with hy|rfl
 .exact h y hy
 .omega
def Wg {f:Int->Int->List Int->Option (List Int)} (hf: ∀ {a b s s'},0<=b->f a b s=some s'->mc s->mc s') {op size:Int} (h0:0<=size): ∀(i:Nat) (l:List Int) {s s':List Int},F6 f op size i l s=some s'->mc s->mc s'
 | _,[],s,s',h,hs=>by cases h;exact hs
 | i,k::r,s,s',h,hs=>by
   simp only[F6]at h;split at h
   .cases h
   .rename_i s1 h1
    refine Wg hf h0 (i+1) r h (hf ?_ h1 hs);split<;>omega
def Mi {p:Prog} {next:Bool}: ∀(d:Nat) {n size:Int} {s s':List Int},0<=size->CM p next d n size s=some s'->mc s->mc s'
 | 0,_,_,_,_,_,h,_=>by cases h
 | d + 1,n,size,s,s',h0,h,hs=>by
   simp only[CM]at h;split at h
   .cases h
   .split at h
    .cases h
    .split at h
     .exact Wg (fun hb h hs=>Mi d hb h hs) h0 0 _ h (pW hs _ h0)
     .cases h
def pX {s:List Int} (h:mc s):(s.all fun n=>decide (0<=n))= !s.contains (-1):=by
 rw[Hl];simp only[Cu,B7,Bool.not_eq_true',<-Bool.not_eq_true,List.contains_iff_mem];constructor
 .intro h1 h2
  have:=h1 _ h2;omega
 .intro h1 x hx
  have:=h x hx;rcases Int.lt_or_le x 0 with hlt|hle
  .exact absurd ((show x= -1 by omega) ▸ hx) h1
  .exact hle
def yO (p:Prog) (nO:Nat) (r:R) (Z:AE):Prop:=
 match BQ p with
 | some s=>r= .ret (.t [])/\ ∃v,Sat Z [.box nO [v],.own v 1 (iL s)]
 | none=>r= .C3 D2/\ ∃v s,Sat Z [.box nO [v],.own v 1 (iL s)]
def cA {p:Prog} {nO:Nat} {Z:AE} {v:V} {s:List Int} {l:List At} (h:BQ p=none) (hs:Sat Z l) (hsub: [At.box nO [v],.own v 1 (iL s)].Sublist l):AY Z D2 (yO p nO):=DX (by
 rw[yO,h]
 exact⟨rfl,v,s,hs.less hsub⟩)
def szT {p:Prog} {nO:Nat} {Z:AE} {v:V} {s:List Int} {l:List At} (h:BQ p=some s) (hs:Sat Z l) (hsub: [At.box nO [v],.own v 1 (iL s)].Sublist l):Ag Z (.t []) (yO p nO):=AJ (by
 rw[yO,h]
 exact⟨rfl,v,hs.less hsub⟩)
def T5 {p:Prog} (h:C8 p=false):BQ p=none:=by unfold BQ;rw[h];rfl
def bt {w:AF} {f:Fact} (h:Ba w f=true):Pz f=true:=RE (w:=w) f (by simp only[Ba,A4]at h;exact h.2.2)
def RO {w:AF} (hw:BR w) (f:Fact):Pure zP 72 [.a (A5 w),.a (xF f)] (eI (if Ba w f then 0 else 2)):=by
 rw[<-Ki];exact fA w hw f
def dV {α:Type} (a b c:α): [a,b,c].Perm [c,b,a]:=by simpa using(List.reverse_perm [a,b,c]).symm
def kH (p : Prog) (nO:Nat) (Z:AE) (hs:Sat Z [.box nO [.l [] true]]):As zP 237 [.rp (BF p),.p nO 0] Z (yO p nO):=by
 refine As.fit (by kernel_rfl) fun hf=>?_
 have hM:=Mx
 have hfp:Fc (.a (BF p)):=by
  have:=hf.1;simp only[Un]at this;simpa only[J0]using this
 have⟨p1,p2,p3,p4⟩:=Gq hfp;refine wL kZ ?_;have hcl:=ZZ p;replace hs:Sat Z [.box nO [.l [] true],.own (.l [] true) 1 (iL [])]:=EY hs 1;cases hcB:BE p with
 | false=>
   rw[hcB]at hcl
   conv=>whnf
   repeat'((first|apply st|(apply sq;intro K U)|(apply si;intro A B hA hB)|refine⟨kZ,?_⟩|fail)<;>conv=>whnf)
   refine hcl.use (pre:=[]) (rest:=[.box nO [.l [] true],.own (.l [] true) 1 (iL [])]) hs ?_;rintro r post Z ⟨rfl,rfl⟩ hs
   conv=>whnf
   repeat'((first|(refine hB _ _ _ ?_;clear hB B hA A)|clear U K)<;>conv=>whnf)
   exact cA (T5 (by simp[C8,hcB])) hs (.refl _)
 | true=>
   rw[hcB]at hcl;obtain⟨hgW,hmS,h10⟩:=M4 hcB
   conv=>whnf
   repeat'((first|apply st|(apply sq;intro K U)|(apply si;intro A B hA hB)|refine⟨kZ,?_⟩|fail)<;>conv=>whnf)
   refine hcl.use (pre:=[]) (rest:=[.box nO [.l [] true],.own (.l [] true) 1 (iL [])]) hs ?_;clear hs;rintro r post Z ⟨rfl,rfl⟩ hs
   conv=>whnf
   repeat'((first|apply st|(apply sq;intro K U)|(apply si;intro A B hA hB)|(refine hA _ _ ?_;clear hB B hA A)|(refine hB _ _ _ ?_;clear hB B hA A)|(apply U;clear U K)|refine⟨rfl,?_⟩|(refine Cr (fun hc=>?_) (fun hc=>?_)<;>(replace hc:=bp hc)<;>(try simp(disch:=omega) only[Bc,wrap64,AS]at hc)<;>(try(cases hc;done)))|(constructor<;>intro hc<;>(try rw[hc])<;>(replace hc:=bp hc)<;>(try simp(disch:=omega) only[Bc,wrap64,AS]at hc))|clear U K)<;>conv=>whnf)
   rotate_left
   all_goals first
    | exact cA (T5 (by simp[C8, *];intros;omega)) hs (.refl _)
    | skip
   have a1:p.Ce.length<=8:=by omega
   have a2:p.methods.length<=16:=by omega
   have a3:1<=p.nodes.length:=by omega
   have a4:p.nodes.length<=120:=by omega
   have hg:C8 p=p.Ce.all fun g=>decide (1<=g)&&decide (g<=3):=by
    simp only[C8,a1,a2,a3,a4,decide_true,Cc];simp[*]
   refine B4 p.Ce.length (fun k (_:Unit)=>[(36,eI (A7 k))]) (fun _ _=>[.box nO [.l [] true],.own (.l [] true) 1 (iL [])]) (fun k _=>C8 p=(p.Ce.drop k).all fun g=>decide (1<=g)&&decide (g<=3)) () rfl (by simpa using hg) hs ?_;clear hs hg;rintro k - Z hk hn hs;rcases A9 p.Ce hk with⟨g,hgk,hlt⟩|hke
   .rw[drop_cons hgk,Ri]at hn
    conv=>whnf
    repeat'((first|apply st|(apply sq;intro K U)|(apply si;intro A B hA hB)|(refine hA _ _ ?_;clear hB B hA A)|(refine hB _ _ _ ?_;clear hB B hA A)|(apply U;clear U K)|refine⟨rfl,?_⟩|refine ix ?_|(refine NT (fun hc=>?_)<;>(try rw[hc])<;>clear hc)|(refine Cr (fun hc=>?_) (fun hc=>?_)<;>(replace hc:=bp hc)<;>(try simp(disch:=omega) only[Bc,wrap64,AS]at hc)<;>(try(cases hc;done)))|(constructor<;>intro hc<;>(try rw[hc])<;>(replace hc:=bp hc))|clear U K)<;>conv=>whnf)
    .exact⟨hlt,(),rfl,by rw[hn];simp[*],hs⟩
    .exact cA (T5 (by rw[hn,decide_eq_false (show¬g<=3 by omega)];simp)) hs (.refl _)
    .exact cA (T5 (by rw[hn,decide_eq_false (show¬1<=g by omega)];simp)) hs (.refl _)
   .have hh : C8 p=true:=by rw[hn,Aj hke];rfl
    have hL:=ak hh;clear hn
    conv=>whnf
    repeat'((first|apply st|(apply sq;intro K U)|(apply si;intro A B hA hB)|(refine hA _ _ ?_;clear hB B hA A)|(apply U;clear U K)|refine⟨rfl,?_⟩|(refine SF (fun hc=>?_)<;>(try rw[hc])<;>clear hc)|clear U K)<;>conv=>whnf)
    rw[Bc];refine(dK p.nodes.length a3 a4).use (pre:=[]) (rest:=[.box nO [.l [] true],.own (.l [] true) 1 (iL [])]) hs ?_;clear hs;rintro r post Z ⟨v,rfl,rfl,hv⟩ hs
    conv=>whnf
    repeat'((first|apply st|(apply sq;intro K U)|(apply si;intro A B hA hB)|(refine hA _ _ ?_;clear hB B hA A)|(apply U;clear U K)|refine⟨kZ,?_⟩|refine MA fun Z hs=>?_|refine FX fun Z hs=>?_|refine Pure.use (Vs p (by omega) (by omega)) ?_|(intro nn hnn;generalize hg:BZ _ nn _=Z;refine GF hg fun hs=>?_;clear hg)|fail)<;>conv=>whnf)
    rename_i nw hnw _ hs;generalize nn=n5 at *;replace hs:=hs.less (show [At.box n5 (A5 (AH p)),.own v 1 (iL (List.replicate p.nodes.length (-1))),.box nO [v]].Sublist _ from .cons₂ _ (.cons₂ _ (.cons₂ _ (.cons _ .slnil))));refine B4 p.methods.length (fun k (s:List Int)=>[(59,eI (A7 k))]) (fun _ s=>[.box nO [v],.own v 1 (iL s),.box n5 (A5 (AH p))]) (fun k s=>s.length=p.nodes.length/\mc s/\BQ p=LK p (runM p (p.methods.drop k) s)) (List.replicate p.nodes.length (-1)) rfl ⟨by simp,fun x hx=>by rw[List.eq_of_mem_replicate hx];omega,hL⟩ (hs.perm (dV _ _ _)) ?_;clear hs hnw hnn;rintro k s Z hk ⟨hl,hge,hn⟩ hs;rcases A9 p.methods hk with⟨m,hm,hlt⟩|hke
    .have hF:=RO hgW m.fact
     cases hfB:Ba (AH p) m.fact with
     | false=>
       rw[hfB,if_neg Bool.false_ne_true]at hF;have hno:=Dc hm hn (by simp[PZ,hfB])
       conv=>whnf
       repeat'((first|apply st|(apply sq;intro K U)|(apply si;intro A B hA hB)|(refine hA _ _ ?_;clear hB B hA A)|(refine hB _ _ _ ?_;clear hB B hA A)|(refine hB _ _ fun Z hsub=>?_;clear hB B hA A)|(apply U;clear U K)|apply dr|refine rk ?_ ?_|exact fun s e=>by cases e;rfl|refine⟨rfl,?_⟩|refine⟨kZ,?_⟩|refine ix ?_|refine ld ?_|refine FX fun Z hs=>?_|(refine NT (fun hc=>?_)<;>(try rw[hc])<;>clear hc)|(refine Cr (fun hc=>?_) (fun hc=>?_)<;>(replace hc:=bp hc)<;>(try simp(disch:=omega) only[Bc,wrap64,AS]at hc)<;>(try(cases hc;done)))|refine hF.use ?_|(constructor<;>intro hc<;>(try rw[hc])<;>(replace hc:=bp hc)<;>try(exfalso;omega))|(intro nn hnn;generalize hg:BZ _ nn _=Z;refine GF hg fun hs=>?_;clear hg)|clear U K)<;>conv=>whnf)
       all_goals first
        | (refine cA (v:=v) (s:=s) hno hs ?_;(repeat first|exact Oq _|apply List.Sublist.cons₂|apply List.Sublist.cons);done)
        | (refine cA (v:=v) (s:=s) hno (hs.up (by assumption)) ?_;(repeat first|exact Oq _|apply List.Sublist.cons₂|apply List.Sublist.cons);done)
        | skip
     | true=>
       rw[hfB,if_pos rfl]at hF;have hsp:=dA _ (bt hfB)
       conv=>whnf
       repeat'((first|apply st|(apply sq;intro K U)|(apply si;intro A B hA hB)|(refine hA _ _ ?_;clear hB B hA A)|(refine hB _ _ _ ?_;clear hB B hA A)|(refine hB _ _ fun Z hsub=>?_;clear hB B hA A)|(apply U;clear U K)|apply dr|refine rk ?_ ?_|exact fun s e=>by cases e;rfl|refine⟨rfl,?_⟩|refine⟨kZ,?_⟩|refine ix ?_|refine iqk ?_|refine iq fun x hx=>?_|refine ld ?_|refine FX fun Z hs=>?_|(refine NT (fun hc=>?_)<;>(try rw[hc])<;>clear hc)|(refine Cr (fun hc=>?_) (fun hc=>?_)<;>(replace hc:=bp hc)<;>(try simp(disch:=omega) only[Bc,wrap64,AS]at hc)<;>(try(cases hc;done)))|refine hF.use ?_|refine hsp.use ?_|(constructor<;>intro hc<;>(try rw[hc])<;>(replace hc:=bp hc)<;>(try simp(disch:=omega) only[Bc,wrap64,AS]at hc)<;>try(exfalso;omega))|(intro nn hnn;generalize hg:BZ _ nn _=Z;refine GF hg fun hs=>?_;clear hg)|clear U K)<;>conv=>whnf)
       all_goals first
        | (refine cA (v:=v) (s:=s) (Dc hm hn ?_) hs ?_;(simp[PZ, *];intros;omega);(repeat first|exact Oq _|apply List.Sublist.cons₂|apply List.Sublist.cons);done)
        | (refine cA (v:=v) (s:=s) (Dc hm hn ?_) (hs.up (by assumption)) ?_;(simp[PZ, *];intros;omega);(repeat first|exact Oq _|apply List.Sublist.cons₂|apply List.Sublist.cons);done)
        | skip
       rotate_left 2
       .refine cA (v:=v) (s:=s) (Dc hm hn ?_) (hs.up (by assumption)) ?_
        .simp only[PZ,show p.Ce.getD m.gen.toNat 0=x by rw[Cq,hx];rfl,decide_eq_false (show¬Cj m.fact<=x by omega),Bool.and_false]
        .repeat first|exact Oq _|apply List.Sublist.cons₂|apply List.Sublist.cons
       all_goals
        have hx13:=S5 hh hx;have hgd:p.Ce.getD m.gen.toNat 0=x:=by rw[Cq,hx];rfl
        have hok:PZ p m=true:=by simp only[PZ,hgd,A4,B7];exact⟨by omega,by omega,by omega,by omega,hfB,by assumption⟩
        have hgo:=fun s'=>aB (s':=s') hm hn hok
        have hno:=Sk hm hn hok;rw[hgd]at hgo hno
       .have hnb:LJ m.kind=(m.kind==4):=by simp[LJ, *]
        rw[hnb]at hgo hno;refine A0 ((Up p (m.kind==4) hv m.node x s (by omega) (by omega) hl [.box n5 (A5 (AH p))] Z (hs.less (.cons _ (.refl _)))).mono ?_);cases hw:CM p (m.kind==4) 12 m.node x s with
        | none=>
          clear hs;rintro r Z' ⟨rfl,s',hl',hs⟩
          conv=>whnf
          repeat'((first|(refine hB _ _ fun Z hsub=>?_;clear hB B hA A)|clear U K)<;>conv=>whnf)
          exact cA (v:=v) (s:=s') (hno hw) (hs.up (by assumption)) (.cons₂ _ (.cons₂ _ (Oq _)))
        | some s2=>
          clear hs;rintro r Z' ⟨rfl,hs⟩
          conv=>whnf
          repeat'((first|(apply si;intro A B hA hB)|(refine hA _ _ ?_;clear hB B hA A)|(apply U;clear U K)|apply dr|refine⟨rfl,?_⟩|clear U K)<;>conv=>whnf)
          exact⟨hlt,s2,rfl,⟨(Kq _ hw).trans hl,Mi _ (by omega) hw hge,hgo s2 hw⟩,hs⟩
       .have hnb:LJ m.kind=true:=by simp[LJ, *]
        rw[hnb]at hgo hno;refine A0 ((Up p true hv m.node x s (by omega) (by omega) hl [.box n5 (A5 (AH p))] Z (hs.less (.cons _ (.refl _)))).mono ?_);cases hw:CM p true 12 m.node x s with
        | none=>
          clear hs;rintro r Z' ⟨rfl,s',hl',hs⟩
          conv=>whnf
          repeat'((first|(refine hB _ _ fun Z hsub=>?_;clear hB B hA A)|clear U K)<;>conv=>whnf)
          exact cA (v:=v) (s:=s') (hno hw) (hs.up (by assumption)) (.cons₂ _ (.cons₂ _ (Oq _)))
        | some s2=>
          clear hs;rintro r Z' ⟨rfl,hs⟩
          conv=>whnf
          repeat'((first|(apply si;intro A B hA hB)|(refine hA _ _ ?_;clear hB B hA A)|(apply U;clear U K)|apply dr|refine⟨rfl,?_⟩|clear U K)<;>conv=>whnf)
          exact⟨hlt,s2,rfl,⟨(Kq _ hw).trans hl,Mi _ (by omega) hw hge,hgo s2 hw⟩,hs⟩
    .subst hke
     rw[List.drop_length,runM]at hn
     conv=>whnf
     repeat'((first|apply st|(apply sq;intro K U)|(apply si;intro A B hA hB)|(refine hA _ _ ?_;clear hB B hA A)|(apply U;clear U K)|refine⟨rfl,?_⟩|refine⟨kZ,?_⟩|refine ix ?_|refine ld ?_|refine FX fun Z hs=>?_|(refine fc (fun x hx hlt hc=>?_) (fun hk hc=>?_)<;>(try rw[hc])<;>clear hc)|(constructor<;>intro hc<;>(try rw[hc])<;>(replace hc:=bp hc)<;>try(exfalso;omega))|(intro nn hnn;generalize hg:BZ _ nn _=Z;refine GF hg fun hs=>?_;clear hg)|clear U K)<;>conv=>whnf)
     rw[LK]at hn;refine A0 ((Up p false hv p.main 0 s (by omega) (by omega) hl [.box n5 (A5 (AH p))] Z hs).mono ?_);cases hw:CM p false 12 p.main 0 s with
     | none=>
       rw[hw]at hn;clear hs;rintro r Z' ⟨rfl,s',hl',hs⟩
       conv=>whnf
       repeat'((first|(refine hB _ _ _ ?_;clear hB B hA A)|clear U K)<;>conv=>whnf)
       exact cA (v:=v) (s:=s') hn hs (.cons₂ _ (.cons₂ _ (Oq _)))
     | some s2=>
       rw[hw]at hn;have hge2:=Mi _ (by omega) hw hge;simp only[pX hge2]at hn;clear hs;rintro r Z' ⟨rfl,hs⟩;have hct:=fun f=>B3 s2 f (-1)
       cases hyes:s2.contains (-1)with
       | true=>
         rw[hyes]at hct hn
         conv=>whnf
         repeat'((first|(apply si;intro A B hA hB)|(refine hA _ _ ?_;clear hB B hA A)|(apply U;clear U K)|refine ld ?_|fail)<;>conv=>whnf)
         refine Pure.Pk (hct false) (.cons (hs.MB 1 rfl) (.cons (.refl _) .nil)) rfl ?_
         conv=>whnf
         repeat'((first|(refine hB _ _ _ ?_;clear hB B hA A)|(refine Cr (fun hc=>?_) (fun hc=>?_)<;>(replace hc:=bp hc)<;>(try simp(disch:=omega) only[Bc,wrap64,AS]at hc)<;>(try(cases hc;done)))|fail)<;>conv=>whnf)
         all_goals exact cA (v:=v) (s:=s2) hn (by first|exact hs|exact hs.up (by assumption)) (.cons₂ _ (.cons₂ _ (Oq _)))
       | false=>
         rw[hyes]at hct hn
         conv=>whnf
         repeat'((first|(apply si;intro A B hA hB)|(refine hA _ _ ?_;clear hB B hA A)|(apply U;clear U K)|refine ld ?_|fail)<;>conv=>whnf)
         refine Pure.Pk (hct false) (.cons (hs.MB 1 rfl) (.cons (.refl _) .nil)) rfl ?_
         conv=>whnf
         repeat'((first|(refine hA _ _ ?_;clear hB B hA A)|(refine Cr (fun hc=>?_) (fun hc=>?_)<;>(replace hc:=bp hc)<;>(try simp(disch:=omega) only[Bc,wrap64,AS]at hc)<;>(try(cases hc;done)))|fail)<;>conv=>whnf)
         all_goals exact szT (v:=v) hn hs (.cons₂ _ (.cons₂ _ (Oq _)))
attribute [local irreducible] O3
def szP (p:Prog) (nO:Nat) (r:R) (post:List At):Prop:=
 match BQ p with
 | some s=>r= .ret (.t [])/\ ∃v,post= [.box nO [v],.own v 1 (iL s)]
 | none=>r= .C3 D2/\ ∃v s,post= [.box nO [v],.own v 1 (iL s)]
def dE (p:Prog) (nO:Nat):BL zP 237 [.rp (BF p),.p nO 0] [.box nO [.l [] true]] (szP p nO):=fun Z hs=>
 As.mono (kH p nO Z hs) fun r Z' hq=>by
  unfold yO at hq;unfold szP;cases h:BQ p with
  | some s=>
    rw[h]at hq;obtain⟨h1,v,h2⟩:=hq;exact⟨_,⟨h1,v,rfl⟩,h2⟩
  | none=>
    rw[h]at hq;obtain⟨h1,v,s,h2⟩:=hq;exact⟨_,⟨h1,v,s,rfl⟩,h2⟩
def pw {Z:AE} {n:Nat} {x:V} {rest:List At} (hs:Sat Z (.box n [x]::rest)) {Q:AE->Prop} (hq: ∀Z',Sat Z' (.box n [.b false]::rest)->Q Z'):O3 zP 301 [.p n 0] (some D2) Z Q:=by
 refine bY kZ ?_
 conv=>whnf
 repeat'((first|clear U K|apply st|(apply zk;intro K U)|refine zY ?_|refine zs fun Z hs=>?_|refine ry rfl ?_|refine zo fun nn hnn Z hs=>?_|fail)<;>conv=>whnf)
 exact hq _ (hs.less (Gg _ _))
def px {Z:AE} {n:Nat} {x:V} {rest:List At} (hs:Sat Z (.box n [x]::rest)) {Q:AE->Prop} (hq: ∀Z',Sat Z' (.box n [x]::rest)->Q Z'):O3 zP 301 [.p n 0] none Z Q:=by
 refine bY kZ ?_;refine zz ?_;(repeat clear U K);repeat intro K U
 exact hq _ hs
def eL (p:Prog) (nO:Nat):BL zP 236 [.f (.func 237) [] [.rp (BF p),.p nO 0]] [.box nO [.l [] true]] fun r post=>r= .ret (.b (BQ p).isSome)/\ ∃v s,post= [.box nO [v],.own v 1 (iL s)]/\(BQ p=none\/BQ p=some s):=by
 intro Z hs;refine wM kZ ?_
 conv=>whnf
 repeat'((first|clear U K|apply st|(apply zk;intro K U)|refine zo fun nn hnn Z hs=>?_|fail)<;>conv=>whnf)
 refine A0 ?_;refine(dE p nO).use (rest:=[.box nn [.b false]]) (hs.perm (.swap _ _ _)) ?_;clear hs hnn;rintro r post Z hq hs;unfold szP at hq;cases h:BQ p with
 | none=>
   rw[h]at hq;obtain⟨rfl,v,s,rfl⟩:=hq
   conv=>whnf
   repeat'((first|clear U K|apply st|fail)<;>conv=>whnf)
   refine pw (rest:=[.box nO [v],.own v 1 (iL s)]) (hs.perm HP) fun Z hs=>?_
   refine zz ?_;(repeat clear U K);repeat intro K U
   exact AJ ⟨_,⟨by rw[h];rfl,v,s,rfl,.inl h⟩,hs.less (Gg _ _)⟩
 | some s=>
   rw[h]at hq;obtain⟨rfl,v,rfl⟩:=hq
   conv=>whnf
   repeat'((first|clear U K|apply st|(apply zk;intro K U)|refine zs fun Z hs=>?_|fail)<;>conv=>whnf)
   replace hs:Sat Z ([.box nO [v],.own v 1 (iL s)]++[.box nn [.b true]]):=hs;refine px (x:= .b true) (rest:=[.box nO [v],.own v 1 (iL s)]) (hs.perm HP) fun Z hs=>?_
   refine zz ?_;(repeat clear U K);repeat intro K U
   exact AJ ⟨_,⟨by rw[h];rfl,v,s,rfl,.inr h⟩,hs.less (Gg _ _)⟩
def kI (p:Prog):BL zP 165 [.a (BF p)] [] fun r post=> ∃v s,r= .ret (.t [v,.b (BQ p).isSome])/\post= [.own v 1 (iL s)]/\(BQ p=none\/BQ p=some s):=by
 intro Z hs;refine xM kZ ?_
 conv=>whnf
 repeat'((first|clear U K|apply st|(apply zk;intro K U)|refine zo fun nn hnn Z hs=>?_|fail)<;>conv=>whnf)
 refine(eL p nn).use (rest:=[]) (by simpa using hs) ?_;clear hs;rintro r post Z ⟨rfl,v,s,rfl,hl⟩ hs;refine zz ?_;(repeat clear U K);repeat intro K U
 exact AJ ⟨_,⟨v,s,rfl,rfl,hl⟩,hs.less (.cons _ (.cons₂ _ (Oq _)))⟩
def XM (p:Prog):Pure zP 85 [.a (BF p)] (eI (if(BQ p).isSome then 0 else 2)):=by
 refine Pure.of ?_;have hz:=kI p;cases h:(BQ p).isSome<;>rw[h]at hz
 all_goals
  refine AAN kZ ?_;have hs:=Sn;refine zz ?_;(repeat clear U K);repeat intro K U
  refine hz.use (rest:=[]) (by simpa using hs) ?_;clear hs;rintro r post Z ⟨v,s,rfl,rfl,-⟩ hs;refine zz ?_;(repeat clear U K);repeat intro K U
  exact AJ rfl
def zV {p:Prog} (h:(BQ p).isSome=true):Br p.AO<=40:=by
 obtain⟨hh,-⟩:=Ex h;simp only[C8,A4,B7]at hh;exact(M4 hh.1).2.1
def UC {p:Prog} (h:(BQ p).isSome=true):p.AO.length<=10:=by
 obtain⟨hh,-⟩:=Ex h;simp only[C8,A4,B7]at hh;exact(M4 hh.1).2.2
def LL {p:Prog} (h:(BQ p).isSome=true):BR (AH p):=by
 obtain⟨hh,-⟩:=Ex h;simp only[C8,A4,B7]at hh;exact(M4 hh.1).1
def PU (p:Prog):Pure zP 71 [.a (BF p)] (if(BQ p).isSome then .t [.a (A5 (AH p)),eI 0]else .t [.a [.l [] true,.l [] true],eI 2]):=by
 have hz:=XM p;have hM:=Mx;cases h:(BQ p).isSome<;>rw[h]at hz
 .simp only[JX,if_false]at hz ⊢
  refine rE kZ ?_;have hs:=Sn
  conv=>whnf
  repeat'((first|clear U K|apply st|(apply zk;intro K U)|refine zY ?_|refine zs fun Z hs=>?_|refine hz.use ?_|(refine zb (fun hc=>?_) (fun hc=>?_)<;>try exact⟨⟩)|refine zo fun nn hnn Z hs=>?_|fail)<;>conv=>whnf)
  all_goals exact AG rfl
 .simp only[if_true]at hz ⊢
  have hm:=zV h;have hc10:=UC h;refine rE kZ ?_;have hs:=Sn
  conv=>whnf
  repeat'((first|clear U K|apply st|(apply zk;intro K U)|refine zY ?_|refine zs fun Z hs=>?_|refine hz.use ?_|refine Pure.use (Vs p (by omega) (by omega)) ?_|(refine zb (fun hc=>?_) (fun hc=>?_)<;>try exact⟨⟩)|refine zo fun nn hnn Z hs=>?_|fail)<;>conv=>whnf)
  all_goals exact AG rfl
end Go.Gl
