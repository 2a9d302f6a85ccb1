import Derived.Test.YtnidfcmdimehdaaGreatW14
import Derived.Test.YtnidfcmdimehdaaGreatW22
import Derived.Test.YtnidfcmdimehdaaGreatW25
import Derived.Test.YtnidfcmdimehdaaGreatW26
import Derived.Test.YtnidfcmdimehdaaGreatW27
import Derived.Test.YtnidfcmdimehdaaGreatW28
import Derived.Test.YtnidfcmdimehdaaGreatW29
import Derived.Test.YtnidfcmdimehdaaGreatW31
set_option linter.all false
set_option linter.defProp false
set_option maxHeartbeats 8000000
noncomputable section
namespace Go.Gl
open Go.Proofs
abbrev FD (ms:List Int) (s:Nat):List Int:=ET ms (Bi s ms.length)
abbrev Gw (p:Prog) (tog:List Fact->Bool) (ms:List Int):List Nat:=FO (fun s n=>Cq tog (EM p ms) (Bi s n)) ms.length 0 0
def KW {P:Program} {α S:Type} {L:Nat} {E:Env} {ps:List Nat} {a b:AU} {ea:α->V} {HB:S->List At->Prop} (le:S->pd) {stp:α->S->Bool×S} {D:α->S->Prop} {pre:List At} (hps:ps.length=1) (hD: ∀y s,D y s->le s= .ready)
    (h: ∀y s,D y s-> ∀l,HB s l-> ∀Z,Sat Z (l++pre)->W P a (CG (W P b fun ex env' Z'=>Z' L=none->PS L E (BW P ps a b) (fun r Z'=>r= .ret (.b (stp y s).1)/\ ∃l',HB (stp y s).2 l'/\Sat Z' (.obj L (.loop (le (stp y s).2) E (BW P ps a b))::(l'++pre))) ex env' Z')) (D4 ps [ea y] E) Z) :
    PB P (.f (.yield L) [] []) ea (fun s l=> ∃l',l= .obj L (.loop (le s) E (BW P ps a b))::l'/\HB s l') stp D pre:=by
 rintro y s hd _ Z ⟨l',rfl,hl'⟩ hs
 have hs':Sat Z (.obj L (.loop .ready E (BW P ps a b))::(l'++pre)):=by
  have:=hs.perm OD;rw[hD y s hd]at this;exact this
 show MQ P L [ea y] Z _;refine MQ.mono (Kk (hs'.get (i:=0) rfl) (by rw[hps];rfl) (h y s hd l' hl' _ hs'.del)) ?_;rintro r Z' ⟨e,l2,h1,h2⟩;exact⟨e,_,⟨l2,rfl,h1⟩,h2.perm (OD (l₁:=_::l2))⟩
section
variable {g:FuncId} {fi ca:List V} {p:Prog} {gen:Int} {ms:List Int} {tog:List Fact->Bool}
abbrev da (g:FuncId) (fi ca:List V) (p:Prog) (gen:Int) (ms:List Int):V:= .f (.func 144) [] [.rp [.f (.func g) fi ca],.rp (UM p gen ms)]
attribute [local irreducible] Ao Ai AY AO AJ AX AN AP AI AW AK AL Ak Au Sat AT Ar Aa W
def Y8:Pure zP 90 [.a (UM p gen ms),.f (.func g) fi ca] (da g fi ca p gen ms):=by
 refine xB kZ ?_;have hs:=Sn;exact zW
def fY {S:Type} (h:N0 p ms) (hcan:Us g fi ca (AM p) tog) {fn:Fn} {fiy cay:List V} {HL:S->List At->Prop} {stp:Nat->S->Bool×S} {D:Nat->S->Prop}
    (hy: ∀nS nW,PB zP (.f fn fiy cay) eU HL stp D (Qw g fi ca p gen ms (.f fn fiy cay) nS nW)) (z0:S) (hok:Ns stp D (Gw p tog ms) z0) {l:List At} {Z:AE} (hl:HL z0 l) (hs:Sat Z l) :
    Ao zP 144 [.f fn fiy cay,.rp [.f (.func g) fi ca],.rp (UM p gen ms)] Z fun r Z'=>r= .ret (.t [])/\ ∃l',HL (Bp stp (Gw p tog ms) z0).2 l'/\Sat Z' l':=by
 refine gC kZ ?_
 conv=>whnf
 repeat'((first|clear U K|apply st|(apply zk;intro K U)|refine zY ?_|refine zs fun Z hs=>?_|refine zo fun nn hnn Z hs=>?_|fail)<;>conv=>whnf)
 refine Ay (Ao.mono (lG h hcan (hy _ _) ms.length 0 0 z0 (by omega) (by decide) hok l Z hl hs) ?_);clear hs;rintro r Z ⟨rfl,l',hl',hs⟩
 conv=>whnf
 repeat'((first|clear U K|apply st|fail)<;>conv=>whnf)
 exact AH ⟨rfl,l',hl',hs.less (by simp)⟩
def ZV (h8:ms.length<=8) {s:Nat} (hs64:s<18446744073709551616):Pure zP 52 [.a (UM p gen ms),eU s] (.l (iL (FD ms s)) false):=by
 have hM:=Mx;refine xP kZ ?_;have hs:=Sn;refine zz ?_;(repeat clear U K);repeat intro K U
 refine Du ms.length (fun k v=>[(5,v),(11,eI (Bj k))]) (fun k v=>[.own v 1 (iL (ET ms ((Bi s ms.length).take k)))]) (fun _ _=>True) (.l [] true) rfl trivial (by simpa[ET]using Ol hs 1) ?_;clear hs;rintro k v Z hk - hs;have hal:=YE ms ((Bi s ms.length).take k);rw[NK]at hal;rcases BJ ms hk with⟨x,hx,hlt⟩|hke
 .have hck:Bj k=k:=Av (by omega)
  have hst:=Wi hx (WG (s:=s) hlt);have c1:=eO s (Bj k) hs64 (by omega) (by omega);rw[hck,Hc,<-hck]at c1;generalize ET ms ((Bi s ms.length).take k)=zl at *;have hll:zl.length<As/\(zl.length+1)*8<=140737488355328:=by omega
  cases hb:s.testBit k<;>rw[hb]at c1 hst
  .rw[if_neg (by decide),Fj]at hst
   conv=>whnf
   repeat'((first|clear U K|apply st|(apply zk;intro K U)|refine zY ?_|refine zC ?_|fail)<;>conv=>whnf)
   exact⟨hlt,_,rfl,trivial,by rw[hst];exact hs⟩
  .rw[if_pos rfl]at hst
   conv=>whnf
   repeat'((first|clear U K|apply st|(apply zk;intro K U)|refine zY ?_|refine aq fun v Z hs hsl=>?_|refine zC ?_|fail)<;>conv=>whnf)
   exact⟨hlt,_,rfl,trivial,by rw[hst];exact hs⟩
 .rw[List.take_of_length_le (by rw[SX];omega)]at hs
  refine zz ?_;(repeat clear U K);repeat intro K U
  exact Br (hs.He 0 rfl)
abbrev pv (f:Nat->List Int×Int) (y:Nat) (acc:List (List Int×Int)):Bool×List (List Int×Int):=(true,acc++[f y])
def gO (f:Nat->List Int×Int): ∀(l:List Nat) (acc:List (List Int×Int)),Bp (pv f) l acc=(true,acc++l.map f)
 | [],acc=>by simp[Bp]
 | y::r,acc=>by simp[Bp,gO f r]
def oj (f:Nat->List Int×Int) {Q:Nat->Prop} {m:Nat}: ∀(l:List Nat) (acc:List (List Int×Int)),(∀y∈l,Q y)->acc.length+l.length<=m->Ns (pv f) (fun y acc=>Q y/\acc.length<m) l acc
 | [],_,_,_=>trivial
 | y::r,acc,h,hl=>⟨⟨h y (.head _),by rw[Kt]at hl;omega⟩,fun _=>oj f r _ (fun z hz=>h z (.tail _ hz)) (by rw[RG,List.length_singleton];rw[Kt]at hl;omega)⟩
def Vy {tog:List Fact->Bool} (h8:ms.length<=8):(Gw p tog ms).length<=256/\ ∀s∈Gw p tog ms,s<2 ^ ms.length:=by
 obtain⟨h1,h2⟩:=PJ (so:=fun s n=>Cq tog (EM p ms) (Bi s n)) (E:=Cq tog (EM p ms)) ms.length 0 0 (by decide) (fun s n _=>rfl);rw[F9]at h1 h2;refine⟨?_,h2⟩;have h3:=JT (E:=Cq tog (EM p ms)) ms.length (Bi 0 0);have h4:=congrArg List.length h1;rw[C4]at h4;have h5:2 ^ ms.length<=2 ^ 8:=Nat.pow_le_pow_right (by omega) h8;exact h4 ▸ Nat.le_trans h3 h5
def nE (h:N0 p ms) (hcan:Us g fi ca (AM p) tog) {stE:List Int->Int} (hst: ∀s∈Gw p tog ms,Pure zP 51 [.a (UM p gen ms),.l (iL (FD ms s)) false] (eI (stE (FD ms s)))) :
    Pure zP 33 [.a (UM p gen ms),da g fi ca p gen ms] (.l ((Gw p tog ms).map fun s=>dH (FD ms s,stE (FD ms s))) false):=by
 have hM:=Mx;have hfew:=h.yG;refine xT kZ ?_;have hs:=Sn
 conv=>whnf
 repeat'((first|clear U K|apply st|(apply zk;intro K U)|refine zo fun nn hnn Z hs=>?_|fail)<;>conv=>whnf)
 rename_i _ n5 hn5 _ _;obtain⟨hgl,hgm⟩:=Vy (p:=p) (tog:=tog) hfew;have hs2:Sat Z [_,.box n5 [.l [] true],.own (.l [] true) 2 (([]:List (List Int×Int)).map dH)]:=Ol hs 2;refine Ao.mono (fY h hcan (hs:=hs2) (stp:=pv fun y=>(FD ms y,stE (FD ms y))) (D:=fun y acc=>y∈Gw p tog ms/\acc.length<256) (fun nS nW=>KW (HB:=fun(acc:List (List Int×Int)) l=> ∃v,l= [.box n5 [v],.own v 2 (acc.map dH)]) (fun _=> .ready) rfl (fun _ _ _=>rfl) ?_) [] (oj _ _ _ (fun _ h=>h) (by simpa using hgl)) ⟨_,rfl,_,rfl⟩) ?_
 .clear hs hs2 hnn hn5
  rintro y acc ⟨hy,hacc⟩ _ ⟨v,rfl⟩ Z hs;have hy64:y<18446744073709551616:=Nat.lt_of_lt_of_le (hgm y hy) (Nat.le_trans (Nat.pow_le_pow_right (by omega) hfew) (by decide));have hl1:=ZV (p:=p) (gen:=gen) hfew hy64;have hst:=hst y hy;have hll:acc.length<As/\(acc.length+1)*32<=140737488355328:=by omega
  conv=>whnf
  repeat'((first|clear U K|apply st|(apply zk;intro K U)|refine zY ?_|refine rk ?_ ?_|exact fun s e=>by cases e;rfl|refine zs fun Z hs=>?_|refine hl1.use ?_|refine hst.use ?_|refine aq (enc:=dH) (x:=(FD ms y,stE (FD ms y))) (fun v Z hs hsl=>?_) (hg:=mw)|fail)<;>conv=>whnf)
  intro hn;exact⟨rfl,_,⟨_,rfl⟩,hs.Uo hn⟩
 .clear hs hs2 hnn hn5
  rw[gO];rintro r Z ⟨rfl,_,⟨_,rfl,v,rfl⟩,hs⟩;simp only[List.nil_append,uj]at hs;refine HD hs fun Z hs=>?_
  refine zz ?_;(repeat clear U K);repeat intro K U
  exact Br (hs.He 1 rfl)
end
end Go.Gl
namespace Go.Gl
open Go.Proofs
attribute [local irreducible] Ao Ai AY AO AJ AX AN AP AI AW AK AL Ak Au Sat AT Ar Aa W
abbrev uL (us:List Nat):List (List V):=us.map fun u=>[eU u]
abbrev gB (w:AG) (v:V):List V:=[.l (Jg w.parents) false,.l (iL w.owner) false,v]
def fX:Ei (fun u:Nat=>[eU u]) 1:=fun x=>⟨rfl,fun v hv=>by rw[MG.1 hv];rfl⟩
def lg (w : AG) (hw:Cn w):Pure zP 143 [.a (CR w)] (.rp (gW w (B1 w.parents))):=by
 obtain⟨⟨hl,hrow⟩,ho,how⟩:=hw;have hM:=Mx;refine tw kZ ?_;have hs:=Sn;have hi1:((Jg w.parents).length:Int)<=60:=by rw[C4];omega
 conv=>whnf
 repeat'((first|clear U K|apply st|(apply zk;intro K U)|refine zY ?_|refine zo fun nn hnn Z hs=>?_|fail)<;>conv=>whnf)
 generalize nn=n0 at *;refine Du 3 (fun k (_:V)=>[(13,eI (Bj k))]) (fun k v=>[.box n0 (gB w v),.own v 1 (uL ([1,3,5].take k))]) (fun k _=>True) (.l [] true) rfl trivial (Ol hs 1) ?_;clear hs;rintro k v Z hk - hs;have hck:Bj k=k:=Av (by omega);have hlen:(([1,3,5]:List Nat).take k).length=k:=by simp;omega
 by_cases hlt:k<3
 .have hst:=up3 hlt
  generalize ([1,3,5]:List Nat).take k=zl at *;have hll:zl.length<As/\(zl.length+1)*8<=140737488355328:=by omega
  conv=>whnf
  repeat'((first|clear U K|apply st|(apply zk;intro K U)|refine zY ?_|refine rk ?_ ?_|exact fun s e=>by cases e;rfl|refine zs fun Z hs=>?_|refine Pure.use (MR 1 _ (by decide) (by omega) (by omega)) ?_|refine aq (enc:=fun u:Nat=>[eU u]) (x:=1|||2 ^ (Bj k).toNat) (fun v Z hs hsl=>?_) (hg:=fX)|(refine zb (fun hc=>?_) (fun hc=>?_)<;>try exact⟨⟩)|fail)<;>conv=>whnf)
  rw[hck,Hc,hst]at hs;exact⟨hlt,_,rfl,trivial,hs⟩
 .have hke:k=3:=by omega
  subst hke;clear hk hck hlen hlt
  conv=>whnf
  repeat'((first|clear U K|apply st|(apply zk;intro K U)|refine zY ?_|(refine zb (fun hc=>?_) (fun hc=>?_)<;>try exact⟨⟩)|fail)<;>conv=>whnf)
  refine Du w.parents.length (fun k (_:V)=>[(31,eI (Bj k))]) (fun k v=>[.box n0 (gB w v),.own v 1 (uL (Bc w.parents k))]) (fun k _=>True) v rfl trivial hs ?_;clear hs;rintro k v Z hk - hs;have hck:Bj k=k:=Av (by omega);have hul:=Df w.parents k;have huo:=HA w.parents k (by omega);have hw3:IntKind.i64.wrap (3+(k:Int))=3+(k:Int):=wrap64 (by omega) (by omega);rcases BJ w.parents hk with⟨row,hr,hlt⟩|hke
  .obtain⟨r1,r2,r3⟩:=hrow k row hr
   rw[<-hck]at hw3
   conv=>whnf
   repeat'((first|clear U K|apply st|(apply zk;intro K U)|refine zY ?_|refine Pure.use (MR 1 _ (by decide) (by omega) (by omega)) ?_|fail)<;>conv=>whnf)
   have hst0:IntKind.i64.wrap (3+Bj k)=3+(k:Int):=by rw[hck];exact wrap64 (by omega) (by omega)
   have hs0lt:1|||2 ^ (3+k)<18446744073709551616:=Jo (by decide) (Hk (by omega))
   have hs0e:1|||2 ^ (IntKind.i64.wrap (3+Bj k)).toNat=1|||2 ^ (3+k):=by rw[hst0,show(3+(k:Int)).toNat=3+k by omega]
   rw[hs0e];refine Du row.length (fun j (s:Nat)=>[(41,eI (Bj j)),(7,eU s)]) (fun _ _=>[.box n0 (gB w v),.own v 1 (uL (Bc w.parents k))]) (fun j s=>s=Sp (Bc w.parents k) (row.take j) (1|||2 ^ (3+k))) (1|||2 ^ (3+k)) rfl rfl hs ?_;clear hs;rintro j s Z hj hse hs;rcases BJ row hj with⟨c,hcj,hjlt⟩|hje
   .obtain⟨q1,q2⟩:=r3 c (Dn hcj)
    conv=>whnf
    repeat'((first|clear U K|apply st|(apply zk;intro K U)|refine zY ?_|refine ze fun x hx=>?_|fail)<;>conv=>whnf)
    rename_i x hx;have hxd:(Bc w.parents k).getD c.toNat 0=x:=by rw[Dh,hx];rfl
    have hsl:s<18446744073709551616:=by rw[hse];exact OF huo _ _ hs0lt
    refine⟨hjlt,s|||x,?_,?_,hs⟩
    .rw[Hu hsl (huo x (Dn hx))]
     rfl
    .rw[hse,An hcj]
     simp only[Sp,List.foldl_append];rw[<-hxd];rfl
   .have e:Bc w.parents (k+1)=Bc w.parents k++[s]:=by
     rw[hse,Bc,Dh,hr,hje,List.take_length];rfl
    generalize Bc w.parents k=zl at *;have hll:zl.length<As/\(zl.length+1)*8<=140737488355328:=by omega
    conv=>whnf
    repeat'((first|clear U K|apply st|(apply zk;intro K U)|refine zY ?_|refine zs fun Z hs=>?_|refine aq (enc:=fun u:Nat=>[eU u]) (x:=s) (fun v Z hs hsl=>?_) (hg:=fX)|fail)<;>conv=>whnf)
    rw[<-e]at hs;exact⟨hlt,_,rfl,trivial,hs⟩
  .rw[hke]at hs
   refine zz ?_;(repeat clear U K);repeat intro K U
   exact Br (hs.ky 0 rfl (.cons (.refl _) (.cons (.refl _) (.cons (hs.He 1 rfl) .nil))))
end Go.Gl
namespace Go.Gl
open Go.Proofs
def wI {p:Prog} {gen:Int} {togX togR:List Fact->Bool} {OK:(Int->I3)->Prop} (hX: ∀l,(∀x∈l,C6 (AM p) x)->(togX l=true↔ ∃M,OK M/\ ∀x∈l,Em (AM p) M x))
    (hR: ∀l,(∀x∈l,C6 (AM p) x)->(togR l=true↔ ∃M,OK M/\ ∀x∈l,Em (AM p) M x)) (hn: ∀f∈Ma p gen,BM (AM p) f=true) :
    ((Gw p togX (Dv p gen)).map fun s=>dH (FD (Dv p gen) s,kI p (FD (Dv p gen) s)))=(G1 p gen togR).map dH:=by
 have hE: ∀l,Cq togX (EM p (Dv p gen)) l=Um togR (Ma p gen) l:=fun l=>by
  rw[Gr];exact(Ja hX hn l).trans (HN hR hn l).symm
 obtain⟨h1,-⟩:=PJ (so:=fun s n=>Cq togX (EM p (Dv p gen)) (Bi s n)) (E:=Cq togX (EM p (Dv p gen))) (Dv p gen).length 0 0 (by decide) (fun s n _=>rfl);rw[F9,H3 hE]at h1;rw[G1,show([]:List Bool)=Bi 0 0 from rfl,<-h1,uj,uj];rfl
def OU {p:Prog} {gen:Int} (h:Dw p gen=true) (h8:(Dv p gen).length<=8):N0 p (Dv p gen):=by
 rw[Dw,A4]at h;refine⟨look_ok h.1,fun m hm=>?_,h8⟩;have:=Ze p gen m;rw[List.contains_iff_mem.2 hm]at this;exact(x7.1 this.symm).1
def QK (ms:List Int) (bs:List Bool):(ET ms bs).Sublist ms:=by
 rw[ET]
 induction ms generalizing bs with
 | nil=>simp
 | cons m r ih=>
   cases bs with
   | nil=>simp
   | cons b q=>
     cases b
     .simpa using(ih q).cons m
     .simpa using ih q
def rq (p:Prog) (gen:Int):(Dv p gen).Pairwise (· < ·):=by
 rw[Dv,dS];exact List.Pairwise.filter _ (Jx _)
def Y9 {p:Prog} {gen:Int} {l:List Int} (h:l.Sublist (Dv p gen)):Qv p gen l=true:=by
 have hp:=(rq p gen).sublist h;refine lR fun i hi=>?_
 have hm:=Ze p gen l[i];rw[List.contains_iff_mem.2 (h.subset (List.getElem_mem hi))]at hm;have hm:=x7.1 hm.symm;rw[dZ];have e1:l.getD i 0=l[i]:=by rw[Dh,Di hi];rfl
 rw[e1,hm.1,hm.2,Ed,Ed,Bool.not_eq_true',Bool.and_eq_false_iff,decide_eq_false_iff_not,decide_eq_false_iff_not];by_cases h0:0<i
 .right
  have e2:l.getD (i - 1) 0=l[i - 1]'(by omega):=by rw[Dh,Di (by omega)];rfl
  rw[e2];have:=List.pairwise_iff_getElem.1 hp (i - 1) i (by omega) hi (by omega);omega
 .exact .inl h0
attribute [local irreducible] Ao Ai AY AO AJ AX AN AP AI AW AK AL Ak Au Sat AT Ar Aa W
def VH {p:Prog} {gen:Int} {ms:List Int} (h:(BZ p).isSome=true):Pure zP 89 [.a (UM p gen ms)] (.rp (gW (AM p) (B1 (AM p).parents))):=by
 have c1:=Z9 p;rw[if_pos h]at c1;have c2:=lg (AM p) (U3 h);refine xC kZ ?_;have hs:=Sn;exact zW
def fD {p:Prog} {gen:Int} {ms:List Int} (h:(BZ p).isSome=true) (cs:List Int) (f:Bool):Pure zP 35 [.a (UM p gen ms),.l (iL cs) f] (da 95 [] [.rp [.rp (gW (AM p) (B1 (AM p).parents))],.rp [.l (iL cs) f]] p gen ms):=by
 have c1:=VH (gen:=gen) (ms:=ms) h;refine pB kZ ?_;have hs:=Sn
 conv=>whnf
 repeat'((first|clear U K|apply st|(apply zk;intro K U)|refine zY ?_|refine zs fun Z hs=>?_|refine c1.use ?_|refine Y8.use ?_|refine zo fun nn hnn Z hs=>?_|fail)<;>conv=>whnf)
 exact Br (.f .nil (.cons (.rp (.cons (.f .nil (.cons (hs.ky 0 rfl (.refl _ _ _)) (.cons (.refl _) .nil))) .nil)) (.cons (.refl _) .nil)))
def JV {p:Prog} {gen:Int} (h:N0 p (Dv p gen)): ∀f∈Ma p gen,BM (AM p) f=true:=fun f hf=>by
 obtain⟨m,hm,rfl⟩:=H8.1 hf;have:=Cx (h.K3 m hm);exact(h.ok.facts _ (Dn this)).1
def nG {p:Prog} {gen:Int} {g:FuncId} {fi ca:List V} {togX togR:List Fact->Bool} {OK:(Int->I3)->Prop} (hX: ∀l,(∀x∈l,C6 (AM p) x)->(togX l=true↔ ∃M,OK M/\ ∀x∈l,Em (AM p) M x))
    (hR: ∀l,(∀x∈l,C6 (AM p) x)->(togR l=true↔ ∃M,OK M/\ ∀x∈l,Em (AM p) M x)) (h1:Dw p gen=true) (h8:(Dv p gen).length<=8) (hcan:Us g fi ca (AM p) togX) :
    Pure zP 33 [.a (UQ p gen),da g fi ca p gen (Dv p gen)] (.l ((G1 p gen togR).map dH) false):=by
 have hfn:=OU h1 h8;have:=nE (gen:=gen) hfn hcan (stE:=kI p) (fun s _=>fC p gen _ false h1 (Y9 (QK _ _)));rw[wI hX hR (JV hfn)]at this;exact this
end Go.Gl
namespace Go.Gl
open Go.Proofs
attribute [local irreducible] Ao Ai AY AO AJ AX AN AP AI AW AK AL Ak Au Sat AT Ar Aa W
def oM (p:Prog) (c:Int):Bool:=decide (1<=c)&&decide (c<3+(p.AQ.length:Int))
def MO (p:Prog) (gen:Int) (cs:List Int):Bool:=((cs.length:Int)==p.Ch.getD gen.toNat 0)&&cs.all (oM p)
def Zw {p:Prog} {gen:Int} {cs:List Int} (h:Dw p gen=true) (hc:MO p gen cs=true):(∀c∈cs,1<=c/\c<3+((AM p).parents.length:Int))/\cs.length<=3:=by
 rw[Dw,A4,XK,A4,CT,CT]at h;rw[MO,A4,Cy,DR]at hc;have hl:(AM p).parents.length=p.AQ.length:=by simp[AM,A6]
 refine⟨fun c hm=>?_,?_⟩
 .have:=hc.2 c hm
  rw[oM,A4,CT,CT]at this;rw[hl];exact this
 .obtain⟨hh,-⟩:=EE h.1
  simp only[Eh,A4,CT,DR]at hh;have hlt:gen.toNat<p.Ch.length:=by omega
  have:=hh.2.2.2.2.2 _ (List.getElem_mem hlt);have e:p.Ch.getD gen.toNat 0=p.Ch[gen.toNat]:=by rw[Dh,Di hlt];rfl
  rw[e]at hc;omega
def nt (p:Prog) (h10:p.AQ.length<=10) (c:Int):Pure zP 67 [eI c,.rp (Ba p)] (.b (!oM p c)):=by
 have ec:((p.AQ.map Qz).length:Int)=p.AQ.length:=by simp
 have hw:IntKind.i64.wrap (3+(p.AQ.length:Int))=3+(p.AQ.length:Int):=wrap64 (by omega) (by omega);rw[oM];refine xM kZ ?_;have hs:=Sn
 conv=>whnf
 repeat'((first|clear U K|apply st|(apply zk;intro K U)|refine zY ?_|refine za (fun hc=>?_) fun hc=>?_|fail)<;>conv=>whnf)
 .refine AS ?_
  rw[ec,hw,decide_eq_true (show 1<=c by omega),Ed];show V.b (decide (c≥3+(p.AQ.length:Int)))=_;congr 1;rw[Gr];simp
 .exact AS (by rw[decide_eq_false (show¬1<=c by omega)];rfl)
def nu (p:Prog) (gen:Int) (cs:List Int) (f:Bool) (h:Dw p gen=true):Pure zP 65 [.a (UQ p gen),.rp [.l (iL cs) f],.rp (Ba p),.rp [eI gen]] (.b (MO p gen cs)):=by
 have h2:=h;rw[Dw,A4,XK,A4,CT,CT]at h2;have c1:Pure zP 66 [.l (iL cs) f,.f (.func 67) [] [.rp (Ba p)]] (.b (cs.any fun c=> !oM p c)):=IM f fun y _=>nt p (Xn h2.1) y
 have hlt:gen.toNat<p.Ch.length:=by omega
 have hg:p.Ch[gen.toNat]? =some (p.Ch.getD gen.toNat 0):=by rw[Dh,Di hlt];rfl
 have ecs:((iL cs).length:Int)=cs.length:=by simp
 have hn:cs.all (oM p)= !cs.any fun c=> !oM p c:=List.all_eq_not_any_not
 rw[MO,hn];generalize p.Ch.getD gen.toNat 0=n at *;refine xN kZ ?_;have hs:=Sn
 conv=>whnf
 repeat'((first|clear U K|apply st|(apply zk;intro K U)|refine zY ?_|refine zC ?_|(refine zd (fun hc=>?_) (fun hc=>?_)<;>try exact⟨⟩)|fail)<;>conv=>whnf)
 .exact AS (by rw[Cy.2 (show(cs.length:Int)=n by omega)];rfl)
 .exact AS (by rw[beq_eq_false_iff_ne.2 (show(cs.length:Int)≠n by omega)];rfl)
abbrev lA (p:Prog) (gen:Int) (cs:List Int):V:= .t [if Gz p gen (MO p gen cs)=0 then .l ((G1 p gen (Og (AM p) cs)).map dH) false else .l [] true,eI (Gz p gen (MO p gen cs))]
def vw (p:Prog) (gen:Int) (cs:List Int) (f:Bool):Pure zP 20 [.a (Ba p),eI gen,.l (iL cs) f] (lA p gen cs):=by
 have c1:=gK p gen 65 [.rp [.l (iL cs) f],.rp (Ba p),.rp [eI gen]] (MO p gen cs) (fun h=>nu p gen cs f h);rw[lA];cases h1:Dw p gen
 .rw[(Ik h1 _).1,(Ik h1 _).2]at c1
  rw[(Ik h1 _).2];refine Yx kZ ?_;have hs:=Sn;exact zW
 cases h2:MO p gen cs
 .rw[h2,Ij.1,Ij.2]at c1
  rw[Ij.2];refine Yx kZ ?_;have hs:=Sn;exact zW
 rw[h2,(IG h1).1,(IG h1).2]at c1;rw[(IG h1).2];by_cases h8:(Dv p gen).length<=8
 .have hl:=h1
  rw[Dw,A4]at hl;have hw:=(look_ok hl.1).vB;have hcs:=Zw h1 h2;have c2:=fD (gen:=gen) (ms:=Dv p gen) hl.1 cs f;have c3:=nG (fun l hl=>Ir hw fun x hx=>Fc (hl x hx)) (U0 hw hcs.1) h1 h8 (TY _ (U3 hl.1) cs f hcs.2);rw[if_pos h8]at c1 ⊢;rw[if_pos rfl];refine Yx kZ ?_;have hs:=Sn
  conv=>whnf
  repeat'((first|clear U K|apply st|(apply zk;intro K U)|refine zY ?_|refine rk ?_ ?_|exact fun s e=>by cases e;rfl|refine zs fun Z hs=>?_|refine zC ?_|(refine zb (fun hc=>?_) (fun hc=>?_)<;>try exact⟨⟩)|refine zo fun nn hnn Z hs=>?_|fail)<;>conv=>whnf)
  all_goals exact AS rfl
 .rw[if_neg h8]at c1 ⊢
  rw[if_neg (by decide)];refine Yx kZ ?_;have hs:=Sn;exact zW
end Go.Gl
namespace Go.Gl
open Go.Proofs
section
variable {g:FuncId} {fi ca:List V} {p:Prog} {gen:Int} {ms:List Int} {tog:List Fact->Bool}
attribute [local irreducible] Ao Ai AY AO AJ AX AN AP AI AW AK AL Ak Au Sat AT Ar Aa W
def yN {S:Type} (g:FuncId) (fi ca:List V) (p:Prog) (gen:Int) (ms:List Int) (tog:List Fact->Bool) (HL:S->List At->Prop) (pre:List At):Prop:=
 ∀ s many:Nat,s<18446744073709551616->many<=ms.length-> ∀l Z z,HL z l->Sat Z (pre++l)-> ∀k kp:V->AE->Prop,k (.b (Cq tog (EM p ms) (Bi s many))) Z->
   Ao zP 145 [eU s,eI many,.rp [.f (.func g) fi ca],.rp (UM p gen ms)] Z (qk k kp)
def wA {S:Type} (hfew:ms.length<=8) {fn:Fn} {fiy cay:List V} {HL:S->List At->Prop} {stp:Nat->S->Bool×S} {D:Nat->S->Prop} {nS nW:Nat}
    (hso:yN g fi ca p gen ms tog HL (Qw g fi ca p gen ms (.f fn fiy cay) nS nW))
    (hy:PB zP (.f fn fiy cay) eU HL stp D (Qw g fi ca p gen ms (.f fn fiy cay) nS nW)) :
    ∀(d many s:Nat) (z0:S),many+d=ms.length->s<2 ^ many->Ns stp D (FO (fun s n=>Cq tog (EM p ms) (Bi s n)) d many s) z0-> ∀l Z,HL z0 l->Sat Z (Qw g fi ca p gen ms (.f fn fiy cay) nS nW++l)->
    Ao zP 149 [eU s,eI many,.p nS 0,.rp (UM p gen ms),.rp [.f fn fiy cay],.p nW 0] Z fun r Z'=>r= .ret (.b (Bp stp (FO (fun s n=>Cq tog (EM p ms) (Bi s n)) d many s) z0).1)/\
     ∃l',HL (Bp stp (FO (fun s n=>Cq tog (EM p ms) (Bi s n)) d many s) z0).2 l'/\Sat Z' (Qw g fi ca p gen ms (.f fn fiy cay) nS nW++l'):=by
 have hM:=Mx;intro d
 induction d with
 | zero=>
   intro many s z0 hmd hs2 hok l Z hl hs;have hs64:s<18446744073709551616:=Nat.lt_of_lt_of_le hs2 (Nat.le_trans (Nat.pow_le_pow_right (by omega) (show many<=8 by omega)) (by decide));have c1:=hso s many hs64 (by omega);rw[FO]at hok ⊢;cases hB:Cq tog (EM p ms) (Bi s many)<;>rw[hB]at c1
   .simp only[hB,Jf,if_false]at hok ⊢
    refine Ip kZ ?_
    conv=>whnf
    repeat'((first|clear U K|apply st|(apply zk;intro K U)|refine zY ?_|refine Ay (c1 l _ z0 hl hs _ _ ?_)|fail)<;>conv=>whnf)
    all_goals exact AH ⟨rfl,l,hl,hs⟩
   .simp only[hB,if_true]at hok ⊢
    rw[Lx];refine Ip kZ ?_
    conv=>whnf
    repeat'((first|clear U K|apply st|(apply zk;intro K U)|refine zY ?_|refine Ay (c1 l _ z0 hl hs _ _ ?_)|(refine zb (fun hc=>?_) (fun hc=>?_)<;>try exact⟨⟩)|fail)<;>conv=>whnf)
    all_goals try(exfalso;simp at hc;omega)
    refine hy.use hok.1 hl hs ?_;clear hs;intro l' Z hl' hs;refine zz ?_;(repeat clear U K);repeat intro K U
    exact AH ⟨rfl,l',hl',hs⟩
 | succ d ih=>
   intro many s z0 hmd hs2 hok l Z hl hs;have hs64:s<18446744073709551616:=Nat.lt_of_lt_of_le hs2 (Nat.le_trans (Nat.pow_le_pow_right (by omega) (show many<=8 by omega)) (by decide));have c1:=hso s many hs64 (by omega);obtain⟨-,-,b3,b4⟩:=Km hs2;rw[FO]at hok ⊢;cases hB:Cq tog (EM p ms) (Bi s many)<;>rw[hB]at c1
   .simp only[hB,Jf,if_false]at hok ⊢
    refine Ip kZ ?_
    conv=>whnf
    repeat'((first|clear U K|apply st|(apply zk;intro K U)|refine zY ?_|refine Ay (c1 l _ z0 hl hs _ _ ?_)|fail)<;>conv=>whnf)
    all_goals exact AH ⟨rfl,l,hl,hs⟩
   .simp only[hB,if_true]at hok ⊢
    obtain⟨ok1,ok2⟩:=LD hok;have i1:=ih (many+1) s z0 (by omega) b4 ok1;have i2:=fun z0 h=>ih (many+1) (s|||2 ^ many) z0 (by omega) b3 h
    have c2:=MR s (many:Int) hs64 (by omega) (by omega);rw[Hc]at c2;have hwi:IntKind.i64.wrap ((many:Int)+1)=((many+1:Nat):Int):=by rw[wrap64 (by omega) (by omega)];omega
    rw[<-hwi]at i1 i2;rw[Ix];generalize FO (fun s n=>Cq tog (EM p ms) (Bi s n)) d (many+1) s=A1 at *;generalize FO (fun s n=>Cq tog (EM p ms) (Bi s n)) d (many+1) (s|||2 ^ many)=A2 at *;generalize hx1:Bp stp A1 z0=x1 at *;obtain⟨q1,z1⟩:=x1;dsimp only at i1 ok2 ⊢;refine Ip kZ ?_
    conv=>whnf
    repeat'((first|clear U K|apply st|(apply zk;intro K U)|refine zY ?_|refine Ay (c1 l _ z0 hl hs _ _ ?_)|(refine zb (fun hc=>?_) (fun hc=>?_)<;>try exact⟨⟩)|fail)<;>conv=>whnf)
    all_goals try(exfalso;simp at hc;omega)
    refine Ay (Ao.mono (i1 l Z hl hs) ?_);clear hs;rintro r Z ⟨rfl,l1,hl1,hs⟩;cases q1
    .conv=>whnf
     repeat'((first|clear U K|apply st|refine rk ?_ ?_|exact fun s e=>by cases e;rfl|fail)<;>conv=>whnf)
     exact AH ⟨rfl,l1,hl1,hs⟩
    .have i3:=i2 z1 (ok2 rfl)
     conv=>whnf
     repeat'((first|apply st|refine zY ?_|refine rk ?_ ?_|exact fun s e=>by cases e;rfl|refine zC ?_|fail)<;>conv=>whnf)
     refine Ay (Ao.mono (i3 l1 Z hl1 hs) ?_);clear hs;rintro r Z ⟨rfl,l2,hl2,hs⟩;refine zz ?_;(repeat clear U K);repeat intro K U
     exact AH ⟨rfl,l2,hl2,hs⟩
def ye {S:Type} (hfew:ms.length<=8) {fn:Fn} {fiy cay:List V} {HL:S->List At->Prop} {stp:Nat->S->Bool×S} {D:Nat->S->Prop}
    (hso: ∀nS nW,yN g fi ca p gen ms tog HL (Qw g fi ca p gen ms (.f fn fiy cay) nS nW))
    (hy: ∀nS nW,PB zP (.f fn fiy cay) eU HL stp D (Qw g fi ca p gen ms (.f fn fiy cay) nS nW)) (z0:S) (hok:Ns stp D (Gw p tog ms) z0) {l:List At} {Z:AE} (hl:HL z0 l) (hs:Sat Z l) :
    Ao zP 144 [.f fn fiy cay,.rp [.f (.func g) fi ca],.rp (UM p gen ms)] Z fun r Z'=>r= .ret (.t [])/\ ∃l',HL (Bp stp (Gw p tog ms) z0).2 l'/\Sat Z' l':=by
 refine gC kZ ?_
 conv=>whnf
 repeat'((first|clear U K|apply st|(apply zk;intro K U)|refine zY ?_|refine zs fun Z hs=>?_|refine zo fun nn hnn Z hs=>?_|fail)<;>conv=>whnf)
 refine Ay (Ao.mono (wA hfew (hso _ _) (hy _ _) ms.length 0 0 z0 (by omega) (by decide) hok l Z hl hs) ?_);clear hs;rintro r Z ⟨rfl,l',hl',hs⟩
 conv=>whnf
 repeat'((first|clear U K|apply st|fail)<;>conv=>whnf)
 exact AH ⟨rfl,l',hl',hs.less (by simp)⟩
def iH {S:Type} (h:N0 p ms) {ca2:List V} (hcan:Us g fi ca2 (AM p) tog) {HL:S->List At->Prop} {pre:List At} (hf: ∀z l Z,HL z l->Sat Z (pre++l)->Cz Z emp ca ca2):yN g fi ca p gen ms tog HL pre:=
 fun s many h1 h2 l Z z hl hs k kp hk=>Pure.Sy (dz (gen:=gen) h hcan (s:=s) (many:=many) h1 h2) (.cons (.refl _) (.cons (.refl _) (.cons (.rp (.cons (.f (Cz.refl _ _ _) (hf z l Z hl hs)) .nil)) (.cons (.refl _) .nil)))) rfl hk
end
end Go.Gl
namespace Go.Gl
def El (B:Int):List Int->Option (List Int)
 | []=>none
 | c::r=>match El B r with
   | some r'=>some (c::r')
   | none=>if c+1<B then some ((c+1)::List.replicate r.length 1)else none
def DL (B:Int) (cs:List Int):Prop:= ∀c∈cs,1<=c/\c<B
def N5 (B:Int):List Int->Nat
 | []=>0
 | c::r=>(B - c).toNat*B.toNat ^ r.length+N5 B r
def dT:List Int->List Int->Prop
 | x::xs,c::cs=>c<x\/(x=c/\dT xs cs)
 | _,_=>True
def Lp: ∀x:List Int,(∀c∈x,1<=c)->dT x (List.replicate x.length 1)
 | [],_=>trivial
 | c::r,h=>by
   have h1:=h c (List.mem_cons_self ..);by_cases hc:c=1
   .exact .inr ⟨hc,Lp r fun y hy=>h y (List.mem_cons_of_mem _ hy)⟩
   .exact .inl (by omega)
def F0 {B:Int} (hB:1<B) (n:Nat):DL B (List.replicate n 1):=fun c hc=>by
 rw[List.mem_replicate]at hc;omega
def Hr {B:Int}: ∀ {cs cs':List Int},DL B cs->El B cs=some cs'->DL B cs'/\cs'.length=cs.length
 | [],_,_,h=>by cases h
 | c ::r,cs',hk,h=>by
   have hc:=hk c (List.mem_cons_self ..);have hr:DL B r:=fun y hy=>hk y (List.mem_cons_of_mem _ hy)
   rw[El]at h;cases h1:El B r with
   | some r'=>
     rw[h1]at h;simp only[GU]at h;subst h;obtain⟨g1,g2⟩:=Hr hr h1;refine⟨fun y hy=>?_,by simp[g2]⟩;rcases FR.1 hy with rfl|hy
     .exact hc
     .exact g1 y hy
   | none=>
     rw[h1]at h;simp only at h;split at h
     .simp only[GU]at h
      subst h;refine⟨fun y hy=>?_,by simp⟩;rcases FR.1 hy with rfl|hy
      .omega
      .exact F0 (by omega) _ y hy
     .cases h
def Z1 {B:Int}: ∀ {cs:List Int},DL B cs->N5 B cs<B.toNat ^ cs.length
 | [],_=>by simp[N5]
 | c::r,hk=>by
   have hc:=hk c (List.mem_cons_self ..);have ih:=Z1 (cs:=r) fun y hy=>hk y (List.mem_cons_of_mem _ hy)
   rw[N5,Kt,Nat.pow_succ];have h1:(B - c).toNat+1<=B.toNat:=by omega
   have h2:=W8 (B.toNat ^ r.length) h1;rw[Nat.add_mul,Nat.one_mul]at h2;rw[Nat.mul_comm (B.toNat ^ r.length)];omega
def Tf {B:Int}: ∀ {cs cs':List Int},DL B cs->El B cs=some cs'->N5 B cs'<N5 B cs
 | [],_,_,h=>by cases h
 | c ::r,cs',hk,h=>by
   have hc:=hk c (List.mem_cons_self ..);have hr:DL B r:=fun y hy=>hk y (List.mem_cons_of_mem _ hy)
   rw[El]at h;cases h1:El B r with
   | some r'=>
     rw[h1]at h;simp only[GU]at h;subst h;have:=Tf hr h1;rw[N5,N5,(Hr hr h1).2];omega
   | none=>
     rw[h1]at h;simp only at h;split at h
     .simp only[GU]at h
      subst h;have h2:=Z1 (F0 (B:=B) (by omega) r.length);rw[List.length_replicate]at h2;rw[N5,N5,List.length_replicate];have e:(B - c).toNat=(B - (c+1)).toNat+1:=by omega
      rw[e,Nat.add_mul,Nat.one_mul];omega
     .cases h
def Tg {B:Int}: ∀ {cs x:List Int},x.length=cs.length->DL B cs->DL B x->dT x cs->x=cs\/ ∃cs',El B cs=some cs'/\dT x cs'
 | [],[],_,_,_,_=> .inl rfl
 | [],_::_,h,_,_,_=>by cases h
 | _::_,[],h,_,_,_=>by cases h
 | c ::r,y::xs,hl,hk,hx,hg=>by
   have hl:xs.length=r.length:=by simpa using hl
   have hr:DL B r:=fun z hz=>hk z (List.mem_cons_of_mem _ hz)
   have hxs:DL B xs:=fun z hz=>hx z (List.mem_cons_of_mem _ hz)
   have hy:=hx y (List.mem_cons_self ..);rw[El];have hg:c<y\/(y=c/\dT xs r):=hg;rcases hg with hg|⟨he,hg⟩
   .right
    cases h1:El B r with
    | some r'=>exact⟨_,rfl,Or.inl hg⟩
    | none=>
      simp only;rw[if_pos (by omega)];refine⟨_,rfl,?_⟩;by_cases e:y=c+1
      .exact Or.inr ⟨e,by rw[<-hl];exact Lp xs fun z hz=>(hxs z hz).1⟩
      .exact Or.inl (by omega)
   .rcases Tg (cs:=r) (x:=xs) hl hr hxs hg with e|⟨r',h1,h2⟩
    .exact .inl (by rw[he,e])
    .exact .inr ⟨c::r',by rw[h1],(Or.inr ⟨he,h2⟩:c<y\/(y=c/\dT xs r'))⟩
inductive Cj (B:Int) (E:List Int->Bool):List Int->List Int->Prop
 | here {cs:List Int}:E cs=true->Cj B E cs cs
 | there {cs cs' R:List Int}:E cs=false->El B cs=some cs'->Cj B E cs' R->Cj B E cs R
def Cj.now {B:Int} {E:List Int->Bool} {cs R:List Int} (h:Cj B E cs R) (he:E cs=true):R=cs:=by
 cases h with
 | here _=>rfl
 | there h1 _ _=>rw[h1]at he;cases he
def Cj.later {B:Int} {E:List Int->Bool} {cs R:List Int} (h:Cj B E cs R) (he:E cs=false): ∃cs',El B cs=some cs'/\Cj B E cs' R:=by
 cases h with
 | here h1=>rw[h1]at he;cases he
 | there _ h2 h3=>exact⟨_,h2,h3⟩
def Cj.has {B:Int} {E:List Int->Bool} {cs R:List Int} (h:Cj B E cs R):E R=true:=by
 induction h with
 | here h1=>exact h1
 | there _ _ _ ih=>exact ih
def Cj.row {B:Int} {E:List Int->Bool} {cs R:List Int} (h:Cj B E cs R):DL B cs->DL B R/\R.length=cs.length:=by
 induction h with
 | here h1=>exact fun h=>⟨h,rfl⟩
 | there _ h2 _ ih=>
   intro hk;obtain⟨g1,g2⟩:=Hr hk h2;obtain⟨g3,g4⟩:=ih g1;exact⟨g3,g4.trans g2⟩
def Cj.least {B:Int} {E:List Int->Bool} {cs R:List Int} (h:Cj B E cs R): ∀ {x:List Int},x.length=cs.length->DL B cs->DL B x->dT x cs->E x=true->dT x R:=by
 induction h with
 | here h1=>exact fun _ _ _ hg _=>hg
 | there h1 h2 _ ih=>
   intro x hl hk hx hg he;obtain⟨g1,g2⟩:=Hr hk h2;rcases Tg hl hk hx hg with rfl|⟨cs',e,g3⟩
   .rw[h1]at he;cases he
   .rw[h2]at e
    cases e;exact ih (hl.trans g2.symm) g1 hx g3 he
def Cj.some {B:Int} {E:List Int->Bool} {x:List Int} (hx:DL B x) (he:E x=true): ∀(n:Nat) (cs:List Int),N5 B cs<n->x.length=cs.length->DL B cs->dT x cs-> ∃R,Cj B E cs R
 | 0,_,h,_,_,_=>by omega
 | n + 1,cs,hn,hl,hk,hg=>by
   cases h1:E cs with
   | true=>exact⟨_,.here h1⟩
   | false=>
     rcases Tg hl hk hx hg with rfl|⟨cs',h2,h3⟩
     .rw[h1]at he;cases he
     .obtain⟨g1,g2⟩:=Hr hk h2
      obtain⟨R,hR⟩:=Cj.some hx he n cs' (by have:=Tf hk h2;omega) (hl.trans g2.symm) g1 h3;exact⟨R,.there h1 h2 hR⟩
def YS {B:Int} {E:List Int->Bool} {x:List Int} (hB:1<B) (hx:DL B x) (he:E x=true): ∃R,Cj B E (List.replicate x.length 1) R:=
 Cj.some hx he _ _ (Nat.lt_succ_self _) (by simp) (F0 hB _) (Lp x fun c hc=>(hx c hc).1)
def Vg {B:Int} {t t':List Int} (h:El B t=some t'): ∀pre:List Int,El B (pre++t)=some (pre++t')
 | []=>h
 | c::r=>by rw[List.cons_append,El,Vg h r];rfl
def il {B c:Int} {r:List Int} (h:El B r=none) (hc:c+1<B) (pre:List Int):El B (pre++c::r)=some (pre++(c+1)::List.replicate r.length 1):=
 Vg (by rw[El,h];simp only;rw[if_pos hc]) pre
def ik {B c:Int} {r:List Int} (h:El B r=none) (hc: ¬c+1<B):El B (c::r)=none:=by
 rw[El,h];simp only;rw[if_neg hc]
def UL (cs:List Int) (k:Nat):List Int:=cs.take (cs.length - k)++List.replicate k 1
def wP (cs:List Int):UL cs 0=cs:=by simp[UL]
def lu {cs:List Int} {k:Nat} (hk:k<=cs.length):(UL cs k).length=cs.length:=by simp[UL];omega
def qu {cs:List Int} {k:Nat} {c:Int} (hk:k<cs.length) (hc:cs[cs.length - 1 - k]? =some c):(UL cs k)[cs.length - 1 - k]? =some c:=by
 rw[UL,dN (by simp;omega),List.getElem?_take_of_lt (by omega)];exact hc
def ZQ {cs:List Int} {k:Nat} (hk:k<cs.length) (y:Int):(UL cs k).set (cs.length - 1 - k) y=cs.take (cs.length - 1 - k)++y::List.replicate k 1:=by
 have e:cs.take (cs.length - k)=cs.take (cs.length - 1 - k)++[cs[cs.length - 1 - k]]:=by
  rw[show cs.length - k=cs.length - 1 - k+1 by omega,List.take_succ_eq_append_getElem (by omega)]
 have e2:(cs.take (cs.length - 1 - k)).length=cs.length - 1 - k:=by rw[NK];omega
 rw[UL,e,Od,List.set_append_right _ _ (by rw[e2];exact IN _),e2,Nat.sub_self];rfl
def iY {cs:List Int} {k:Nat} (hk:k<cs.length):(UL cs k).set (cs.length - 1 - k) 1=UL cs (k+1):=by
 rw[ZQ hk,UL,List.replicate_succ,show cs.length - (k+1)=cs.length - 1 - k by omega]
def Zs {cs:List Int} {k:Nat} {c:Int} (hk:k<cs.length) (hc:cs[cs.length - 1 - k]? =some c):cs.drop (cs.length - (k+1))=c::cs.drop (cs.length - k):=by
 have h1:cs.length - 1 - k<cs.length:=by omega
 rw[Di h1,GU]at hc;rw[show cs.length - (k+1)=cs.length - 1 - k by omega,List.drop_eq_getElem_cons h1,hc,show cs.length - 1 - k+1=cs.length - k by omega]
def iX {B:Int} {cs:List Int} {k:Nat} {c:Int} (hk:k<cs.length) (hc:cs[cs.length - 1 - k]? =some c) (hn:El B (cs.drop (cs.length - k))=none) (hB:c+1<B) :
    El B cs=some ((UL cs k).set (cs.length - 1 - k) (c+1)):=by
 have h:=il hn hB (cs.take (cs.length - 1 - k))
 have e:cs.take (cs.length - 1 - k)++c::cs.drop (cs.length - k)=cs:=by
  rw[<-Zs hk hc,show cs.length - (k+1)=cs.length - 1 - k by omega,List.take_append_drop]
 rw[e]at h;rw[h,ZQ hk];simp only[List.length_drop];rw[show cs.length - (cs.length - k)=k by omega]
def qt {B:Int} {cs:List Int} {k:Nat} {c:Int} (hk:k<cs.length) (hc:cs[cs.length - 1 - k]? =some c) (hn:El B (cs.drop (cs.length - k))=none) (hB: ¬c+1<B) :
    El B (cs.drop (cs.length - (k+1)))=none:=by
 rw[Zs hk hc];exact ik hn hB
def UR (n:Nat):Nat->Int
 | 0=>IntKind.i64.wrap ((n:Int) - 1)
 | k+1=>IntKind.i64.wrap (UR n k - 1)
def fj {n:Nat} (hn:n<=1000): ∀k,k<=n->UR n k=(n:Int) - 1 - k
 | 0,_=>by rw[UR,wrap64 (by omega) (by omega)];omega
 | k+1,h=>by
   rw[UR,fj hn k (by omega),wrap64 (by omega) (by omega)];omega
end Go.Gl
namespace Go.Gl
open Go.Proofs
attribute [local irreducible] Ao Ai AY AO AJ AX AN AP AI AW AK AL Ak Au Sat AT Ar Aa W
def pF {p:Prog} {gen:Int} (h:Gz p gen true=0):Dw p gen=true/\(Dv p gen).length<=8:=by
 cases h1:Dw p gen
 .rw[(Ik h1 true).2]at h;cases h
 .rw[(IG h1).2]at h
  by_cases h8:(Dv p gen).length<=8
  .exact⟨rfl,h8⟩
  .rw[if_neg h8]at h;cases h
def Rm {p:Prog} {gen:Int} {tog:List Fact->Bool} (h8:(Dv p gen).length<=8):(G1 p gen tog).length<=256:=by
 rw[G1,C4];exact Nat.le_trans (JT _ _) (Nat.le_trans (Nat.pow_le_pow_right (by omega) h8) (by decide))
end Go.Gl
namespace Go.Gl
open Go.Proofs
def wJ {p:Prog} {gen:Int} {togX togR:List Fact->Bool} {OK:(Int->I3)->Prop} (hX: ∀l,(∀x∈l,C6 (AM p) x)->(togX l=true↔ ∃M,OK M/\ ∀x∈l,Em (AM p) M x))
    (hR: ∀l,(∀x∈l,C6 (AM p) x)->(togR l=true↔ ∃M,OK M/\ ∀x∈l,Em (AM p) M x)) (hn: ∀f∈Ma p gen,BM (AM p) f=true) :
    ((Gw p togX (Dv p gen)).map fun s=>(FD (Dv p gen) s,kI p (FD (Dv p gen) s)))=G1 p gen togR:=by
 have hE: ∀l,Cq togX (EM p (Dv p gen)) l=Um togR (Ma p gen) l:=fun l=>by
  rw[Gr];exact(Ja hX hn l).trans (HN hR hn l).symm
 obtain⟨h1,-⟩:=PJ (so:=fun s n=>Cq togX (EM p (Dv p gen)) (Bi s n)) (E:=Cq togX (EM p (Dv p gen))) (Dv p gen).length 0 0 (by decide) (fun s n _=>rfl);rw[F9,H3 hE]at h1;rw[G1,show([]:List Bool)=Bi 0 0 from rfl,<-h1,uj];rfl
section
variable {g:FuncId} {fi ca:List V} {p:Prog} {gen:Int} {ms:List Int} {tog:List Fact->Bool}
abbrev Qt (q:Nat->Bool) (y:Nat) (_:Bool):Bool×Bool:=(q y,!q y)
def gN (q:Nat->Bool): ∀l:List Nat,Bp (Qt q) l false=(l.all q,!l.all q)
 | []=>rfl
 | y::r=>by
   rw[Bp,W5];cases hq:q y
   .simp[Qt,hq]
   .simpa[Qt,hq]using gN q r
def oh (q:Nat->Bool) {Q:Nat->Prop}: ∀l:List Nat,(∀y∈l,Q y)->Ns (Qt q) (fun y s=>Q y/\s=false) l false
 | [],_=>trivial
 | y::r,h=>⟨⟨h y (.head _),rfl⟩,fun hy=>by
   have hq:q y=true:=hy;have:=oh q r fun z hz=>h z (.tail _ hz)
   simpa[Qt,hq]using this⟩
attribute [local irreducible] Ao Ai AY AO AJ AX AN AP AI AW AK AL Ak Au Sat AT Ar Aa W
end
attribute [local irreducible] Ao Ai AY AO AJ AX AN AP AI AW AK AL Ak Au Sat AT Ar Aa W
def S0 (q:List Int×Int->Bool):List (List Int×Int)->Nat->Int
 | [],_=> -1
 | x::r,k=>if q x then(k:Int)else S0 q r (k+1)
def Vp (q:List Int×Int->Bool): ∀(xs:List (List Int×Int)) (k:Nat),decide (S0 q xs k≥0)=xs.any q
 | [],_=>rfl
 | x::r,k=>by
   rw[S0,Qj];cases q x
   .simpa using Vp q r (k+1)
   .simp
end Go.Gl
namespace Go.Gl
open Go.Proofs
def Ue (xs:List (List Int×Int)) (st0:Int):Bool:=xs.any fun x=>x.2==st0
attribute [local irreducible] Ao Ai AY AO AJ AX AN AP AI AW AK AL Ak Au Sat AT Ar Aa W
end Go.Gl
namespace Go.Gl
open Go.Proofs
abbrev kS (p:Prog) (gen:Int):Int:=p.Ch.getD gen.toNat 0
def Xq {p:Prog} {gen:Int} (h:Dw p gen=true):p.Ch[gen.toNat]? =some (kS p gen)/\1<=kS p gen/\kS p gen<=3/\0<=gen:=by
 rw[Dw,A4,XK,A4,CT,CT]at h;obtain⟨hh,-⟩:=EE h.1;simp only[Eh,A4,CT,DR]at hh;have hlt:gen.toNat<p.Ch.length:=by omega
 have:=hh.2.2.2.2.2 _ (List.getElem_mem hlt);have e:kS p gen=p.Ch[gen.toNat]:=by rw[kS,Dh,Di hlt];rfl
 rw[e];exact⟨Di hlt,this.1,this.2,h.2.1⟩
def x8 (p:Prog):(AM p).parents.length=p.AQ.length:=by simp[AM,A6]
attribute [local irreducible] Ao Ai AY AO AJ AX AN AP AI AW AK AL Ak Au Sat AT Ar Aa W
def Yi (sv:Int):Bool:=decide (1<=sv)&&decide (sv<=4)
def Fq (p:Prog) (gen sv:Int) (cs:List Int):Bool:=Ue (G1 p gen (Og (AM p) cs)) sv
def bt {p:Prog} {gen sv:Int} (h1:Dw p gen=true) (h8:(Dv p gen).length<=8) (h:Fq p gen sv []=true) {n:Nat} (hn3:n<=3): ∃cs:List Int,cs.length=n/\DL (3+(p.AQ.length:Int)) cs/\Fq p gen sv cs=true:=by
 rw[Fq,Ue,GF]at h;obtain⟨x,hx,hst⟩:=h;rw[G1,H8]at hx;obtain⟨bs,hb,rfl⟩:=hx;have hfn:=OU h1 h8;have hw:=hfn.ok.vB;have hn:=JV hfn;obtain⟨hlen,-,hE⟩:=Vx _ _ _ hb;obtain⟨cs,e1,e2,e3⟩:=jn hw hn hn3 bs hE;refine⟨cs,e1,by rw[x8]at e2;exact e2,?_⟩;rw[Fq,Ue,GF];refine⟨_,?_,hst⟩;rw[G1,H8];exact⟨bs,Vw (fun a b=>jo (U0 hw e2) hn a b) _ [] bs (by simpa using hlen) (by simpa using e3),rfl⟩
def fQ (p:Prog) (gen sv:Int) (R:List Int):Prop:=Gz p gen (Yi sv)=0->Fq p gen sv []=true->Cj (3+(p.AQ.length:Int)) (Fq p gen sv) (List.replicate (kS p gen).toNat 1) R
def ua {p:Prog} {gen sv:Int} (h:Gz p gen (Yi sv)=0):Dw p gen=true/\Yi sv=true/\(Dv p gen).length<=8:=by
 cases h1:Dw p gen
 .rw[(Ik h1 _).2]at h;cases h
 cases h2:Yi sv
 .rw[h2,Ij.2]at h;cases h
 rw[h2]at h;exact⟨rfl,rfl,(pF h).2⟩
def jC (p:Prog) (gen sv:Int): ∃R,fQ p gen sv R:=by
 by_cases h0:Gz p gen (Yi sv)=0
 .obtain⟨h1,-,h8⟩:=ua h0
  cases h:Fq p gen sv []
  .exact⟨[],fun _ h'=>by rw[h]at h';cases h'⟩
  .obtain⟨-,g1,g3,-⟩:=Xq h1
   obtain⟨cs,e1,e2,e3⟩:=bt h1 h8 h (n:=(kS p gen).toNat) (by omega);obtain⟨R,hR⟩:=YS (by omega) e2 e3;exact⟨R,fun _ _=>by rw[<-e1];exact hR⟩
 .exact⟨[],fun h'=>absurd h' h0⟩
def aV (p:Prog) (gen sv:Int) (R:List Int):V:=if Gz p gen (Yi sv)=0 then(if Fq p gen sv []then .t [.l (iL R) false,eI 0]else .t [.l [] true,eI 5])else .t [.l [] true,eI (Gz p gen (Yi sv))]
end Go.Gl
