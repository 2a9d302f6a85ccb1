import Derived.Test.YtinppljblkpedaaGreatU13
import Derived.Test.YtinppljblkpedaaGreatU14
import Derived.Test.YtinppljblkpedaaGreatU15
import Derived.Test.YtinppljblkpedaaGreatU20
import Derived.Test.YtinppljblkpedaaGreatU24
import Derived.Test.YtinppljblkpedaaGreatU25
import Derived.Test.YtinppljblkpedaaGreatU26
import Derived.Test.YtinppljblkpedaaGreatU29
set_option linter.all false
set_option linter.defProp false
set_option maxHeartbeats 8000000
noncomputable section
namespace Go.Gl
open Go.Proofs
attribute [local irreducible] As Ag AY AQ AL AX AP AR AK AW AM AN Ai Ap Sat AT An AZ W
def ry {a b:Nat} {A B:Prop} (e:a=b) (h:A):(a=b->A)/\(a≠b->B):=⟨fun _=>h,fun n=>absurd e n⟩
def tasN {a b:Nat} {A B:Prop} (e:a≠b) (h:B):(a=b->A)/\(a≠b->B):=⟨fun n=>absurd n e,fun _=>h⟩
def jm {P:Program} {Z:AE} {tab:List (TypeId×FuncId)} {t:TypeId} {f:FuncId} {v:V} {args:List V} {Q:R->AE->Prop} (h:look t tab=some f) (hc:As P f (v::args) Z Q):Ap P tab (.ME t v) args Z Q:=by
 unfold Ap;simp only[h];exact hc
def mK (p:Prog) (n size depth:Int):Pure zP 241 [.a (BF p),eI n,.a [eI size,eI depth]] (.f (.func 305) [] [.rp (BF p),.rp [eI n],.rp [eI size,eI depth]]):=by
 refine wI kZ ?_;have hs:=Sn;exact zW
def uJ (p:Prog) (next:Bool) {L:Nat} {E:Env} {ok:FuncId->Array Tmp->Code->Code->Nat->Prop} {v:V} {nO:Nat}
    (hY:No zP L E ok eaP (hOut nO v) (fun s=>s.length=p.nodes.length) (fun y s=>fX (Fg p next y.1 y.2.1 y.2.2 s)) (dP p)) (n size:Int) (s:List Int) (h0:0<=size) (h1:size<=20) (hl:s.length=p.nodes.length) (rest:List At) (Z:AE)
    (hs : Sat Z (.obj L (.loop .ready E ok)::(hOut nO v s++rest))) :
     As zP 305 [.f (.yield L) [] [],.rp (BF p),.rp [eI n],.rp [eI size,eI 1]] Z
      (mu L E ok (hOut nO v) (fun s=>s.length=p.nodes.length) rest (.t []) (.t []) (fX (CM p next 12 n size s))):=by
 refine vJ kZ ?_
 conv=>whnf
 repeat'((first|clear U K|apply st|(apply zk;intro K U)|refine zY ?_|refine zs fun Z hs=>?_|refine zo fun nn hnn Z hs=>?_|fail)<;>conv=>whnf)
 have hp:Sat Z (.obj L (.loop .ready E ok)::(hOut nO v s++(.box nn [YF p L nn]::rest))):=hs.perm (by
  refine(List.Perm.swap _ _ _).trans (.cons _ ?_)
  exact(List.perm_middle (l₁:=hOut nO v s)).symm)
 refine A0 ((nZ p next hY 12 (Ft _) n size 1 s rfl h0 (by omega) hl nn rest Z hp).mono ?_);cases hw:CM p next 12 n size s with
 | none=>
   rintro r Z' ⟨rfl,s',hj,hs'⟩
   conv=>whnf
   repeat'((first|clear U K|apply st|fail)<;>conv=>whnf)
   refine DX ?_;rw[hw];exact⟨rfl,s',hj,hs'.less (List.Sublist.append_left (Gg _ _) _)⟩
 | some s2=>
   rintro r Z' ⟨rfl,hs'⟩
   conv=>whnf
   repeat'((first|clear U K|apply st|fail)<;>conv=>whnf)
   refine AJ ?_;rw[hw];exact⟨rfl,hs'.less (.cons₂ _ (List.Sublist.append_left (Gg _ _) _))⟩
def Xa (p:Prog) (x:Node):(x.op=5/\SP x.op= .ME 354 (.a []))\/(x.op≠5/\ ∃m:Int,SP x.op= .ME 353 (eI m)/\Jt p x=m)\/(SP x.op= .K7/\Jt p x= -1):=by
 unfold SP Jt;by_cases h5:x.op=5
 .exact .inl ⟨h5,by rw[if_pos h5]⟩
 .rw[if_neg h5]
  split
  .exact .inr (.inl ⟨h5,_,rfl,rfl⟩)
  split
  .exact .inr (.inl ⟨h5,_,rfl,rfl⟩)
  split
  .exact .inr (.inl ⟨h5,_,rfl,rfl⟩)
  split
  .exact .inr (.inl ⟨h5,_,rfl,rfl⟩)
  .exact .inr (.inr ⟨rfl,by rw[if_neg (by rintro⟨h,_⟩;exact h5 h)]⟩)
def Uj {p:Prog} {x:Node} (h:x.op=5) {size:Int} (hn:NX p x size=true):0<=x.n/\x.n<p.Ce.length/\Jt p x=p.Ce.getD x.n.toNat 0:=by
 have h2:0<=x.n/\x.n<p.Ce.length:=by
  simp only[NX,h]at hn;simpa using hn
 refine⟨h2.1,h2.2,?_⟩;unfold Jt;rw[h,if_neg (by decide),if_neg (by decide),if_neg (by decide),if_neg (by decide),if_pos ⟨rfl,h2.1,h2.2⟩]
def jz {p:Prog} {next:Bool} {n size depth:Int} {s:List Int} (h:n<0\/(p.nodes.length:Int)<=n\/0<=s.getD n.toNat 0\/12<depth):Fg p next n size depth s=none:=by
 unfold Fg;rw[if_pos h]
def j0 {p:Prog} {next:Bool} {n size depth:Int} {s:List Int} {y:Int} {x:Node} (h0:0<=n) (h1:n<(p.nodes.length:Int)) (hy:s[n.toNat]? =some y) (hy0:y<0) (hd:depth<=12) (hx:p.nodes[n.toNat]? =some x):Fg p next n size depth s=if EP p next size x then some (s.set n.toNat size)else none:=by
 have e:s.getD n.toNat 0=y:=by rw[Cq,hy];rfl
 unfold Fg;rw[if_neg (by rw[e];omega),hx]
def AAy (p:Prog) (nO:Nat) (v:V) (rest:List At) (o:Option (List Int)) (r:R) (Z:AE):Prop:=
 match o with
 | some s=>r= .ret (.t [])/\Sat Z (hOut nO v s++rest)
 | none=>r= .C3 D2/\ ∃s:List Int,s.length=p.nodes.length/\Sat Z (hOut nO v s++rest)
def Up (p:Prog) (next:Bool) {v:V} {nO:Nat} (hv:(Bi v).isSome=true) (n size:Int) (s:List Int) (h0:0<=size) (h1:size<=20) (hl:s.length=p.nodes.length) (rest:List At) (Z:AE) (hs:Sat Z (hOut nO v s++rest)) :
    As zP 240 [eI n,eI size,.b next,.rp (BF p),.p nO 0] Z (AAy p nO v rest (CM p next 12 n size s)):=by
 refine As.fit (by kernel_rfl) fun hf=>?_
 have hM:=Mx
 have hfp:Fc (.a (BF p)):=by
  have:=hf.2.2.2.1;simp only[Un]at this;simpa only[J0]using this
 have⟨p1,p2,p3,p4⟩:=Gq hfp;refine wJ kZ ?_
 conv=>whnf
 repeat'((first|clear U K|apply st|(apply zk;intro K U)|refine zY ?_|refine Pure.use (mK _ _ _ _) ?_|refine zo fun nn hnn Z hs=>?_|fail)<;>conv=>whnf)
 refine As.mono (uJ p next (L:=nn) (v:=v) (nO:=nO) ?_ n size s h0 h1 hl rest Z hs) ?_
 .refine Oc (fun y=>rfl) ?_
  clear hs hnn hl h0 h1;rintro⟨k,sz,dp⟩ s ⟨d0,d1,d2,d3,hl⟩ rest Z hs;dsimp only at d0 d1 d2 d3 hl;dsimp only;rw[show eaP (k,sz,dp)= [eI k,.a [eI sz,eI dp]] from rfl]
  conv=>whnf
  repeat'((first|apply st|(apply sq;intro K U)|(apply si;intro A B hA hB)|(refine hA _ _ ?_;clear hB B hA A)|(refine hB _ _ _ ?_;clear hB B hA A)|(refine hB _ _ fun Z hsub=>?_;clear hB B hA A)|(apply U;clear U K)|apply dr|refine rk ?_ ?_|exact fun s e=>by cases e;rfl|refine⟨rfl,?_⟩|refine⟨kZ,?_⟩|refine iq fun x hx=>?_|refine ld ?_|refine FX fun Z hs=>?_|refine oi ?_|refine ol fun x hx=>?_|refine oset fun Z hs=>?_|refine Zg ?_|refine SG ?_|(refine Cr (fun hc=>?_) (fun hc=>?_)<;>(replace hc:=bp hc)<;>(try simp(disch:=omega) only[Bc,wrap64,AS]at hc)<;>(try(cases hc;done)))|refine Pure.use (dZ _ _ _) ?_|refine Pure.use (dj _) ?_|(rcases Xa p (by assumption)with⟨e5,ek⟩|⟨e5,m,ek,hm⟩|⟨ek,hm⟩<;>rw[ek]<;>clear ek)|refine ry rfl ?_|refine tasN (by decide) ?_|refine jm rfl (Pure.use (zB _ _ _) ?_)|refine jm rfl (Pure.use (qM _ _ (Uj (by assumption) (by assumption)).1 (Uj (by assumption) (by assumption)).2.1) ?_)|(constructor<;>intro hc<;>(try rw[hc])<;>(replace hc:=bp hc)<;>(try simp(disch:=omega) only[Bc,wrap64,AS]at hc))|(intro nn hnn;generalize hg:BZ _ nn _=Z;refine GF hg fun hs=>?_;clear hg)|clear U K)<;>conv=>whnf)
  all_goals first
   | (intro hn;refine Sm (s:=s) (by rw[jz (by first|omega|(rw[Cq,‹s[k.toNat]? =some _›];simp only[Option.getD_some];omega))];rfl) hl (hs.less (by repeat first|exact List.Sublist.refl _|apply List.Sublist.cons)) hn)
   | skip
  all_goals
   have hva:=j0 (next:=next) (size:=sz) (depth:=dp) (show 0<=k by omega) (show k<(p.nodes.length:Int) by omega) ‹s[k.toNat]? =some _› (by assumption) (by omega) ‹p.nodes[k.toNat]? =some _›
   rename Node=>x
   have hk5:x.op=5->NX p x sz=true->Jt p x=p.Ce.getD x.n.toNat 0:=fun h hn=>(Uj h hn).2.2
   intro hn
  all_goals first
   | (rw[if_neg (by first|(intro h;rw[EP,hk5 (by assumption) (by assumption)]at h;simp only[A4,CF]at h;exact absurd h.1 (by assumption))|(simp[EP, *];done)|(simp[EP, *];omega)|(rw[EP,hk5 (by assumption) (by assumption)];simp[*];done)|(simp[EP, *];intros;omega))]at hva
      refine Sm (s:=s.set k.toNat sz) (by rw[hva];rfl) (by simpa using hl) ?_ hn
      first
       | exact hs.less (by repeat first|exact List.Sublist.refl _|apply List.Sublist.cons)
       | exact(hs.less (by repeat first|exact List.Sublist.refl _|apply List.Sublist.cons)).up (by assumption))
   | (rw[if_pos (by first|(simp[EP, *];done)|(rw[EP,hk5 (by assumption) (by assumption)];simp[*];done))]at hva
      exact WI (s:=s.set k.toNat sz) (by rw[hva];rfl) (hs.less (by repeat first|exact List.Sublist.refl _|apply List.Sublist.cons)) hn)
 .cases hw:CM p next 12 n size s with
  | none=>
    rintro r Z' ⟨rfl,s',hj,hs'⟩
    conv=>whnf
    exact DX ⟨rfl,s',hj,hs'⟩
  | some s2=>
    rintro r Z' ⟨rfl,hs'⟩;refine Gy hs' fun Z2 hs2=>?_
    conv=>whnf
    exact AJ ⟨rfl,hs2⟩
def jK (w:AF) (hw:BR w) {kf:Int->List Int->Kn} (hr:DC w kf) (a:Int): ∀(d:Nat) (p:List Int),p.length+d=2-> ∀(L:Nat) (es:List Bv),Bj kf es->
    BL zP 211 [HF w (Ah w.parents) L,B2 a p] (BM L es) fun r post=>r= .ret (.b (EZ w kf a d p))/\OO kf L es post:=by
 intro d
 induction d with
 | zero=>
   intro p hp L es h Z hs;have hint:=Lx w (Ah w.parents) hr h (L:=L) (a:=a) (p:=p) (by omega);have hnone:=fun es h=>Ua w (Ah w.parents) hr (es:=es) h (L:=L) (a:=a) (p:=p) (by omega)
   have hobj:=fun es h=>Ny w hw hr (a:=a) (p:=p) (by omega) (fun _=>false) (by rw[hr.short a p (by omega)];intro s hs;cases hs) (L:=L) (es:=es) h
   rw[EZ];cases hI:Dq kf a p<;>cases hN:CR kf a p<;>rw[hI]at hint<;>rw[hN]at hnone
   all_goals
    refine iu kZ ?_
    conv=>whnf
    repeat'((first|apply st|(apply sq;intro K U)|(apply si;intro A B hA hB)|(refine hA _ _ ?_;clear hB B hA A)|(apply U;clear U K)|refine⟨kZ,?_⟩|fail)<;>conv=>whnf)
    refine hint.use (rest:=[]) (by simpa using hs) ?_;clear hs;rintro r post Z ⟨rfl,es2,hx2,hi2,rfl⟩ hs;rw[D8]at hs
    conv=>whnf
    repeat'((first|apply st|(apply sq;intro K U)|(apply si;intro A B hA hB)|(refine hA _ _ ?_;clear hB B hA A)|(apply U;clear U K)|refine⟨kZ,?_⟩|clear U K)<;>conv=>whnf)
   rotate_left 2
   .exact AJ ⟨_,⟨rfl,es2,hx2,hi2,rfl⟩,hs⟩
   .exact AJ ⟨_,⟨rfl,es2,hx2,hi2,rfl⟩,hs⟩
   all_goals
    refine(hnone es2 hi2).use (rest:=[]) (by simpa using hs) ?_;clear hs;rintro r post Z ⟨rfl,es3,hx3,hi3,rfl⟩ hs;rw[D8]at hs
    conv=>whnf
    repeat'((first|apply st|(apply sq;intro K U)|(apply si;intro A B hA hB)|(refine hA _ _ ?_;clear hB B hA A)|(apply U;clear U K)|refine⟨kZ,?_⟩|refine Zg ?_|refine SG ?_|clear U K)<;>conv=>whnf)
   rotate_left 1
   .exact AJ ⟨_,⟨rfl,es3,hx2.trans hx3,hi3,rfl⟩,hs⟩
   .refine(hobj es3 hi3).use (rest:=[]) (by simpa using hs) ?_
    clear hs;rintro r post Z ⟨rfl,es4,hx4,hi4,rfl⟩ hs;rw[D8]at hs
    conv=>whnf
    repeat'((first|apply st|(apply sq;intro K U)|(apply si;intro A B hA hB)|(refine hA _ _ ?_;clear hB B hA A)|(apply U;clear U K)|fail)<;>conv=>whnf)
    exact AJ ⟨_,⟨rfl,es4,(hx2.trans hx3).trans hx4,hi4,rfl⟩,hs⟩
 | succ d ih=>
   intro p hp L es h Z hs;have hint:=Lx w (Ah w.parents) hr h (L:=L) (a:=a) (p:=p) (by omega);have hnone:=fun es h=>Ua w (Ah w.parents) hr (es:=es) h (L:=L) (a:=a) (p:=p) (by omega)
   have hobj:=fun es h=>Ny w hw hr (a:=a) (p:=p) (by omega) (fun s=>EZ w kf a d (p++[s])) (fun s hs L es h=>ih (p++[s]) (by simp;omega) L es h) (L:=L) (es:=es) h
   rw[EZ];cases hI:Dq kf a p<;>cases hN:CR kf a p<;>rw[hI]at hint<;>rw[hN]at hnone
   all_goals
    refine iu kZ ?_
    conv=>whnf
    repeat'((first|apply st|(apply sq;intro K U)|(apply si;intro A B hA hB)|(refine hA _ _ ?_;clear hB B hA A)|(apply U;clear U K)|refine⟨kZ,?_⟩|fail)<;>conv=>whnf)
    refine hint.use (rest:=[]) (by simpa using hs) ?_;clear hs;rintro r post Z ⟨rfl,es2,hx2,hi2,rfl⟩ hs;rw[D8]at hs
    conv=>whnf
    repeat'((first|apply st|(apply sq;intro K U)|(apply si;intro A B hA hB)|(refine hA _ _ ?_;clear hB B hA A)|(apply U;clear U K)|refine⟨kZ,?_⟩|clear U K)<;>conv=>whnf)
   rotate_left 2
   .exact AJ ⟨_,⟨rfl,es2,hx2,hi2,rfl⟩,hs⟩
   .exact AJ ⟨_,⟨rfl,es2,hx2,hi2,rfl⟩,hs⟩
   all_goals
    refine(hnone es2 hi2).use (rest:=[]) (by simpa using hs) ?_;clear hs;rintro r post Z ⟨rfl,es3,hx3,hi3,rfl⟩ hs;rw[D8]at hs
    conv=>whnf
    repeat'((first|apply st|(apply sq;intro K U)|(apply si;intro A B hA hB)|(refine hA _ _ ?_;clear hB B hA A)|(apply U;clear U K)|refine⟨kZ,?_⟩|refine Zg ?_|refine SG ?_|clear U K)<;>conv=>whnf)
   rotate_left 1
   .exact AJ ⟨_,⟨rfl,es3,hx2.trans hx3,hi3,rfl⟩,hs⟩
   .refine(hobj es3 hi3).use (rest:=[]) (by simpa using hs) ?_
    clear hs;rintro r post Z ⟨rfl,es4,hx4,hi4,rfl⟩ hs;rw[D8]at hs
    conv=>whnf
    repeat'((first|apply st|(apply sq;intro K U)|(apply si;intro A B hA hB)|(refine hA _ _ ?_;clear hB B hA A)|(apply U;clear U K)|fail)<;>conv=>whnf)
    exact AJ ⟨_,⟨rfl,es4,(hx2.trans hx3).trans hx4,hi4,rfl⟩,hs⟩
abbrev rL:V:= .ME 212 (.a [])
def jx (w:AF) (hw:BR w) {kf:Int->List Int->Kn} (hr:DC w kf) {L:Nat} {es:List Bv} (h:Bj kf es) :
    BL zP 129 [HF w (Ah w.parents) L] (BM L es) fun r post=>r=(if Ow w kf then .ret (.t [])else .C3 rL)/\post= []:=by
 intro Z hs;refine xb kZ ?_
 conv=>whnf
 repeat'((first|apply st|(apply sq;intro K U)|(apply si;intro A B hA hB)|(refine hA _ _ ?_;clear hB B hA A)|(apply U;clear U K)|fail)<;>conv=>whnf)
 refine B4 3 (fun k (x:List Bv)=>[(3,eI (A7 k))]) (fun k x=>BM L x) (fun k x=>Bj kf x/\Ow w kf=((Aw 3).drop k).all fun a=>EZ w kf a 2 []) es rfl ⟨h,rfl⟩ hs ?_;clear hs h;rintro k es Z hk ⟨h,hn⟩ hs;have hck:A7 k=k:=AS (by simp only[Ab];omega);have hl3:(Aw 3).length=3:=rfl;rcases A9 (Aw 3) hk with⟨a,ha,hlt⟩|hke
 .rw[drop_cons ha,Ri]at hn
  have hak:a=A7 k:=by
   rw[hck];simp only[Aw,LY,List.getElem?_range (show k<3 from hlt),b9]at ha;exact(Option.some.inj ha).symm
  subst hak;have hcan:=jK w hw hr (A7 k) 2 [] rfl L es h;cases hC:EZ w kf (A7 k) 2 []<;>rw[hC]at hcan hn
  all_goals
   conv=>whnf
   repeat'((first|apply st|(apply sq;intro K U)|(apply si;intro A B hA hB)|(refine hA _ _ ?_;clear hB B hA A)|(apply U;clear U K)|refine⟨rfl,?_⟩|(constructor<;>intro hc<;>(try rw[hc])<;>(replace hc:=bp hc)<;>(try simp(disch:=omega) only[Bc,wrap64,AS]at hc)<;>try(exfalso;omega))|fail)<;>conv=>whnf)
   refine hcan.use (rest:=[]) (by simpa using hs) ?_;clear hs;rintro r post Z ⟨rfl,es2,hx2,hi2,rfl⟩ hs;rw[D8]at hs
   conv=>whnf
   repeat'((first|apply st|(apply si;intro A B hA hB)|(refine hA _ _ ?_;clear hB B hA A)|(refine hB _ _ _ ?_;clear hB B hA A)|(apply U;clear U K)|refine⟨rfl,?_⟩|refine Zg ?_|refine SG ?_|clear U K)<;>conv=>whnf)
  .exact DX ⟨_,⟨by rw[hn];rfl,rfl⟩,hs.less (Oq _)⟩
  .exact⟨by omega,es2,rfl,⟨hi2,by simpa using hn⟩,hs⟩
 .rw[Aj hke]at hn
  conv=>whnf
  repeat'((first|apply st|(apply sq;intro K U)|(apply si;intro A B hA hB)|(refine hA _ _ ?_;clear hB B hA A)|(apply U;clear U K)|refine⟨rfl,?_⟩|(constructor<;>intro hc<;>(try rw[hc])<;>(replace hc:=bp hc)<;>(try simp(disch:=omega) only[Bc,wrap64,AS]at hc)<;>try(exfalso;omega))|clear U K)<;>conv=>whnf)
  exact AJ ⟨_,⟨by rw[hn];rfl,rfl⟩,hs.less (Oq _)⟩
def Ko {w:AF} {ls:List Fact} (hw:w.parents.length<=60) (h: ∀x∈ls,DS w x):Nn ls:=by
 intro l hl;obtain⟨-,hc,hsm,hsh⟩:=Mv h;obtain⟨-,hn,hlf⟩:=IN (h l hl);exact⟨Fw hlf,hsh l hl,fun ho=>by have:=hc l hl ho;omega,hsm l hl⟩
def tx {ls:List Fact} (h:YL ls) (a:Int) (p:List Int): -1000000000<=(kn ls a p).low/\(kn ls a p).low<=1000000000:=by
 have key: ∀(ls:List Fact) (k:Kn),YL ls->(-1000000000<=k.low/\k.low<=1000000000)-> -1000000000<=(ls.foldl (C7 a p) k).low/\(ls.foldl (C7 a p) k).low<=1000000000:=by
  intro ls
  induction ls with
  | nil=>intro k _ h;exact h
  | cons l r ih=>
    intro k hs hk;refine ih _ (fun x hx=>hs x (.tail _ hx)) ?_;have hn:=hs l (.head _);unfold C7 Bx Bz fO
    repeat' split
    all_goals first
     | exact hk
     | exact hn
     | (simp only;exact hk)
     | (simp only;exact hn)
 exact key ls k0 h ⟨by decide,by decide⟩
def aO {w:AF} {ls:List Fact} (h: ∀x∈ls,DS w x):Gs w.owner.length ls:=by
 intro l hl s hs;obtain⟨-,hn,-⟩:=IN (h l hl);rw[BS,A4]at hn;have:=hn.1;simp only[CE,EH,A4,Cu,IA,B7]at this;exact this.2.2.2.2.1.1 s hs
def US {w:AF} (hw:BR w) {ls:List Fact} (h: ∀x∈ls,DS w x) (hlen:ls.length<900):DC w (kn ls):=by
 have hadd:=Ko (by have:=hw.1.1;omega) h;obtain⟨-,-,hsm,hsh⟩:=Mv h;have hp:=aO h;refine⟨fun a p=>?_,tx hsm,fun a p hpl=>?_,fun a p s hs=>?_⟩
 .obtain⟨h1,h2,h3,h4⟩:=iG hadd a p
  exact⟨h1,h2,by omega,by omega⟩
 .rw[FJ hp]
  exact IW hsh hpl
 .rw[FJ hp]at hs
  exact IY hs
def YJ {w:AF} (hw:BR w) {ls:List Fact} (h: ∀x∈ls,DS w x):Ow w (kn ls)=EN w ls:=by
 obtain⟨-,hc,-,-⟩:=Mv h;refine sd ?_ (fun s h0 h1=>?_) (by have:=hw.1.1;omega) (fun l hl ho=>by have:=hc l hl ho;omega) (aO h)
 .exact dx hw.1
 .obtain⟨o,ho⟩: ∃o,w.owner[s.toNat]? =some o:=⟨_,Cd (by omega)⟩
  have hoI:BG w s=o:=by simp only[BG,Cq,ho];rfl
  rw[hoI];exact hw.2.2 o (B6 ho)
def pt {Z:AE} {n:Nat} {x:V} {rest:List At} (hs:Sat Z (.box n [x]::rest)) {Q:AE->Prop} (hq: ∀Z',Sat Z' (.box n [.b false]::rest)->Q Z'):O3 zP 128 [.p n 0] (some rL) Z Q:=by
 refine bZ kZ ?_
 conv=>whnf
 repeat'((first|apply st|(apply sq;intro K U)|(apply si;intro A B hA hB)|(refine hA _ _ ?_;clear hB B hA A)|(apply U;clear U K)|refine MA fun Z hs=>?_|refine FX fun Z hs=>?_|refine ry rfl ?_|(intro nn hnn;generalize hg:BZ _ nn _=Z;refine GF hg fun hs=>?_;clear hg)|fail)<;>conv=>whnf)
 exact hq _ (hs.less (Gg _ _))
def pv {Z:AE} {n:Nat} {x:V} {rest:List At} (hs:Sat Z (.box n [x]::rest)) {Q:AE->Prop} (hq: ∀Z',Sat Z' (.box n [x]::rest)->Q Z'):O3 zP 128 [.p n 0] none Z Q:=by
 refine bZ kZ ?_
 conv=>whnf
 repeat'((first|apply st|(apply sq;intro K U)|(apply si;intro A B hA hB)|(refine hA _ _ ?_;clear hB B hA A)|(apply U;clear U K)|refine⟨rfl,?_⟩|refine FX fun Z hs=>?_|(intro nn hnn;generalize hg:BZ _ nn _=Z;refine GF hg fun hs=>?_;clear hg)|fail)<;>conv=>whnf)
 exact hq _ (hs.less (Gg _ _))
attribute [local irreducible] O3
def OY (w:AF) (hw:BR w) (ls:List Fact) (b:Bool) (hl: ∀x∈ls,DS w x) (hlen:ls.length<900):Pure zP 63 [.rp (wC w (Ah w.parents)),.l (Dt ls) b] (.b (EN w ls)):=by
 refine Pure.of ?_;refine AAU kZ ?_;have hs:=Sn
 conv=>whnf
 repeat'((first|(apply sq;intro K U)|(apply si;intro A B hA hB)|(refine hA _ _ ?_;clear hB B hA A)|(apply U;clear U K)|(intro nn hnn;generalize hg:BZ _ nn _=Z;refine GF hg fun hs=>?_;clear hg)|fail)<;>conv=>whnf)
 refine(V6 w (Ah w.parents) ls b (Ko (by have:=hw.1.1;omega) hl) hlen).use (rest:=[.box nn [.b false]]) (by simpa using hs) ?_;clear hs;rintro r post Z ⟨L,es,rfl,hinv,rfl⟩ hs;have hwh:=jx w hw (US hw hl hlen) hinv (L:=L);rw[YJ hw hl]at hwh;cases ht:EN w ls<;>rw[ht]at hwh
 all_goals
  conv=>whnf
  refine hwh.use (rest:=[.box nn [.b false]]) hs ?_;clear hs;rintro r post Z ⟨rfl,rfl⟩ hs
  conv=>whnf
  repeat'((first|apply st|(apply sq;intro K U)|(apply si;intro A B hA hB)|(refine hA _ _ ?_;clear hB B hA A)|(refine hB _ _ _ ?_;clear hB B hA A)|(apply U;clear U K)|refine MA fun Z hs=>?_|clear U K)<;>conv=>whnf)
 .refine pt (rest:=[]) hs fun Z hs=>?_
  conv=>whnf
  repeat'((first|refine ld ?_|fail)<;>conv=>whnf)
  exact AJ (by rw[ht];rfl)
 .refine pv (rest:=[]) (x:= .b true) hs fun Z hs=>?_
  conv=>whnf
  repeat'((first|refine ld ?_|fail)<;>conv=>whnf)
  exact AJ (by rw[ht];rfl)
end Go.Gl
namespace Go.Gl
open Go.Proofs
def Pa (c:Int):Fact:=Fact.mk 2 0 [] c 0 []
def ri (k:Int) (f:Fact) (n:Int):MJ:=⟨k,0,f,n⟩
def K4:Prog:=⟨[⟨[],[],[]⟩,⟨[3],[],[]⟩,⟨[3],[],[]⟩],0,[1],[ri 1 (Pa 3) 0,ri 1 (Pa 4) 1,ri 1 (Pa 5) 2],[⟨2,0,[]⟩,⟨2,0,[]⟩,⟨2,0,[]⟩,⟨2,0,[]⟩],3⟩
def orF (f g:Fact):Fact:= .mk 7 0 [] 0 0 [f,g]
def exH:Prog:=⟨[⟨[],[],[]⟩,⟨[3],[],[]⟩,⟨[3],[],[]⟩],0,[1],[ri 1 (Pa 3) 0,ri 1 (Pa 4) 1,ri 1 (Pa 5) 2,ri 4 (orF (Pa 4) (Pa 5)) 3],[⟨2,0,[]⟩,⟨2,0,[]⟩,⟨2,0,[]⟩,⟨2,0,[]⟩,⟨2,0,[]⟩],4⟩
def NK {b sz:Nat} {Z:AE} {v y:V} {K:V->AE->Prop} (hv:(Bi v).isSome=true) (h:AL b Z sz v y fun v' Z'=>(Bi v').isSome=true->K v' Z'):AL b Z sz v y K:=by
 obtain⟨n,l,c,rfl⟩:=VZ hv;unfold AL at h ⊢;refine Ez h fun ys h=>⟨h.1,?_⟩
 have h2:=h.2;dsimp only at h2 ⊢;cases hn:Z n with
 | none=>rw[hn]at h2;exact h2
 | some o=>
   rw[hn]at h2;cases o with
   | arr s es c'=>exact⟨h2.1,h2.2.1,h2.2.2.1,h2.2.2.2.1,fun n' cap' h3 h4=>h2.2.2.2.2 n' cap' h3 h4 rfl⟩
   | _=>exact h2
def tJ {Z:AE} {l:List At} (h:Sat Z l) {i:Nat} {v:V} {sz:Nat} {es:List (List V)} (hi:l[i]? =some (.own v sz es)) (hv:(Bi v).isSome=true): ∃n cp,v= .sl n es.length cp:=by
 rcases h.get hi with⟨e,_⟩|⟨n,cp,e,_⟩
 .rw[e]at hv;cases hv
 .exact⟨n,cp,e⟩
attribute [local irreducible] As Ag AY AQ AL AX AP AR AK AW AM AN Ai Ap Sat AT An AZ W
def Oz (x:Int) (out:List Int):List Int:=out.takeWhile (fun y=>decide (y<x))++x::out.dropWhile (fun y=>decide (y<x))
def LF (l:List Int):List Int:=l.foldl (fun out x=>Oz x out) []
end Go.Gl
namespace Go.Gl
open Go.Proofs
attribute [local irreducible] As Ag AY AQ AL AX AP AR AK AW AM AN Ai Ap Sat AT An AZ W
def yq (c:Int):Pure zP 47 [eI c] (.a [eI 2,eI 0,.l [] true,eI c,eI 0,.l [] true]):=by
 refine rH kZ ?_;have hs:=Sn
 conv=>whnf
 repeat'((first|apply st|(apply sq;intro K U)|(apply si;intro A B hA hB)|(refine hA _ _ ?_;clear hB B hA A)|(apply U;clear U K)|refine⟨kZ,?_⟩|refine ld ?_|refine FX fun Z hs=>?_|(intro nn hnn;generalize hg:BZ _ nn _=Z;refine GF hg fun hs=>?_;clear hg)|fail)<;>conv=>whnf)
 all_goals exact AG rfl
def q8 (c:Int):Pure zP 47 [eI c] (.a (xF (Pa c))):=by
 refine rH kZ ?_;have hs:=Sn
 conv=>whnf
 repeat'((first|apply st|(apply sq;intro K U)|(apply si;intro A B hA hB)|(refine hA _ _ ?_;clear hB B hA A)|(apply U;clear U K)|refine⟨kZ,?_⟩|refine ld ?_|refine FX fun Z hs=>?_|(intro nn hnn;generalize hg:BZ _ nn _=Z;refine GF hg fun hs=>?_;clear hg)|fail)<;>conv=>whnf)
 all_goals exact Af (.a (.cons (.refl _) (.cons (.refl _) (.cons Bm (.cons (.refl _) (.cons (.refl _) (.cons Bm .nil)))))))
def zN (f g:Fact):Pure zP 109 [.a (xF f),.a (xF g)] (.a (xF (orF f g))):=by
 refine xy kZ ?_;have hs:=Sn
 conv=>whnf
 repeat'((first|apply st|(apply sq;intro K U)|(apply si;intro A B hA hB)|(refine hA _ _ ?_;clear hB B hA A)|(apply U;clear U K)|refine⟨kZ,?_⟩|refine ld ?_|refine FX fun Z hs=>?_|(intro nn hnn;generalize hg:BZ _ nn _=Z;refine GF hg fun hs=>?_;clear hg)|fail)<;>conv=>whnf)
 refine Af (.a (.cons (.refl _) (.cons (.refl _) (.cons Bm (.cons (.refl _) (.cons (.refl _) (.cons ?_ .nil)))))));refine .l (fun h=>by cases h) ?_;simp only[orF,Fact.kids,List.map,BC];exact C2 _
def Pf (j:Nat):List V:=[eI 1,eI 0,eI 2,eI 0,.l [] true,eI (IntKind.i64.wrap (3+A7 j)),eI 0,.l [] true,eI 0]
def m6 (j:Nat) (n:Int):List V:=[eI 1,eI 0,eI 2,eI 0,.l [] true,eI (IntKind.i64.wrap (3+A7 j)),eI 0,.l [] true,eI n]
def nR (b:Bool) (_:Nat):List V:=[eI 2,eI 0,.l [] b]
def N3:Dj Pf 9:=fun x=>by
 refine⟨rfl,fun v hv=>?_⟩;simp only[Pf,Ep,List.not_mem_nil,or_false]at hv;rcases hv with rfl|rfl|rfl|rfl|rfl|rfl|rfl|rfl|rfl<;>rfl
def GS:Dj (nR true) 3:=fun x=>⟨rfl,fun v hv=>by
 simp only[nR,Ep,List.not_mem_nil,or_false]at hv
 rcases hv with rfl|rfl|rfl<;>rfl⟩
abbrev Pp:V:= .l [[.l [] true,.l [] true,.l [] true],[.l [[eI 3]] true,.l [] true,.l [] true],[.l [[eI 3]] true,.l [] true,.l [] true]] true
abbrev SH:List V:=[.l [] true,eI 0,.l [] true,.l [] true,.l [] true,eI 0]
def F8 {Z:AE} {l:List At} (h:Sat Z l) (i:Nat) {n len cap sz k off:Nat} {es:List (List V)} {e:List V} {x:V} (hi:l[i]? =some (.own (.sl n len cap) sz es)) (he:es[k]? =some e) (h1:Dg x=true) (ho:off+1<=sz) {K:AE->Prop}
    (hk: ∀Z',Sat Z' (l.set i (.own (.sl n len cap) sz (es.set k (e.set off x))))->K Z'):AR Z 1 (.pe n sz k off) x K:=by
 rcases h.get hi with⟨h0,_⟩|⟨m,cap',h0,hn⟩
 .cases h0
 .cases h0
  unfold AR;rw[TJ h1];refine⟨rfl,by simp[h1],?_⟩;simp only[hn,he];refine⟨trivial,ho,hk _ ?_⟩;refine h.change hi (fun b hb ha=>E8 hb fun m hm=>?_) (fun b hb ha m hm=>ha m hm) (.inr ⟨n,cap,by simp,by simp[BZ,putAt]⟩);rw[Ci];intro e;subst e;exact ha m rfl hm
def fw (k:Nat):List (List V):=[m6 0 0,m6 1 (if 1<k then 1 else 0),m6 2 (if 2<k then 2 else 0)]
def cI (n:Int):List V:=[eI 4,eI 0,eI 7,eI 0,.l [] false,eI 0,eI 0,.l (facts [Pa 4,Pa 5]) false,eI n]
def qj (k:Nat):List (List V):=fw k++[cI (if 3<k then 3 else 0)]
def du:Dj cI 9:=fun x=>by
 refine⟨rfl,fun v hv=>?_⟩;simp only[cI,Ep,List.not_mem_nil,or_false]at hv;rcases hv with rfl|rfl|rfl|rfl|rfl|rfl|rfl|rfl|rfl<;>rfl
def X6 (j:Nat) (n:Int):List V:=[eI 1,eI 0,eI 2,eI 0,.l [] false,eI (IntKind.i64.wrap (3+A7 j)),eI 0,.l [] false,eI n]
def IL {Z:AE} (j:Nat) (n:Int):Ct Z emp (m6 j n) (X6 j n):= .cons (.refl _) (.cons (.refl _) (.cons (.refl _) (.cons (.refl _) (.cons Bm (.cons (.refl _) (.cons (.refl _) (.cons Bm (.cons (.refl _) .nil))))))))
def iA {Z:AE} (k:Nat):Ct Z emp (nR true k) (nR false k):= .cons (.refl _) (.cons (.refl _) (.cons Bm .nil))
def Wz {Z:AE}:FY Z emp Pp (.l (K4.AO.map MG) false):=
 .l (fun h=>by cases h) (.cons (.cons Bm (.cons Bm (.cons Bm .nil))) (.cons (.cons OQ (.cons Bm (.cons Bm .nil))) (.cons (.cons OQ (.cons Bm (.cons Bm .nil))) .nil)))
def oI:Pure zP 37 [.l [] true] (.a (BF K4)):=by
 refine Pure.of ?_;have hM:=Mx;refine rI kZ ?_;have hs:=Sn
 conv=>whnf
 repeat'((first|apply st|(apply sq;intro K U)|(apply si;intro A B hA hB)|(refine hA _ _ ?_;clear hB B hA A)|(apply U;clear U K)|refine FX fun Z hs=>?_|(intro nn hnn;generalize hg:BZ _ nn _=Z;refine GF hg fun hs=>?_;clear hg)|fail)<;>conv=>whnf)
 rename_i n0 _ _ _ _ _;generalize nn=n1 at *;refine B4 3 (fun k (_:V)=>[(4,eI (A7 k))]) (fun k x=>[.box n1 [Pp,eI 0,.l [[eI 1]] true,x,.l [] true,eI 0],.box n0 SH,.own x 9 ((List.range k).map Pf)]) (fun k x=>0<k->(Bi x).isSome=true) (.l [] true) rfl (fun h=>absurd h (Nat.lt_irrefl 0)) (EY hs 9) ?_;clear hs;rintro k v Z hk hv hs;have hck:A7 k=k:=AS (by omega);have hlr:(List.range k).length=k:=zrC;by_cases hlt:k<3
 .have e1:(List.range (k+1)).map Pf=(List.range k++[k]).map Pf:=by rw[List.range_succ]
  have hll:(List.range k).length<Ab/\((List.range k).length+1)*104<=140737488355328:=by omega
  generalize List.range k=ks at *
  conv=>whnf
  repeat'((first|apply st|(apply sq;intro K U)|(apply si;intro A B hA hB)|(refine hA _ _ ?_;clear hB B hA A)|(apply U;clear U K)|apply dr|refine rk ?_ ?_|exact fun s e=>by cases e;rfl|refine⟨rfl,?_⟩|refine ld ?_|refine MA fun Z hs=>?_|refine Pure.use (yq _) ?_|refine aq (enc:=Pf) (x:=k) (fun v Z hs hsl=>?_) (hg:=N3)|(constructor<;>intro hc<;>(try rw[hc])<;>(replace hc:=bp hc)<;>(try simp(disch:=omega) only[Bc,wrap64,AS]at hc)<;>try(exfalso;omega))|clear U K)<;>conv=>whnf)
  exact⟨hlt,_,rfl,fun _=>hsl,by rw[e1];exact hs⟩
 .obtain rfl:k=3:=by omega
  conv=>whnf
  repeat'((first|apply st|(apply sq;intro K U)|(apply si;intro A B hA hB)|(refine hA _ _ ?_;clear hB B hA A)|(apply U;clear U K)|refine⟨rfl,?_⟩|refine ld ?_|(constructor<;>intro hc<;>(try rw[hc])<;>(replace hc:=bp hc)<;>(try simp(disch:=omega) only[Bc,wrap64,AS]at hc)<;>try(exfalso;omega))|clear U K)<;>conv=>whnf)
  replace hv:=hv (by decide);refine NK hv (JI hs 2 (xs:=List.range 3) (ys:=[]) (enc:=Pf) rfl ⟨by decide,by decide⟩ N3 fun v Z hs hsl=>?_);clear hv hck hlr hlt hk
  conv=>whnf
  repeat'((first|apply st|(apply sq;intro K U)|(apply si;intro A B hA hB)|(refine hA _ _ ?_;clear hB B hA A)|(apply U;clear U K)|refine MA fun Z hs=>?_|fail)<;>conv=>whnf)
  obtain⟨n9,l9,c9,rfl⟩:=VZ hsl;replace hs:Sat Z [.box n1 [Pp,eI 0,.l [[eI 1]] true,.sl n9 l9 c9,.l [] true,eI 0],.box n0 SH,.own (.sl n9 l9 c9) 9 (fw 0)]:=hs;refine B4 3 (fun k (_:V)=>[(5,eI (A7 k))]) (fun k x=>[.box n1 [Pp,eI 0,.l [[eI 1]] true,.sl n9 l9 c9,x,eI 0],.box n0 SH,.own (.sl n9 l9 c9) 9 (fw k),.own x 3 ((List.range k).map (nR true))]) (fun _ _=>True) (.l [] true) rfl trivial (EY hs 3) ?_;clear hs;rintro k x Z hk - hs;rcases(show k=0\/k=1\/k=2\/k=3 by omega)with rfl|rfl|rfl|rfl
  .conv=>whnf
   repeat'((first|apply st|(apply sq;intro K U)|(apply si;intro A B hA hB)|(refine hA _ _ ?_;clear hB B hA A)|(apply U;clear U K)|refine⟨rfl,?_⟩|refine⟨kZ,?_⟩|refine ld ?_|refine MA fun Z hs=>?_|refine oc ?_|refine NZ hs 2 rfl (by decide) ?_|refine F8 hs 2 rfl rfl rfl (by decide) fun Z hs=>?_|refine aq (enc:=nR true) (xs:=List.range 0) (x:=0) (fun v Z hs hsl=>?_) (hl:=by decide) (hg:=GS)|(constructor<;>intro hc<;>(try rw[hc])<;>(replace hc:=bp hc)<;>(try simp(disch:=omega) only[Bc,wrap64,AS]at hc))|clear U K)<;>conv=>whnf)
   all_goals first
    | exact⟨_,rfl,trivial,hs⟩
    | (exfalso;revert hc;decide)
  .conv=>whnf
   repeat'((first|apply st|(apply sq;intro K U)|(apply si;intro A B hA hB)|(refine hA _ _ ?_;clear hB B hA A)|(apply U;clear U K)|refine⟨rfl,?_⟩|refine⟨kZ,?_⟩|refine ld ?_|refine MA fun Z hs=>?_|refine oc ?_|refine NZ hs 2 rfl (by decide) ?_|refine F8 hs 2 rfl rfl rfl (by decide) fun Z hs=>?_|refine aq (enc:=nR true) (xs:=List.range 1) (x:=1) (fun v Z hs hsl=>?_) (hl:=by decide) (hg:=GS)|(constructor<;>intro hc<;>(try rw[hc])<;>(replace hc:=bp hc)<;>(try simp(disch:=omega) only[Bc,wrap64,AS]at hc))|clear U K)<;>conv=>whnf)
   all_goals first
    | exact⟨_,rfl,trivial,hs⟩
    | (exfalso;revert hc;decide)
  .conv=>whnf
   repeat'((first|apply st|(apply sq;intro K U)|(apply si;intro A B hA hB)|(refine hA _ _ ?_;clear hB B hA A)|(apply U;clear U K)|refine⟨rfl,?_⟩|refine⟨kZ,?_⟩|refine ld ?_|refine MA fun Z hs=>?_|refine oc ?_|refine NZ hs 2 rfl (by decide) ?_|refine F8 hs 2 rfl rfl rfl (by decide) fun Z hs=>?_|refine aq (enc:=nR true) (xs:=List.range 2) (x:=2) (fun v Z hs hsl=>?_) (hl:=by decide) (hg:=GS)|(constructor<;>intro hc<;>(try rw[hc])<;>(replace hc:=bp hc)<;>(try simp(disch:=omega) only[Bc,wrap64,AS]at hc))|clear U K)<;>conv=>whnf)
   all_goals first
    | exact⟨_,rfl,trivial,hs⟩
    | (exfalso;revert hc;decide)
  .conv=>whnf
   repeat'((first|apply st|(apply sq;intro K U)|(apply si;intro A B hA hB)|(refine hA _ _ ?_;clear hB B hA A)|(apply U;clear U K)|refine⟨rfl,?_⟩|refine⟨kZ,?_⟩|refine ld ?_|refine MA fun Z hs=>?_|refine oc ?_|refine NZ hs 2 rfl (by decide) ?_|refine NZ hs 3 rfl (by decide) ?_|refine aq (enc:=nR true) (xs:=List.range 3) (x:=3) (fun v Z hs hsl=>?_) (hl:=by decide) (hg:=GS)|(constructor<;>intro hc<;>(try rw[hc])<;>(replace hc:=bp hc)<;>(try simp(disch:=omega) only[Bc,wrap64,AS]at hc))|clear U K)<;>conv=>whnf)
   all_goals try(exfalso;revert hc;decide)
   have o2:=FZ hs 3 rfl;refine FF hs 1 rfl rfl rfl (by simp[Pp,o2]) (by decide) fun Z hs=>?_
   clear o2
   conv=>whnf
   repeat'((first|apply st|(refine hA _ _ ?_;clear hB B hA A)|(apply U;clear U K)|refine⟨kZ,?_⟩|refine ld ?_|fail)<;>conv=>whnf)
   have hfr:FY Z emp (V.a [Pp,eI 0,.l [[eI 1]] true,.sl n9 l9 c9,v,eI (((List.range 3).map (nR true)).length:Nat)]) (V.a [.l (K4.AO.map MG) false,eI 0,.l [[eI 1]] false,.l ([X6 0 0,X6 1 1,X6 2 2]) false,.l ((List.range 3++[3]).map (nR false)) false,eI (((List.range 3).map (nR true)).length:Nat)]):= .a (.cons Wz (.cons (.refl _) (.cons OQ (.cons (Own.nJ (hs.get (i:=2) rfl) (.cons (IL _ _) (.cons (IL _ _) (.cons (IL _ _) .nil)))) (.cons (Own.nJ (hs.get (i:=3) rfl) (Qg iA _)) (.cons (.refl _) .nil))))));refine Fx (Z2:=emp) (fun n o ho=>by cases ho) hfr ?_;show R.ret _=R.ret _
   kernel_rfl
def oH:Pure zP 37 [.l [cI 0] true] (.a (BF exH)):=by
 refine Pure.of ?_;have hM:=Mx;refine rI kZ ?_;have hs:=Sn
 conv=>whnf
 repeat'((first|apply st|(apply sq;intro K U)|(apply si;intro A B hA hB)|(refine hA _ _ ?_;clear hB B hA A)|(apply U;clear U K)|refine FX fun Z hs=>?_|(intro nn hnn;generalize hg:BZ _ nn _=Z;refine GF hg fun hs=>?_;clear hg)|fail)<;>conv=>whnf)
 rename_i n0 _ _ _ _ _;generalize nn=n1 at *;refine B4 3 (fun k (_:V)=>[(4,eI (A7 k))]) (fun k x=>[.box n1 [Pp,eI 0,.l [[eI 1]] true,x,.l [] true,eI 0],.box n0 SH,.own x 9 ((List.range k).map Pf)]) (fun k x=>0<k->(Bi x).isSome=true) (.l [] true) rfl (fun h=>absurd h (Nat.lt_irrefl 0)) (EY hs 9) ?_;clear hs;rintro k v Z hk hv hs;have hck:A7 k=k:=AS (by omega);have hlr:(List.range k).length=k:=zrC;by_cases hlt:k<3
 .have e1:(List.range (k+1)).map Pf=(List.range k++[k]).map Pf:=by rw[List.range_succ]
  have hll:(List.range k).length<Ab/\((List.range k).length+1)*104<=140737488355328:=by omega
  generalize List.range k=ks at *
  conv=>whnf
  repeat'((first|apply st|(apply sq;intro K U)|(apply si;intro A B hA hB)|(refine hA _ _ ?_;clear hB B hA A)|(apply U;clear U K)|apply dr|refine rk ?_ ?_|exact fun s e=>by cases e;rfl|refine⟨rfl,?_⟩|refine ld ?_|refine MA fun Z hs=>?_|refine Pure.use (yq _) ?_|refine aq (enc:=Pf) (x:=k) (fun v Z hs hsl=>?_) (hg:=N3)|(constructor<;>intro hc<;>(try rw[hc])<;>(replace hc:=bp hc)<;>(try simp(disch:=omega) only[Bc,wrap64,AS]at hc)<;>try(exfalso;omega))|clear U K)<;>conv=>whnf)
  exact⟨hlt,_,rfl,fun _=>hsl,by rw[e1];exact hs⟩
 .obtain rfl:k=3:=by omega
  conv=>whnf
  repeat'((first|apply st|(apply sq;intro K U)|(apply si;intro A B hA hB)|(refine hA _ _ ?_;clear hB B hA A)|(apply U;clear U K)|refine⟨rfl,?_⟩|refine ld ?_|(constructor<;>intro hc<;>(try rw[hc])<;>(replace hc:=bp hc)<;>(try simp(disch:=omega) only[Bc,wrap64,AS]at hc)<;>try(exfalso;omega))|clear U K)<;>conv=>whnf)
  replace hv:=hv (by decide);refine NK hv (hAppend hs 2 rfl (ys:=[cI 0]) ⟨by decide,by decide⟩ (by intro e he;rw[Jf.1 he];rfl) (by intro e he;rw[Jf.1 he];intro v hv;exact(du 0).2 v hv) fun v Z hs hsl=>?_);clear hv hck hlr hlt hk
  conv=>whnf
  repeat'((first|apply st|(apply sq;intro K U)|(apply si;intro A B hA hB)|(refine hA _ _ ?_;clear hB B hA A)|(apply U;clear U K)|refine MA fun Z hs=>?_|fail)<;>conv=>whnf)
  obtain⟨n9,l9,c9,rfl⟩:=VZ hsl;replace hs:Sat Z [.box n1 [Pp,eI 0,.l [[eI 1]] true,.sl n9 l9 c9,.l [] true,eI 0],.box n0 SH,.own (.sl n9 l9 c9) 9 (qj 0)]:=hs;refine B4 4 (fun k (_:V)=>[(5,eI (A7 k))]) (fun k x=>[.box n1 [Pp,eI 0,.l [[eI 1]] true,.sl n9 l9 c9,x,eI 0],.box n0 SH,.own (.sl n9 l9 c9) 9 (qj k),.own x 3 ((List.range k).map (nR true))]) (fun _ _=>True) (.l [] true) rfl trivial (EY hs 3) ?_;clear hs;rintro k x Z hk - hs;rcases(show k=0\/k=1\/k=2\/k=3\/k=4 by omega)with rfl|rfl|rfl|rfl|rfl
  .conv=>whnf
   repeat'((first|apply st|(apply sq;intro K U)|(apply si;intro A B hA hB)|(refine hA _ _ ?_;clear hB B hA A)|(apply U;clear U K)|refine⟨rfl,?_⟩|refine⟨kZ,?_⟩|refine ld ?_|refine MA fun Z hs=>?_|refine oc ?_|refine NZ hs 2 rfl (by decide) ?_|refine F8 hs 2 rfl rfl rfl (by decide) fun Z hs=>?_|refine aq (enc:=nR true) (xs:=List.range 0) (x:=0) (fun v Z hs hsl=>?_) (hl:=by decide) (hg:=GS)|(constructor<;>intro hc<;>(try rw[hc])<;>(replace hc:=bp hc)<;>(try simp(disch:=omega) only[Bc,wrap64,AS]at hc))|clear U K)<;>conv=>whnf)
   all_goals first
    | exact⟨_,rfl,trivial,hs⟩
    | (exfalso;revert hc;decide)
  .conv=>whnf
   repeat'((first|apply st|(apply sq;intro K U)|(apply si;intro A B hA hB)|(refine hA _ _ ?_;clear hB B hA A)|(apply U;clear U K)|refine⟨rfl,?_⟩|refine⟨kZ,?_⟩|refine ld ?_|refine MA fun Z hs=>?_|refine oc ?_|refine NZ hs 2 rfl (by decide) ?_|refine F8 hs 2 rfl rfl rfl (by decide) fun Z hs=>?_|refine aq (enc:=nR true) (xs:=List.range 1) (x:=1) (fun v Z hs hsl=>?_) (hl:=by decide) (hg:=GS)|(constructor<;>intro hc<;>(try rw[hc])<;>(replace hc:=bp hc)<;>(try simp(disch:=omega) only[Bc,wrap64,AS]at hc))|clear U K)<;>conv=>whnf)
   all_goals first
    | exact⟨_,rfl,trivial,hs⟩
    | (exfalso;revert hc;decide)
  .conv=>whnf
   repeat'((first|apply st|(apply sq;intro K U)|(apply si;intro A B hA hB)|(refine hA _ _ ?_;clear hB B hA A)|(apply U;clear U K)|refine⟨rfl,?_⟩|refine⟨kZ,?_⟩|refine ld ?_|refine MA fun Z hs=>?_|refine oc ?_|refine NZ hs 2 rfl (by decide) ?_|refine F8 hs 2 rfl rfl rfl (by decide) fun Z hs=>?_|refine aq (enc:=nR true) (xs:=List.range 2) (x:=2) (fun v Z hs hsl=>?_) (hl:=by decide) (hg:=GS)|(constructor<;>intro hc<;>(try rw[hc])<;>(replace hc:=bp hc)<;>(try simp(disch:=omega) only[Bc,wrap64,AS]at hc))|clear U K)<;>conv=>whnf)
   all_goals first
    | exact⟨_,rfl,trivial,hs⟩
    | (exfalso;revert hc;decide)
  .conv=>whnf
   repeat'((first|apply st|(apply sq;intro K U)|(apply si;intro A B hA hB)|(refine hA _ _ ?_;clear hB B hA A)|(apply U;clear U K)|refine⟨rfl,?_⟩|refine⟨kZ,?_⟩|refine ld ?_|refine MA fun Z hs=>?_|refine oc ?_|refine NZ hs 2 rfl (by decide) ?_|refine F8 hs 2 rfl rfl rfl (by decide) fun Z hs=>?_|refine aq (enc:=nR true) (xs:=List.range 3) (x:=3) (fun v Z hs hsl=>?_) (hl:=by decide) (hg:=GS)|(constructor<;>intro hc<;>(try rw[hc])<;>(replace hc:=bp hc)<;>(try simp(disch:=omega) only[Bc,wrap64,AS]at hc))|clear U K)<;>conv=>whnf)
   all_goals first
    | exact⟨_,rfl,trivial,hs⟩
    | (exfalso;revert hc;decide)
  .conv=>whnf
   repeat'((first|apply st|(apply sq;intro K U)|(apply si;intro A B hA hB)|(refine hA _ _ ?_;clear hB B hA A)|(apply U;clear U K)|refine⟨rfl,?_⟩|refine⟨kZ,?_⟩|refine ld ?_|refine MA fun Z hs=>?_|refine oc ?_|refine NZ hs 2 rfl (by decide) ?_|refine NZ hs 3 rfl (by decide) ?_|refine aq (enc:=nR true) (xs:=List.range 4) (x:=4) (fun v Z hs hsl=>?_) (hl:=by decide) (hg:=GS)|(constructor<;>intro hc<;>(try rw[hc])<;>(replace hc:=bp hc)<;>(try simp(disch:=omega) only[Bc,wrap64,AS]at hc))|clear U K)<;>conv=>whnf)
   all_goals try(exfalso;revert hc;decide)
   have o2:=FZ hs 3 rfl;refine FF hs 1 rfl rfl rfl (by simp[Pp,o2]) (by decide) fun Z hs=>?_
   clear o2
   conv=>whnf
   repeat'((first|apply st|(refine hA _ _ ?_;clear hB B hA A)|(apply U;clear U K)|refine⟨kZ,?_⟩|refine ld ?_|fail)<;>conv=>whnf)
   have hfr:FY Z emp (V.a [Pp,eI 0,.l [[eI 1]] true,.sl n9 l9 c9,v,eI (((List.range 4).map (nR true)).length:Nat)]) (V.a [.l (K4.AO.map MG) false,eI 0,.l [[eI 1]] false,.l ([X6 0 0,X6 1 1,X6 2 2]++[cI 3]) false,.l ((List.range 4++[4]).map (nR false)) false,eI (((List.range 4).map (nR true)).length:Nat)]):= .a (.cons Wz (.cons (.refl _) (.cons OQ (.cons (Own.nJ (hs.get (i:=2) rfl) (.cons (IL _ _) (.cons (IL _ _) (.cons (IL _ _) (.cons (Ct.refl _ _ _) .nil))))) (.cons (Own.nJ (hs.get (i:=3) rfl) (Qg iA _)) (.cons (.refl _) .nil))))));refine Fx (Z2:=emp) (fun n o ho=>by cases ho) hfr ?_;show R.ret _=R.ret _
   kernel_rfl
def ti:Pure zP 43 [] (.a (BF exH)):=by
 refine AAi kZ ?_;have hs:=Sn
 conv=>whnf
 repeat'((first|apply st|(apply sq;intro K U)|(apply si;intro A B hA hB)|(refine hA _ _ ?_;clear hB B hA A)|(apply U;clear U K)|refine⟨kZ,?_⟩|refine ld ?_|refine FX fun Z hs=>?_|refine Pure.use (q8 _) ?_|refine Pure.use (zN _ _) ?_|refine oH.use ?_|(intro nn hnn;generalize hg:BZ _ nn _=Z;refine GF hg fun hs=>?_;clear hg)|fail)<;>conv=>whnf)
 all_goals exact AG rfl
end Go.Gl
