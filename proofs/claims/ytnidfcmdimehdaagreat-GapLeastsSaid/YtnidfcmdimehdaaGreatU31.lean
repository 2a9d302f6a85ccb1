import Derived.Test.YtnidfcmdimehdaaGreatU14
import Derived.Test.YtnidfcmdimehdaaGreatU15
import Derived.Test.YtnidfcmdimehdaaGreatU18
import Derived.Test.YtnidfcmdimehdaaGreatU19
import Derived.Test.YtnidfcmdimehdaaGreatU23
import Derived.Test.YtnidfcmdimehdaaGreatU26
import Derived.Test.YtnidfcmdimehdaaGreatU30
set_option linter.all false
set_option linter.defProp false
set_option maxHeartbeats 8000000
noncomputable section
namespace Go.Gl
open Go.Proofs
attribute [local irreducible] As Af AV AQ AI AU AP AR AJ AT AM AN Ag Ar Sat AS Ap AX W
def Fh (p:Prog) (next:Bool) (n size depth:Int) (s:List Int):Option (List Int):=
 if n<0\/(p.nodes.length:Int)<=n\/0<=s.getD n.toNat 0\/12<depth then none else
 match p.nodes[n.toNat]? with
 | none=>none
 | some x=>if EO p next size x then some (s.set n.toNat size)else none
def eR {S:Type}:Option S->Rd S
 | some s=> .go s
 | none=> .Cu D4
abbrev eaP (y:Int×Int×Int):List V:=[eI y.1,.a [eI y.2.1,eI y.2.2]]
abbrev hOut (nO:Nat) (v:V) (s:List Int):List At:=[.box nO [v],.own v 1 (iL s)]
abbrev dP (p:Prog) (y:Int×Int×Int) (s:List Int):Prop:=0<=y.2.1/\y.2.1<=100/\1<=y.2.2/\y.2.2<=13/\s.length=p.nodes.length
abbrev Xz (p:Prog) (L nW:Nat):V:= .f (.func 294) [] [.rp [.f (.yield L) [] []],.rp (A3 p),.p nW 0]
def YT {p:Prog} {next:Bool} {n size depth:Int} {s s':List Int} (h:Fh p next n size depth s=some s'):0<=n/\n<(p.nodes.length:Int)/\s.getD n.toNat 0<0/\depth<=12/\ ∃x,p.nodes[n.toNat]? =some x/\EO p next size x=true/\s'=s.set n.toNat size:=by
 unfold Fh at h;split at h
 .cases h
 .rename_i hc
  split at h
  .cases h
  .rename_i x hx
   split at h
   .rename_i hok
    simp only[Hp]at h;exact⟨by omega,by omega,by omega,by omega,x,hx,hok,h.symm⟩
   .cases h
def YS {p:Prog} {next:Bool} {d:Nat} {n size depth:Int} {s:List Int} (hd:depth=13 - (d+1:Nat)) (hd1:1<=depth):CK p next (d+1) n size s=match Fh p next n size depth s with
    | none=>none
    | some s'=>match p.nodes[n.toNat]? with
      | none=>none
      | some x=>Fy (CK p next d) x.op size 0 x.kids s':=by
 unfold Fh;simp only[CK];by_cases h:n<0\/(p.nodes.length:Int)<=n\/0<=s.getD n.toNat 0
 .rw[if_pos h,if_pos (by omega)]
 .rw[if_neg h,if_neg (by omega)]
  cases hx:p.nodes[n.toNat]? with
  | none=>rfl
  | some x=>
    simp only;split
    .rfl
    .rfl
def YU {p:Prog} {next:Bool} {n size depth:Int} {s:List Int} (hd:12<depth):Fh p next n size depth s=none:=by
 unfold Fh;rw[if_pos (by omega)]
def Sz {f:Int->Int->List Int->Option (List Int)} (hf: ∀ {a b s s'},f a b s=some s'->s'.length=s.length) {op size:Int}: ∀(i:Nat) (l:List Int) {s s':List Int},Fy f op size i l s=some s'->s'.length=s.length
 | _,[],s,s',h=>by cases h;rfl
 | i,k::r,s,s',h=>by
   simp only[Fy]at h;split at h
   .cases h
   .rename_i s1 h1
    exact(Sz hf (i+1) r h).trans (hf h1)
def KY {p:Prog} {next:Bool}: ∀(d:Nat) {n size:Int} {s s':List Int},CK p next d n size s=some s'->s'.length=s.length
 | 0,_,_,_,_,h=>by cases h
 | d + 1,n,size,s,s',h=>by
   simp only[CK]at h;split at h
   .cases h
   .split at h
    .cases h
    .split at h
     .exact(Sz (fun h=>KY d h) 0 _ h).trans (by simp)
     .cases h
def mB (p : Prog) (next:Bool) {L:Nat} {E:Env} {ok:FuncId->Array Tmp->Code->Code->Nat->Prop} {v:V} {nO:Nat}
    (hY:Nk zP L E ok eaP (hOut nO v) (fun s=>s.length=p.nodes.length) (fun y s=>eR (Fh p next y.1 y.2.1 y.2.2 s)) (dP p)) :
    ∀ d : Nat,d<=12-> ∀(n size depth:Int) (s:List Int),depth=13 - d->0<=size->size+d<=100->s.length=p.nodes.length-> ∀(nW:Nat) (rest:List At) (Z:AD),
      Sat Z (.obj L (.loop .ready E ok)::(hOut nO v s++(.box nW [Xz p L nW]::rest)))->
      As zP 294 [eI n,.a [eI size,eI depth],.rp [.f (.yield L) [] []],.rp (A3 p),.p nW 0] Z
       (lP L E ok (hOut nO v) (fun s=>s.length=p.nodes.length) (.box nW [Xz p L nW]::rest) (.b true) (.b false) (eR (CK p next d n size s))):=by
 intro d
 induction d with
 | zero=>
   intro _ n size depth s hd h0 h1 hl nW rest Z hs;refine gS kZ ?_;refine zz ?_;(repeat clear U K);repeat intro K U
   refine hY.use (y:=(n,size,depth)) (s:=s) ⟨h0,(by dsimp only;omega),(by dsimp only;omega),(by dsimp only;omega),hl⟩ hs ?_;rw[YU (by dsimp only;omega)];rintro r Z' ⟨rfl,s',hj,hs'⟩
   conv=>whnf
   repeat'((first|clear U K|apply st|fail)<;>conv=>whnf)
   exact DQ ⟨rfl,s',hj,hs'⟩
 | succ d ih =>
   intro hd12 n size depth s hd h0 h1 hl nW rest Z hs;refine As.fit (by kernel_rfl) fun hf=>?_
   have hM:=Mx
   have hfp:Fb (.a (A3 p)):=by
    have:=hf.2.2.2.1;simp only[Un]at this;simpa only[Hk]using this
   have⟨p1,p2,p3,p4⟩:=F0 hfp;refine gS kZ ?_;refine zz ?_;(repeat clear U K);repeat intro K U
   refine hY.use (y:=(n,size,depth)) (s:=s) ⟨h0,(by dsimp only;omega),(by dsimp only;omega),(by dsimp only;omega),hl⟩ hs ?_;have hw:=YS (p:=p) (next:=next) (n:=n) (size:=size) (s:=s) hd (by omega);cases hv:Fh p next n size depth s with
   | none=>
     rw[hv]at hw;rintro r Z' ⟨rfl,s',hj,hs'⟩
     conv=>whnf
     repeat'((first|clear U K|apply st|fail)<;>conv=>whnf)
     refine DQ ?_;rw[hw];exact⟨rfl,s',hj,hs'⟩
   | some s1 =>
     obtain⟨g0,g1,g2,g3,x,hx,hok,hs1⟩:=YT hv;rw[hv]at hw;simp only[hx]at hw;have hl1:s1.length=p.nodes.length:=by rw[hs1];simpa using hl
     have hkm:=gN hfp (BY hx);clear hv hs1;rintro r Z1 ⟨rfl,hs⟩;refine zz ?_;(repeat clear U K);repeat intro K U
     refine Ba x.kids.length (fun k (_:List Int)=>[(23,eI (Au k))]) (fun _ s'=> .obj L (.loop .ready E ok)::(hOut nO v s'++(.box nW [Xz p L nW]::rest))) (fun k s'=>s'.length=p.nodes.length/\CK p next (d+1) n size s=Fy (CK p next d) x.op size k (x.kids.drop k) s') s1 rfl ⟨hl1,by simpa using hw⟩ hs ?_;clear hs hw;rintro k s' Z hk ⟨hl',hkids⟩ hs;rcases Aw x.kids hk with⟨kid,hkid,hlt⟩|hke
     .have hck:Au k=k:=AW (by omega)
      rw[drop_cons hkid,Fy]at hkids;have e0:IntKind.i64.wrap (depth+1)=depth+1:=wrap64 (by omega) (by omega);have e1:IntKind.i64.wrap (size+1)=size+1:=wrap64 (by omega) (by omega)
      have hrec: ∀(sz:Int) (Z:AD) (l:List At),0<=sz->sz+d<=100->Sat Z (l++(.obj L (.loop .ready E ok)::(hOut nO v s'++(.box nW [Xz p L nW]::rest))))->Ag zP (Xz p L nW) [eI kid,.a [eI sz,eI (depth+1)]] Z
       (lP L E ok (hOut nO v) (fun s=>s.length=p.nodes.length) (.box nW [Xz p L nW]::rest) (.b true) (.b false) (eR (CK p next d kid sz s'))):=fun sz Z l h0 h1 hs=>
       A6 (ih (by omega) kid sz (depth+1) s' (by omega) h0 h1 hl' nW rest Z (hs.less (List.sublist_append_right _ _)))
      conv=>whnf
      repeat'((first|clear U K|apply st|(apply zk;intro K U)|refine zY ?_|refine zs fun Z hs=>?_|(refine zd (fun hc=>?_) (fun hc=>?_)<;>try exact⟨⟩)|refine zo fun nn hnn Z hs=>?_|fail)<;>conv=>whnf)
      all_goals
       simp only[e0,e1]
       first
        | rw[if_pos (by omega)]at hkids
          refine(hrec (size+1) _ [_] (by omega) (by omega) hs).mono ?_
        | rw[if_neg (by omega)]at hkids
          refine(hrec size _ [_] (by omega) (by omega) hs).mono ?_
       cases hw:CK p next d kid _ s' with
       | none=>
         rw[hw]at hkids;rintro r Z' ⟨rfl,s',hj,hs'⟩
         conv=>whnf
         repeat'((first|clear U K|apply st|fail)<;>conv=>whnf)
         refine DQ ?_;rw[hkids];exact⟨rfl,s',hj,hs'⟩
       | some s2=>
         rw[hw]at hkids;rintro r Z' ⟨rfl,hs'⟩;refine zz ?_;(repeat clear U K);repeat intro K U
         exact⟨hlt,s2,rfl,⟨(KY _ hw).trans hl',hkids⟩,hs'⟩
     .rw[Ad hke,Fy]at hkids
      refine zz ?_;(repeat clear U K);repeat intro K U
      refine AH ?_;rw[hkids];exact⟨rfl,hs⟩
def qZ {a b:Nat} {A B:Prop} (e:a=b) (h:A):(a=b->A)/\(a≠b->B):=⟨fun _=>h,fun n=>absurd e n⟩
def tasN {a b:Nat} {A B:Prop} (e:a≠b) (h:B):(a=b->A)/\(a≠b->B):=⟨fun n=>absurd n e,fun _=>h⟩
def iU {P:Program} {Z:AD} {tab:List (TypeId×FuncId)} {t:TypeId} {f:FuncId} {v:V} {args:List V} {Q:R->AD->Prop} (h:look t tab=some f) (hc:As P f (v::args) Z Q):Ar P tab (.Lx t v) args Z Q:=by
 unfold Ar;simp only[h];exact hc
def kU (p:Prog) (n size depth:Int):Pure zP 247 [.a (A3 p),eI n,.a [eI size,eI depth]] (.f (.func 293) [] [.rp (A3 p),.rp [eI n],.rp [eI size,eI depth]]):=by
 refine uQ kZ ?_;have hs:=Sn;exact zW
def ss (p:Prog) (next:Bool) {L:Nat} {E:Env} {ok:FuncId->Array Tmp->Code->Code->Nat->Prop} {v:V} {nO:Nat}
    (hY:Nk zP L E ok eaP (hOut nO v) (fun s=>s.length=p.nodes.length) (fun y s=>eR (Fh p next y.1 y.2.1 y.2.2 s)) (dP p)) (n size:Int) (s:List Int) (h0:0<=size) (h1:size<=20) (hl:s.length=p.nodes.length) (rest:List At) (Z:AD)
    (hs : Sat Z (.obj L (.loop .ready E ok)::(hOut nO v s++rest))) :
     As zP 293 [.f (.yield L) [] [],.rp (A3 p),.rp [eI n],.rp [eI size,eI 1]] Z
      (lP L E ok (hOut nO v) (fun s=>s.length=p.nodes.length) rest (.t []) (.t []) (eR (CK p next 12 n size s))):=by
 refine te kZ ?_
 conv=>whnf
 repeat'((first|clear U K|apply st|(apply zk;intro K U)|refine zY ?_|refine zs fun Z hs=>?_|refine zo fun nn hnn Z hs=>?_|fail)<;>conv=>whnf)
 have hp:Sat Z (.obj L (.loop .ready E ok)::(hOut nO v s++(.box nn [Xz p L nn]::rest))):=hs.perm (by
  refine(List.Perm.swap _ _ _).trans (.cons _ ?_)
  exact(List.perm_middle (l₁:=hOut nO v s)).symm)
 refine A6 ((mB p next hY 12 (G0 _) n size 1 s rfl h0 (by omega) hl nn rest Z hp).mono ?_);cases hw:CK p next 12 n size s with
 | none=>
   rintro r Z' ⟨rfl,s',hj,hs'⟩
   conv=>whnf
   repeat'((first|clear U K|apply st|fail)<;>conv=>whnf)
   refine DQ ?_;rw[hw];exact⟨rfl,s',hj,hs'.less (List.Sublist.append_left (HU _ _) _)⟩
 | some s2=>
   rintro r Z' ⟨rfl,hs'⟩
   conv=>whnf
   repeat'((first|clear U K|apply st|fail)<;>conv=>whnf)
   refine AH ?_;rw[hw];exact⟨rfl,hs'.less (.cons₂ _ (List.Sublist.append_left (HU _ _) _))⟩
def XN (p:Prog) (x:Node):(x.op=5/\SM x.op= .Lx 340 (.a []))\/(x.op≠5/\ ∃m:Int,SM x.op= .Lx 339 (eI m)/\Jq p x=m)\/(SM x.op= .K0/\Jq p x= -1):=by
 unfold SM Jq;by_cases h5:x.op=5
 .exact .inl ⟨h5,by rw[if_pos h5]⟩
 .rw[if_neg h5]
  split
  .exact .inr (.inl ⟨h5,_,rfl,rfl⟩)
  split
  .exact .inr (.inl ⟨h5,_,rfl,rfl⟩)
  split
  .exact .inr (.inl ⟨h5,_,rfl,rfl⟩)
  split
  .exact .inr (.inl ⟨h5,_,rfl,rfl⟩)
  .exact .inr (.inr ⟨rfl,by rw[if_neg (by rintro⟨h,_⟩;exact h5 h)]⟩)
def Ug {p:Prog} {x:Node} (h:x.op=5) {size:Int} (hn:NO p x size=true):0<=x.n/\x.n<p.Cc.length/\Jq p x=p.Cc.getD x.n.toNat 0:=by
 have h2:0<=x.n/\x.n<p.Cc.length:=by
  simp only[NO,h]at hn;simpa using hn
 refine⟨h2.1,h2.2,?_⟩;unfold Jq;rw[h,if_neg (by decide),if_neg (by decide),if_neg (by decide),if_neg (by decide),if_pos ⟨rfl,h2.1,h2.2⟩]
def ik {p:Prog} {next:Bool} {n size depth:Int} {s:List Int} (h:n<0\/(p.nodes.length:Int)<=n\/0<=s.getD n.toNat 0\/12<depth):Fh p next n size depth s=none:=by
 unfold Fh;rw[if_pos h]
def il {p:Prog} {next:Bool} {n size depth:Int} {s:List Int} {y:Int} {x:Node} (h0:0<=n) (h1:n<(p.nodes.length:Int)) (hy:s[n.toNat]? =some y) (hy0:y<0) (hd:depth<=12) (hx:p.nodes[n.toNat]? =some x):Fh p next n size depth s=if EO p next size x then some (s.set n.toNat size)else none:=by
 have e:s.getD n.toNat 0=y:=by rw[Co,hy];rfl
 unfold Fh;rw[if_neg (by rw[e];omega),hx]
def z7 (p:Prog) (nO:Nat) (v:V) (rest:List At) (o:Option (List Int)) (r:R) (Z:AD):Prop:=
 match o with
 | some s=>r= .ret (.t [])/\Sat Z (hOut nO v s++rest)
 | none=>r= .Cu D4/\ ∃s:List Int,s.length=p.nodes.length/\Sat Z (hOut nO v s++rest)
def Uq (p:Prog) (next:Bool) {v:V} {nO:Nat} (hv:(Bd v).isSome=true) (n size:Int) (s:List Int) (h0:0<=size) (h1:size<=20) (hl:s.length=p.nodes.length) (rest:List At) (Z:AD) (hs:Sat Z (hOut nO v s++rest)) :
    As zP 246 [eI n,eI size,.b next,.rp (A3 p),.p nO 0] Z (z7 p nO v rest (CK p next 12 n size s)):=by
 refine As.fit (by kernel_rfl) fun hf=>?_
 have hM:=Mx
 have hfp:Fb (.a (A3 p)):=by
  have:=hf.2.2.2.1;simp only[Un]at this;simpa only[Hk]using this
 have⟨p1,p2,p3,p4⟩:=F0 hfp;refine uR kZ ?_
 conv=>whnf
 repeat'((first|clear U K|apply st|(apply zk;intro K U)|refine zY ?_|refine Pure.use (kU _ _ _ _) ?_|refine zo fun nn hnn Z hs=>?_|fail)<;>conv=>whnf)
 refine As.mono (ss p next (L:=nn) (v:=v) (nO:=nO) ?_ n size s h0 h1 hl rest Z hs) ?_
 .refine OV (fun y=>rfl) ?_
  clear hs hnn hl h0 h1;rintro⟨k,sz,dp⟩ s ⟨d0,d1,d2,d3,hl⟩ rest Z hs;dsimp only at d0 d1 d2 d3 hl;dsimp only;rw[show eaP (k,sz,dp)= [eI k,.a [eI sz,eI dp]] from rfl]
  conv=>whnf
  repeat'((first|apply st|(apply sq;intro K U)|(apply si;intro A B hA hB)|(refine hA _ _ ?_;clear hB B hA A)|(refine hB _ _ _ ?_;clear hB B hA A)|(refine hB _ _ fun Z hsub=>?_;clear hB B hA A)|(apply U;clear U K)|apply dr|refine rk ?_ ?_|exact fun s e=>by cases e;rfl|refine⟨rfl,?_⟩|refine⟨kZ,?_⟩|refine iq fun x hx=>?_|refine ld ?_|refine ZL fun Z hs=>?_|refine oi ?_|refine ol fun x hx=>?_|refine oset fun Z hs=>?_|refine cft ?_|refine cff ?_|(refine Cl (fun hc=>?_) (fun hc=>?_)<;>(replace hc:=bp hc)<;>(try simp(disch:=omega) only[Bh,wrap64,AW]at hc)<;>(try(cases hc;done)))|refine Pure.use (cR _ _ _) ?_|refine Pure.use (cj _) ?_|(rcases XN p (by assumption)with⟨e5,ek⟩|⟨e5,m,ek,hm⟩|⟨ek,hm⟩<;>rw[ek]<;>clear ek)|refine qZ rfl ?_|refine tasN (by decide) ?_|refine iU rfl (Pure.use (yF _ _ _) ?_)|refine iU rfl (Pure.use (oa _ _ (Ug (by assumption) (by assumption)).1 (Ug (by assumption) (by assumption)).2.1) ?_)|(constructor<;>intro hc<;>(try rw[hc])<;>(replace hc:=bp hc)<;>(try simp(disch:=omega) only[Bh,wrap64,AW]at hc))|(intro nn hnn;generalize hg:Bz _ nn _=Z;refine bT hg fun hs=>?_;clear hg)|clear U K)<;>conv=>whnf)
  all_goals first
   | (intro hn;refine Sk (s:=s) (by rw[ik (by first|omega|(rw[Co,‹s[k.toNat]? =some _›];simp only[Option.getD_some];omega))];rfl) hl (hs.less (by repeat first|exact List.Sublist.refl _|apply List.Sublist.cons)) hn)
   | skip
  all_goals
   have hva:=il (next:=next) (size:=sz) (depth:=dp) (show 0<=k by omega) (show k<(p.nodes.length:Int) by omega) ‹s[k.toNat]? =some _› (by assumption) (by omega) ‹p.nodes[k.toNat]? =some _›
   rename Node=>x
   have hk5:x.op=5->NO p x sz=true->Jq p x=p.Cc.getD x.n.toNat 0:=fun h hn=>(Ug h hn).2.2
   intro hn
  all_goals first
   | (rw[if_neg (by first|(intro h;rw[EO,hk5 (by assumption) (by assumption)]at h;simp only[A7,Cd]at h;exact absurd h.1 (by assumption))|(simp[EO, *];done)|(simp[EO, *];omega)|(rw[EO,hk5 (by assumption) (by assumption)];simp[*];done)|(simp[EO, *];intros;omega))]at hva
      refine Sk (s:=s.set k.toNat sz) (by rw[hva];rfl) (by simpa using hl) ?_ hn
      first
       | exact hs.less (by repeat first|exact List.Sublist.refl _|apply List.Sublist.cons)
       | exact(hs.less (by repeat first|exact List.Sublist.refl _|apply List.Sublist.cons)).up (by assumption))
   | (rw[if_pos (by first|(simp[EO, *];done)|(rw[EO,hk5 (by assumption) (by assumption)];simp[*];done))]at hva
      exact V8 (s:=s.set k.toNat sz) (by rw[hva];rfl) (hs.less (by repeat first|exact List.Sublist.refl _|apply List.Sublist.cons)) hn)
 .cases hw:CK p next 12 n size s with
  | none=>
    rintro r Z' ⟨rfl,s',hj,hs'⟩
    conv=>whnf
    exact DQ ⟨rfl,s',hj,hs'⟩
  | some s2=>
    rintro r Z' ⟨rfl,hs'⟩;refine Gn hs' fun Z2 hs2=>?_
    conv=>whnf
    exact AH ⟨rfl,hs2⟩
section
variable {S:Type} (g:FuncId) (fi ca:List V) (H:S->List At) (f:Int->Bool) (J:S->Prop) (D:Int->Prop)
def SF {v:V} {xs:List Int} (hst:OO zP (.f (.func g) fi ca) eI (fun s=> .own v 1 (iL xs)::H s) f J D) (hD: ∀x∈xs,D x) (hxl:xs.length<=AZ) (s0:S) (hj0:J s0) :
    BL zP 114 [v,.f (.func g) fi ca] (.own v 1 (iL xs)::H s0) fun r post=>r= .ret (eI (OM f xs 0))/\ ∃s',J s'/\post= .own v 1 (iL xs)::H s':=by
 intro Z hs;have hM:=Mx;refine gp kZ ?_;refine zz ?_;(repeat clear U K);repeat intro K U
 refine Ba xs.length (fun k (_:S)=>[(8,eI (Au k))]) (fun _ s=> .own v 1 (iL xs)::H s) (fun k s=>J s/\OM f xs 0=OM f (xs.drop k) k) s0 rfl ⟨hj0,rfl⟩ hs ?_;clear hs hj0;rintro k s Z hk ⟨hj,hn⟩ hs;have hck:Au k=k:=AW (by omega);rcases Aw xs hk with⟨y,hy,hlt⟩|hke
 .rw[drop_cons hy]at hn
  have hDy:=hD y (BY hy);rw[OM]at hn
  conv=>whnf
  repeat'((first|clear U K|apply st|(apply zk;intro K U)|refine zY ?_|refine ze fun x hx=>?_|fail)<;>conv=>whnf)
  obtain rfl:x=y:=by rw[hck,FZ,hy]at hx;exact(Option.some.inj hx).symm
  refine hst.use hDy hj hs ?_;clear hs hj;intro s Z hj hs;cases hyes:f x
  .rw[hyes,if_neg (by decide)]at hn
   refine zz ?_;(repeat clear U K);repeat intro K U
   exact⟨hlt,_,rfl,⟨hj,hn⟩,hs⟩
  .rw[hyes,if_pos rfl]at hn
   refine zz ?_;(repeat clear U K);repeat intro K U
   rw[hn];exact AH ⟨_,⟨by rw[hck],s,hj,rfl⟩,hs⟩
 .rw[Ad hke,OM]at hn
  refine zz ?_;(repeat clear U K);repeat intro K U
  rw[hn];exact AH ⟨_,⟨rfl,s,hj,rfl⟩,hs⟩
def O1 {v:V} {xs:List Int} (hst:OO zP (.f (.func g) fi ca) eI (fun s=> .own v 1 (iL xs)::H s) f J D) (hD: ∀x∈xs,D x) (hxl:xs.length<=AZ) (s0:S) (hj0:J s0) :
    BL zP 66 [v,.f (.func g) fi ca] (.own v 1 (iL xs)::H s0) fun r post=>r= .ret (.b (xs.any f))/\ ∃s',J s'/\post= .own v 1 (iL xs)::H s':=by
 intro Z hs;refine ph kZ ?_
 conv=>whnf
 repeat'((first|clear U K|apply st|(apply zk;intro K U)|fail)<;>conv=>whnf)
 refine(SF g fi ca H f J D hst hD hxl s0 hj0).use (rest:=[]) (by simpa using hs) ?_;rintro r post Z ⟨rfl,s',hj,rfl⟩ hs;refine zz ?_;(repeat clear U K);repeat intro K U
 exact AH ⟨_,⟨by rw[<-Wh f xs 0],s',hj,rfl⟩,by simpa using hs⟩
def m6 {v:V} {xs:List Int} (hst:OO zP (.f (.func g) fi ca) eI (fun s=> .own v 1 (iL xs)::H s) f J D):OO zP (.f (.func 227) [] [.rp [.f (.func g) fi ca]]) eI (fun s=> .own v 1 (iL xs)::H s) (fun y=> !f y) J D:=by
 intro y s hd hj Z hs;refine A6 ?_;show As zP 227 ([]++[eI y]++[.rp [.f (.func g) fi ca]]) Z _;refine gX kZ ?_;refine zz ?_;(repeat clear U K);repeat intro K U
 refine hst.use hd hj hs ?_;clear hs;intro s' Z hj' hs;refine zz ?_;(repeat clear U K);repeat intro K U
 exact AH ⟨rfl,s',hj',hs⟩
def bJ {v:V} {xs:List Int} (hst:OO zP (.f (.func g) fi ca) eI (fun s=> .own v 1 (iL xs)::H s) f J D) (hD: ∀x∈xs,D x) (hxl:xs.length<=AZ) (s0:S) (hj0:J s0) :
    BL zP 180 [v,.f (.func g) fi ca] (.own v 1 (iL xs)::H s0) fun r post=>r= .ret (.b (xs.all f))/\ ∃s',J s'/\post= .own v 1 (iL xs)::H s':=by
 intro Z hs;refine gi kZ ?_
 conv=>whnf
 repeat'((first|clear U K|apply st|(apply zk;intro K U)|fail)<;>conv=>whnf)
 refine(O1 227 [] [.rp [.f (.func g) fi ca]] H _ J D (m6 g fi ca H f J D hst) hD hxl s0 hj0).use (rest:=[]) (by simpa using hs) ?_;rintro r post Z ⟨rfl,s',hj,rfl⟩ hs;refine zz ?_;(repeat clear U K);repeat intro K U
 refine AH ⟨_,⟨?_,s',hj,rfl⟩,by simpa using hs⟩;rw[List.all_eq_not_any_not]
end
def H4 {Z:AD} {X:List At} {L:Nat} {pre post:List Bx} {e:Bx} (h:Sat Z (X++CD L (pre++e::post))):Sat Z (.box e.b [eI e.k.low,eI e.k.high,e.vn,eU e.k.BJ,eU e.k.Dv,.b e.k.whole,.b e.k.Ab,e.vs]:: .own e.vn 1 (iL e.k.no):: .own e.vs 1 (iL e.k.AL)::(X++H2 L (pre++e::post) pre post)):=by
 have h2:Sat Z (Vk e++(X++H2 L (pre++e::post) pre post)):=h.perm ((List.Perm.append_left X (WY L pre post e)).trans (by rw[<-NJ,<-NJ];exact NF.append_right _));exact h2
def Em {Z:AD} {X:List At} {L:Nat} {pre post:List Bx} {e e':Bx} (h1:e'.a=e.a) (h2:e'.p=e.p) (h3:e'.b=e.b) (h:Sat Z (Vk e'++(X++H2 L (pre++e::post) pre post))):Sat Z (X++CD L (pre++e'::post)):=by
 rw[<-Uv h1 h2 h3]at h;exact h.perm ((List.Perm.append_left X (WY L pre post e')).trans (by rw[<-NJ,<-NJ];exact NF.append_right _)).symm
def Jn {α:Type} (a b c:α) (l:List α):(a::b::c::l).Perm (b::c::a::l):=(List.Perm.swap _ _ _).trans (.cons _ (.swap _ _ _))
def Ny {α:Type} (a:α) (l:List α):(a::l).Perm (l++[a]):=(List.perm_append_singleton a l).symm
def bR (m:Nat) (k:Kn):Prop:=k.BJ<18446744073709551616/\k.Dv<18446744073709551616/\k.no.length<=m/\k.AL.length<=m
def nJ (f:Fact) (c:Bool) (j:Nat) (a:Int) (p:List Int) (k:Kn):(Dn f c j a p k).BJ=k.BJ:=by unfold Dn;(repeat' split)<;>rfl
def sW (f:Fact) (c:Bool) (j:Nat) (a:Int) (p:List Int) (k:Kn):(Dn f c j a p k).Dv=k.Dv:=by unfold Dn;(repeat' split)<;>rfl
def yY (f:Fact) (c:Bool) (j:Nat) (a:Int) (p:List Int) (k:Kn):(Dn f c j a p k).no=k.no:=by unfold Dn;(repeat' split)<;>rfl
def jq (f:Fact) (c:Bool) (j:Nat) (a:Int) (p:List Int) (k:Kn):(Dn f c j a p k).AL.length<=k.AL.length+1:=by
 unfold Dn
 repeat' split
 .exact TW _ _
 all_goals simp[Bt]
def yX {m:Nat} {k:Kn} (h:bR m k) (f:Fact) (c:Bool) (j:Nat) (a:Int) (p:List Int):bR (m+1) (Dn f c j a p k):=by
 obtain⟨h1,h2,h3,h4⟩:=h;refine⟨by rw[nJ];exact h1,by rw[sW];exact h2,by rw[yY];omega,?_⟩;have:=jq f c j a p k;omega
def Ki {k:Kn} (c:Bool) (h:k.Ab=true):Bt k c= {k with Ab:=true}:=by simp[Bt,h]
def Iy {k:Kn} (c:Bool) (h:k.Ab=false):Bt k c= {k with Ab:= !c}:=by simp[Bt,h]
abbrev F7 (a:Int) (p:List Int):List V:=[eI a,eI (p.length:Int),eI (p.getD 0 0),eI (p.getD 1 0)]
structure fS (f:Fact):Prop where
 op:f.op=2\/f.op=3\/f.op=4
 path:f.path.length<=2
 cls:f.op=2->0<=f.cls/\f.cls<64
 n: -1000000000<=f.n/\f.n<=1000000000
def oo (w : AE) (us:List Nat) {kf:Int->List Int->Kn} {L:Nat} {es:List Bx} (h:Bp kf es) (f:Fact) (c:Bool) (hl:fS f) {m:Nat} (hm:m<1000) (hb: ∀a p,bR m (kf a p)) :
    BL zP 128 [VB w us L,.a (xF f++[.b c])] (CD L es) fun r post=>r= .ret (.t [])/\ ∃es',Bp (fun a p=>if a=f.arg/\p=f.path then Bs (Dn f c f.path.length a p (kf a p)) f c else Dn f c f.path.length a p (kf a p)) es'/\post=CD L es':=by
 intro Z hs;have hM:=Mx;obtain⟨l1,l2,l3,l4⟩:=hl;refine wK kZ ?_;rw[show xF f++[V.b c]= [eI f.op,eI f.arg,.l (iL f.path) false,eI f.cls,eI f.n,.l (f.kids.map EY) false,.b c] from rfl]
 conv=>whnf
 repeat'((first|clear U K|apply st|(apply zk;intro K U)|refine zY ?_|refine zs fun Z hs=>?_|refine zo fun nn hnn Z hs=>?_|fail)<;>conv=>whnf)
 generalize nn=nx at *;refine(MD w us h (a:=f.arg) (p:=[]) (by simp)).use (rest:=[.box nx (F7 f.arg [])]) (hs.perm (Ny _ _)) ?_;clear hs hnn;rintro r post Z ⟨es1,e1,got,rfl,rfl⟩ hs;have hek:=got.k;obtain⟨hea,hep⟩:=Gg.1 got.is;obtain⟨pre,post,rfl⟩:=List.append_of_mem got.mem;replace hs:=H4 (X:=[.box nx (F7 f.arg [])]) (hs.perm NF);cases hnd:e1.k.Ab<;>rw[hnd]at hs
 all_goals
  conv=>whnf
  repeat'((first|clear U K|apply st|(apply zk;intro K U)|refine zY ?_|refine zs fun Z hs=>?_|fail)<;>conv=>whnf)
  obtain⟨e2,es2,hA,hB,hC⟩: ∃(e2:Bx) (es2:List Bx),(Bp (fun a p=>Dn f c 0 a p (kf a p)) es2/\e2∈es2/\e2.is f.arg (f.path.take 0)=true)/\e2.b=e1.b/\Sat Z (.box nx (F7 f.arg (f.path.take 0))::CD L es2):=by
   refine⟨⟨e1.a,e1.p,e1.b,e1.vn,e1.vs,Bt e1.k c⟩,_,⟨(got.inv.change e1.b e1.vn e1.vs (Bt e1.k c)).congr fun a p=>?_,Lu _ (.head _),got.is⟩,rfl,?_⟩
   .rw[nH,NL,hea,hep,hek]
    by_cases ha:a=f.arg/\p= []
    .rw[if_pos ha,if_pos ha,ha.1,ha.2]
    .rw[if_neg ha,if_neg ha]
   .refine Em (X:=[.box nx (F7 f.arg [])]) (e:=e1) rfl rfl rfl ?_
    first
     | (rw[Ki c hnd];exact hs)
     | (rw[Iy c hnd];exact hs)
  rw[<-hB];clear hs hnd got hek hea hep;refine Ba f.path.length (fun j (x:List Bx×Bx)=>[(31,eI (Au j)),(5,.p x.2.b 0)]) (fun j x=> .box nx (F7 f.arg (f.path.take j))::CD L x.1) (fun j x=>Bp (fun a p=>Dn f c j a p (kf a p)) x.1/\x.2∈x.1/\x.2.is f.arg (f.path.take j)=true) (es2,e2) rfl hA hC ?_;clear hA hC;generalize e2.b=b0 at *;clear hB e2 es2;rintro j ⟨es2,e2⟩ Z hj ⟨hinv,hmem,his⟩ hs;simp only at hinv hmem his hs
  have hek:e2.k=Dn f c j f.arg (f.path.take j) (kf f.arg (f.path.take j)):=by
   have:=hinv.val e2 hmem;obtain⟨h1,h2⟩:=Gg.1 his;rw[this,h1,h2]
  have hok:bR (m+1) e2.k:=by rw[hek];exact yX (hb _ _) f c j _ _
  obtain⟨hea,hep⟩:=Gg.1 his;obtain⟨pre2,post2,rfl⟩:=List.append_of_mem hmem;replace hs:=H4 (X:=[.box nx (F7 f.arg (f.path.take j))]) hs;have hck:Au j=j:=AW (by omega);rcases Aw f.path hj with⟨s,hsj,hjlt⟩|hje
  .have hct:=fun b=>CP e2.k.AL b s
   have hk4:=hok.2.2.2;have hsl0:eC e2.k s= {e2.k with AL:=JN e2.k.AL s}:=rfl
   have hne:f.path.take j++[s]≠f.path.take j:=by
    intro e;have:=congrArg List.length e;simp at this
   have hgd:f.path.getD j 0=s:=by rw[Co,hsj];rfl
   have htk:f.path.take (j+1)=f.path.take j++[s]:=AO hsj;cases hcB:e2.k.AL.contains s
   all_goals
    rw[hcB]at hct
    conv=>whnf
    repeat'((first|clear U K|apply st|(apply zk;intro K U)|refine zY ?_|refine zs fun Z hs=>?_|refine aq fun v Z hs hsl=>?_|refine Pure.LO (hct false) (.cons (hs.Ic 2 rfl) (.cons (.refl _) .nil)) rfl ?_|refine Pure.use (PF f.arg (f.path.take j) s (by rw[Ib];omega)) ?_|fail)<;>conv=>whnf)
   refine(ei (.inl hsl)).use (rest:=_) (hs.front (j:=2) rfl) ?_;clear hs;rintro r post Z ⟨rfl,rfl⟩ hs;replace hs:Sat Z (.box e2.b [eI e2.k.low,eI e2.k.high,e2.vn,eU e2.k.BJ,eU e2.k.Dv,.b e2.k.whole,.b e2.k.Ab,v]:: .own e2.vn 1 (iL e2.k.no):: .own v 1 (iL ((e2.k.AL++[s]).mergeSort Hq))::([.box nx (F7 f.arg (f.path.take j))]++H2 L (pre2++e2::post2) pre2 post2)):=hs.perm (Jn _ _ _ _)
   conv=>whnf
   repeat'((first|clear U K|apply st|(apply zk;intro K U)|refine zY ?_|refine zs fun Z hs=>?_|refine Pure.use (PF f.arg (f.path.take j) s (by rw[Ib];omega)) ?_|fail)<;>conv=>whnf)
   have hs3: ∃vs3,Sat Z (.box nx (F7 f.arg (f.path.take j++[s]))::CD L (pre2++⟨e2.a,e2.p,e2.b,e2.vn,vs3,eC e2.k s⟩::post2)):=⟨v,Em (X:=[_]) (e:=e2) rfl rfl rfl (by rw[hsl0,JN,if_neg (by rw[hcB];decide)];exact hs)⟩
   rotate_left
   have hs3: ∃vs3,Sat Z (.box nx (F7 f.arg (f.path.take j++[s]))::CD L (pre2++⟨e2.a,e2.p,e2.b,e2.vn,vs3,eC e2.k s⟩::post2)):=⟨e2.vs,Em (X:=[_]) (e:=e2) rfl rfl rfl (by rw[hsl0,JN,if_pos hcB];exact hs)⟩
   all_goals
    clear hs;obtain⟨vs3,hs⟩:=hs3;have hinv3:=hinv.change e2.b e2.vn vs3 (eC e2.k s);refine(MD w us hinv3 (a:=f.arg) (p:=f.path.take j++[s]) (by rw[Kt,Ib];simp;omega)).use (rest:=[.box nx (F7 f.arg (f.path.take j++[s]))]) (hs.perm (Ny _ _)) ?_;clear hs;rintro r post Z ⟨es4,e4,got,rfl,rfl⟩ hs;have hek4:=got.k;obtain⟨hea4,hep4⟩:=Gg.1 got.is;obtain⟨pre4,post4,rfl⟩:=List.append_of_mem got.mem;replace hs:=H4 (X:=[.box nx (F7 f.arg (f.path.take j++[s]))]) (hs.perm NF);cases hnd:e4.k.Ab<;>rw[hnd]at hs
    all_goals
     conv=>whnf
     repeat'((first|clear U K|apply st|(apply zk;intro K U)|refine zY ?_|refine zs fun Z hs=>?_|fail)<;>conv=>whnf)
     refine⟨hjlt,(pre4++⟨e4.a,e4.p,e4.b,e4.vn,e4.vs,Bt e4.k c⟩::post4,⟨e4.a,e4.p,e4.b,e4.vn,e4.vs,Bt e4.k c⟩),rfl,⟨(got.inv.change e4.b e4.vn e4.vs (Bt e4.k c)).congr fun a p=>?_,Lu _ (.head _),by rw[htk];exact got.is⟩,?_⟩
     .rw[nI f c hjlt,NL,hea4,hep4,htk,hgd]
      by_cases h1:a=f.arg/\p=f.path.take j++[s]
      .rw[if_pos h1,if_pos h1,hek4,NL,hea,hep,if_neg (fun h=>hne h.2),h1.1,h1.2]
      .rw[if_neg h1,if_neg h1,NL,hea,hep]
       by_cases h2:a=f.arg/\p=f.path.take j
       .rw[if_pos h2,if_pos h2,hek,h2.1,h2.2]
       .rw[if_neg h2,if_neg h2]
     .rw[htk]
      refine Em (X:=[.box nx (F7 f.arg (f.path.take j++[s]))]) (e:=e4) rfl rfl rfl ?_
      first
       | (rw[Ki c hnd];exact hs)
       | (rw[Iy c hnd];exact hs)
  .have etk:f.path.take j=f.path:=Ak hje
   rw[etk]at his hs hek hep;refine zz ?_;(repeat clear U K);repeat intro K U
   refine(xA f c l1 l3 hok.1 hok.2.1 (by have:=hok.2.2.1;omega) l4).use (rest:=[.box nx (F7 f.arg f.path)]++H2 L (pre2++e2::post2) pre2 post2) hs ?_;rintro r post Z ⟨rfl,vn',rfl⟩ hs
   conv=>whnf
   repeat'((first|clear U K|apply st|fail)<;>conv=>whnf)
   refine AH ⟨_,⟨rfl,_,(hinv.change e2.b vn' e2.vs (Bs e2.k f c)).congr fun a p=>?_,rfl⟩,(Em (X:=[.box nx (F7 f.arg f.path)]) (e:=e2) (e':=⟨e2.a,e2.p,e2.b,vn',e2.vs,Bs e2.k f c⟩) rfl rfl rfl hs).less (HU _ _)⟩;rw[NL,hea,hep,hek,<-hje];by_cases h1:a=f.arg/\p=f.path
   .rw[if_pos h1,if_pos h1,h1.1,h1.2]
   .rw[if_neg h1,if_neg h1]
def xC (w:AE) (us:List Nat) {kf:Int->List Int->Kn} {L:Nat} {es:List Bx} (h:Bp kf es) (l:Fact) (hl:fS (Ac l).1) {m:Nat} (hm:m<1000) (hb: ∀a p,bR m (kf a p)) :
    BL zP 128 [VB w us L,.a (Ja l)] (CD L es) fun r post=>r= .ret (.t [])/\ ∃es',Bp (fun a p=>Cw a p (kf a p) l) es'/\post=CD L es':=fun Z hs=>
 As.mono (oo w us h (Ac l).1 (Ac l).2 hl hm hb Z hs) fun r Z' ⟨post,⟨h1,es',h2,h3⟩,h4⟩=>⟨post,⟨h1,es',h2.congr fun a p=>(sX a p (kf a p) l).symm,h3⟩,h4⟩
def Nj (ls:List Fact):Prop:= ∀l∈ls,fS (Ac l).1
def gC {ls:List Fact} (h:Nj ls) (a:Int) (p:List Int):bR ls.length (kn ls a p):=by
 have hc:G6 64 ls:=fun l hl ho=>(h l hl).cls ho
 obtain⟨h1,h2⟩:=nP hc a p;obtain⟨h3,h4⟩:=gD a p ls k0;exact⟨by simpa using h1,by simpa using h2,by simpa[kn,k0]using h3,by simpa[kn,k0]using h4⟩
def inv0:Bp (kn []) []:=⟨fun x hx=>(by cases hx),fun a p _=>rfl,.nil,fun x hx=>(by cases hx)⟩
def iw (w:AE) (us:List Nat) (ls:List Fact) (b:Bool) (h:Nj ls) (hlen:ls.length<900) :
    BL zP 81 [.rp (wC w us),.l (Dx ls) b] [] fun r post=> ∃L es,r= .ret (VB w us L)/\Bp (kn ls) es/\post=CD L es:=by
 intro Z hs;have hM:=Mx;refine yz kZ ?_
 conv=>whnf
 repeat'((first|clear U K|apply st|(apply zk;intro K U)|refine zo fun nn hnn Z hs=>?_|fail)<;>conv=>whnf)
 generalize nn=L at *;refine Ba ls.length (fun k (x:List Bx)=>[(14,eI (Au k))]) (fun k x=>CD L x) (fun k x=>Bp (kn (ls.take k)) x) [] rfl inv0 hs ?_;clear hs hnn;rintro k es Z hk hinv hs;rcases Aw ls hk with⟨l,hlk,hlt⟩|hke
 .have hlm:l∈ls:=BY hlk
  have htk:ls.take (k+1)=ls.take k++[l]:=AO hlk;have hbk: ∀a p,bR (ls.take k).length (kn (ls.take k) a p):=gC fun x hx=>h x (List.mem_of_mem_take hx)
  conv=>whnf
  repeat'((first|clear U K|apply st|(apply zk;intro K U)|refine zY ?_|refine zs fun Z hs=>?_|refine zo fun nn hnn Z hs=>?_|fail)<;>conv=>whnf)
  rename_i nb hnb _ hs;generalize nn=n7 at *;refine(xC w us hinv l (h l hlm) (m:=(ls.take k).length) (by rw[Ib];omega) hbk).use (rest:=[.box n7 (Ja l)]) (hs.perm (Ny _ _)) ?_;clear hs;rintro r post Z ⟨rfl,es',hinv',rfl⟩ hs;refine zz ?_;(repeat clear U K);repeat intro K U
  refine⟨hlt,es',rfl,?_,hs.less (List.sublist_append_left _ _)⟩;rw[htk];exact hinv'.congr fun a p=>(nM _ _ _ _).symm
 .have etk:ls.take k=ls:=Ak hke
  rw[etk]at hinv;refine zz ?_;(repeat clear U K);repeat intro K U
  exact AH ⟨_,⟨L,es,rfl,hinv,rfl⟩,hs⟩
end Go.Gl
