import Derived.Test.YtnidfcmdimehdaaGreatW14
import Derived.Test.YtnidfcmdimehdaaGreatW15
import Derived.Test.YtnidfcmdimehdaaGreatW16
import Derived.Test.YtnidfcmdimehdaaGreatW17
import Derived.Test.YtnidfcmdimehdaaGreatW19
set_option linter.all false
set_option linter.defProp false
set_option maxHeartbeats 8000000
noncomputable section
namespace Go.Gl
open Go.Proofs
attribute [local irreducible] Ao Ai AY AO AJ AX AN AP AI AW AK AL Ak Au Sat AT Ar Aa W
def En (p:Prog) (next:Bool) (n size depth:Int) (s:List Int):Option (List Int):=
 if n<0\/(p.nodes.length:Int)<=n\/0<=s.getD n.toNat 0\/12<depth then none else
 match p.nodes[n.toNat]? with
 | none=>none
 | some x=>if Fu p next size x then some (s.set n.toNat size)else none
def de {S:Type}:Option S->Rd S
 | some s=> .go s
 | none=> .BV DX
abbrev yJ (y:Int×Int×Int):List V:=[eI y.1,.a [eI y.2.1,eI y.2.2]]
abbrev hOut (nO:Nat) (v:V) (s:List Int):List At:=[.box nO [v],.own v 1 (iL s)]
abbrev dP (p:Prog) (y:Int×Int×Int) (s:List Int):Prop:=0<=y.2.1/\y.2.1<=100/\1<=y.2.2/\y.2.2<=13/\s.length=p.nodes.length
abbrev XU (p:Prog) (L nW:Nat):V:= .f (.func 294) [] [.rp [.f (.yield L) [] []],.rp (Ba p),.p nW 0]
def Xv {p:Prog} {next:Bool} {n size depth:Int} {s s':List Int} (h:En p next n size depth s=some s'):0<=n/\n<(p.nodes.length:Int)/\s.getD n.toNat 0<0/\depth<=12/\ ∃x,p.nodes[n.toNat]? =some x/\Fu p next size x=true/\s'=s.set n.toNat size:=by
 unfold En at h;split at h
 .cases h
 .rename_i hc
  split at h
  .cases h
  .rename_i x hx
   split at h
   .rename_i hok
    simp only[GU]at h;exact⟨by omega,by omega,by omega,by omega,x,hx,hok,h.symm⟩
   .cases h
def Xu {p:Prog} {next:Bool} {d:Nat} {n size depth:Int} {s:List Int} (hd:depth=13 - (d+1:Nat)) (hd1:1<=depth):C7 p next (d+1) n size s=match En p next n size depth s with
    | none=>none
    | some s'=>match p.nodes[n.toNat]? with
      | none=>none
      | some x=>Js (C7 p next d) x.op size 0 x.kids s':=by
 unfold En;simp only[C7];by_cases h:n<0\/(p.nodes.length:Int)<=n\/0<=s.getD n.toNat 0
 .rw[if_pos h,if_pos (by omega)]
 .rw[if_neg h,if_neg (by omega)]
  cases hx:p.nodes[n.toNat]? with
  | none=>rfl
  | some x=>
    simp only;split
    .rfl
    .rfl
def Xw {p:Prog} {next:Bool} {n size depth:Int} {s:List Int} (hd:12<depth):En p next n size depth s=none:=by
 unfold En;rw[if_pos (by omega)]
def R4 {f:Int->Int->List Int->Option (List Int)} (hf: ∀ {a b s s'},f a b s=some s'->s'.length=s.length) {op size:Int}: ∀(i:Nat) (l:List Int) {s s':List Int},Js f op size i l s=some s'->s'.length=s.length
 | _,[],s,s',h=>by cases h;rfl
 | i,k::r,s,s',h=>by
   simp only[Js]at h;split at h
   .cases h
   .rename_i s1 h1
    exact(R4 hf (i+1) r h).trans (hf h1)
def JK {p:Prog} {next:Bool}: ∀(d:Nat) {n size:Int} {s s':List Int},C7 p next d n size s=some s'->s'.length=s.length
 | 0,_,_,_,_,h=>by cases h
 | d + 1,n,size,s,s',h=>by
   simp only[C7]at h;split at h
   .cases h
   .split at h
    .cases h
    .split at h
     .exact(R4 (fun h=>JK d h) 0 _ h).trans (by simp)
     .cases h
def lF (p : Prog) (next:Bool) {L:Nat} {E:Env} {ok:FuncId->Array Tmp->Code->Code->Nat->Prop} {v:V} {nO:Nat}
    (hY:Mn zP L E ok yJ (hOut nO v) (fun s=>s.length=p.nodes.length) (fun y s=>de (En p next y.1 y.2.1 y.2.2 s)) (dP p)) :
    ∀ d : Nat,d<=12-> ∀(n size depth:Int) (s:List Int),depth=13 - d->0<=size->size+d<=100->s.length=p.nodes.length-> ∀(nW:Nat) (rest:List At) (Z:AE),
      Sat Z (.obj L (.loop .ready E ok)::(hOut nO v s++(.box nW [XU p L nW]::rest)))->
      Ao zP 294 [eI n,.a [eI size,eI depth],.rp [.f (.yield L) [] []],.rp (Ba p),.p nW 0] Z
       (kU L E ok (hOut nO v) (fun s=>s.length=p.nodes.length) (.box nW [XU p L nW]::rest) (.b true) (.b false) (de (C7 p next d n size s))):=by
 intro d
 induction d with
 | zero=>
   intro _ n size depth s hd h0 h1 hl nW rest Z hs;refine fm kZ ?_;refine zz ?_;(repeat clear U K);repeat intro K U
   refine hY.use (y:=(n,size,depth)) (s:=s) ⟨h0,(by dsimp only;omega),(by dsimp only;omega),(by dsimp only;omega),hl⟩ hs ?_;rw[Xw (by dsimp only;omega)];rintro r Z' ⟨rfl,s',hj,hs'⟩
   conv=>whnf
   repeat'((first|clear U K|apply st|fail)<;>conv=>whnf)
   exact C2 ⟨rfl,s',hj,hs'⟩
 | succ d ih =>
   intro hd12 n size depth s hd h0 h1 hl nW rest Z hs;refine Ao.fit (by kernel_rfl) fun hf=>?_
   have hM:=Mx
   have hfp:E9 (.a (Ba p)):=by
    have:=hf.2.2.2.1;simp only[Tx]at this;simpa only[KF]using this
   have⟨p1,p2,p3,p4⟩:=O6 hfp;refine fm kZ ?_;refine zz ?_;(repeat clear U K);repeat intro K U
   refine hY.use (y:=(n,size,depth)) (s:=s) ⟨h0,(by dsimp only;omega),(by dsimp only;omega),(by dsimp only;omega),hl⟩ hs ?_;have hw:=Xu (p:=p) (next:=next) (n:=n) (size:=size) (s:=s) hd (by omega);cases hv:En p next n size depth s with
   | none=>
     rw[hv]at hw;rintro r Z' ⟨rfl,s',hj,hs'⟩
     conv=>whnf
     repeat'((first|clear U K|apply st|fail)<;>conv=>whnf)
     refine C2 ?_;rw[hw];exact⟨rfl,s',hj,hs'⟩
   | some s1 =>
     obtain⟨g0,g1,g2,g3,x,hx,hok,hs1⟩:=Xv hv;rw[hv]at hw;simp only[hx]at hw;have hl1:s1.length=p.nodes.length:=by rw[hs1];simpa using hl
     have hkm:=r6 hfp (Dn hx);clear hv hs1;rintro r Z1 ⟨rfl,hs⟩;refine zz ?_;(repeat clear U K);repeat intro K U
     refine Du x.kids.length (fun k (_:List Int)=>[(23,eI (Bj k))]) (fun _ s'=> .obj L (.loop .ready E ok)::(hOut nO v s'++(.box nW [XU p L nW]::rest))) (fun k s'=>s'.length=p.nodes.length/\C7 p next (d+1) n size s=Js (C7 p next d) x.op size k (x.kids.drop k) s') s1 rfl ⟨hl1,by simpa using hw⟩ hs ?_;clear hs hw;rintro k s' Z hk ⟨hl',hkids⟩ hs;rcases BJ x.kids hk with⟨kid,hkid,hlt⟩|hke
     .have hck:Bj k=k:=Av (by omega)
      rw[drop_cons hkid,Js]at hkids;have e0:IntKind.i64.wrap (depth+1)=depth+1:=wrap64 (by omega) (by omega);have e1:IntKind.i64.wrap (size+1)=size+1:=wrap64 (by omega) (by omega)
      have hrec: ∀(sz:Int) (Z:AE) (l:List At),0<=sz->sz+d<=100->Sat Z (l++(.obj L (.loop .ready E ok)::(hOut nO v s'++(.box nW [XU p L nW]::rest))))->Ak zP (XU p L nW) [eI kid,.a [eI sz,eI (depth+1)]] Z
       (kU L E ok (hOut nO v) (fun s=>s.length=p.nodes.length) (.box nW [XU p L nW]::rest) (.b true) (.b false) (de (C7 p next d kid sz s'))):=fun sz Z l h0 h1 hs=>
       Ay (ih (by omega) kid sz (depth+1) s' (by omega) h0 h1 hl' nW rest Z (hs.less (List.sublist_append_right _ _)))
      conv=>whnf
      repeat'((first|clear U K|apply st|(apply zk;intro K U)|refine zY ?_|refine zs fun Z hs=>?_|(refine zd (fun hc=>?_) (fun hc=>?_)<;>try exact⟨⟩)|refine zo fun nn hnn Z hs=>?_|fail)<;>conv=>whnf)
      all_goals
       simp only[e0,e1]
       first
        | rw[if_pos (by omega)]at hkids
          refine(hrec (size+1) _ [_] (by omega) (by omega) hs).mono ?_
        | rw[if_neg (by omega)]at hkids
          refine(hrec size _ [_] (by omega) (by omega) hs).mono ?_
       cases hw:C7 p next d kid _ s' with
       | none=>
         rw[hw]at hkids;rintro r Z' ⟨rfl,s',hj,hs'⟩
         conv=>whnf
         repeat'((first|clear U K|apply st|fail)<;>conv=>whnf)
         refine C2 ?_;rw[hkids];exact⟨rfl,s',hj,hs'⟩
       | some s2=>
         rw[hw]at hkids;rintro r Z' ⟨rfl,hs'⟩;refine zz ?_;(repeat clear U K);repeat intro K U
         exact⟨hlt,s2,rfl,⟨(JK _ hw).trans hl',hkids⟩,hs'⟩
     .rw[BS hke,Js]at hkids
      refine zz ?_;(repeat clear U K);repeat intro K U
      refine AH ?_;rw[hkids];exact⟨rfl,hs⟩
def pj {a b:Nat} {A B:Prop} (e:a=b) (h:A):(a=b->A)/\(a≠b->B):=⟨fun _=>h,fun n=>absurd e n⟩
def yR {a b:Nat} {A B:Prop} (e:a≠b) (h:B):(a=b->A)/\(a≠b->B):=⟨fun n=>absurd n e,fun _=>h⟩
def gj {P:Program} {Z:AE} {tab:List (TypeId×FuncId)} {t:TypeId} {f:FuncId} {v:V} {args:List V} {Q:R->AE->Prop} (h:look t tab=some f) (hc:Ao P f (v::args) Z Q):Au P tab (.Ee t v) args Z Q:=by
 unfold Au;simp only[h];exact hc
def jt (p:Prog) (n size depth:Int):Pure zP 247 [.a (Ba p),eI n,.a [eI size,eI depth]] (.f (.func 293) [] [.rp (Ba p),.rp [eI n],.rp [eI size,eI depth]]):=by
 refine s7 kZ ?_;have hs:=Sn;exact zW
def ry (p:Prog) (next:Bool) {L:Nat} {E:Env} {ok:FuncId->Array Tmp->Code->Code->Nat->Prop} {v:V} {nO:Nat}
    (hY:Mn zP L E ok yJ (hOut nO v) (fun s=>s.length=p.nodes.length) (fun y s=>de (En p next y.1 y.2.1 y.2.2 s)) (dP p)) (n size:Int) (s:List Int) (h0:0<=size) (h1:size<=20) (hl:s.length=p.nodes.length) (rest:List At) (Z:AE)
    (hs : Sat Z (.obj L (.loop .ready E ok)::(hOut nO v s++rest))) :
     Ao zP 293 [.f (.yield L) [] [],.rp (Ba p),.rp [eI n],.rp [eI size,eI 1]] Z
      (kU L E ok (hOut nO v) (fun s=>s.length=p.nodes.length) rest (.t []) (.t []) (de (C7 p next 12 n size s))):=by
 refine sV kZ ?_
 conv=>whnf
 repeat'((first|clear U K|apply st|(apply zk;intro K U)|refine zY ?_|refine zs fun Z hs=>?_|refine zo fun nn hnn Z hs=>?_|fail)<;>conv=>whnf)
 have hp:Sat Z (.obj L (.loop .ready E ok)::(hOut nO v s++(.box nn [XU p L nn]::rest))):=hs.perm (by
  refine(List.Perm.swap _ _ _).trans (.cons _ ?_)
  exact(List.perm_middle (l₁:=hOut nO v s)).symm)
 refine Ay ((lF p next hY 12 (IN _) n size 1 s rfl h0 (by omega) hl nn rest Z hp).mono ?_);cases hw:C7 p next 12 n size s with
 | none=>
   rintro r Z' ⟨rfl,s',hj,hs'⟩
   conv=>whnf
   repeat'((first|clear U K|apply st|fail)<;>conv=>whnf)
   refine C2 ?_;rw[hw];exact⟨rfl,s',hj,hs'.less (List.Sublist.append_left (NJ _ _) _)⟩
 | some s2=>
   rintro r Z' ⟨rfl,hs'⟩
   conv=>whnf
   repeat'((first|clear U K|apply st|fail)<;>conv=>whnf)
   refine AH ?_;rw[hw];exact⟨rfl,hs'.less (.cons₂ _ (List.Sublist.append_left (NJ _ _) _))⟩
def Wk (p:Prog) (x:Node):(x.op=5/\RQ x.op= .Ee 340 (.a []))\/(x.op≠5/\ ∃m:Int,RQ x.op= .Ee 339 (eI m)/\O3 p x=m)\/(RQ x.op= .DT/\O3 p x= -1):=by
 unfold RQ O3;by_cases h5:x.op=5
 .exact .inl ⟨h5,by rw[if_pos h5]⟩
 .rw[if_neg h5]
  split
  .exact .inr (.inl ⟨h5,_,rfl,rfl⟩)
  split
  .exact .inr (.inl ⟨h5,_,rfl,rfl⟩)
  split
  .exact .inr (.inl ⟨h5,_,rfl,rfl⟩)
  split
  .exact .inr (.inl ⟨h5,_,rfl,rfl⟩)
  .exact .inr (.inr ⟨rfl,by rw[if_neg (by rintro⟨h,_⟩;exact h5 h)]⟩)
def Tp {p:Prog} {x:Node} (h:x.op=5) {size:Int} (hn:Su p x size=true):0<=x.n/\x.n<p.Ch.length/\O3 p x=p.Ch.getD x.n.toNat 0:=by
 have h2:0<=x.n/\x.n<p.Ch.length:=by
  simp only[Su,h]at hn;simpa using hn
 refine⟨h2.1,h2.2,?_⟩;unfold O3;rw[h,if_neg (by decide),if_neg (by decide),if_neg (by decide),if_neg (by decide),if_pos ⟨rfl,h2.1,h2.2⟩]
def gx {p:Prog} {next:Bool} {n size depth:Int} {s:List Int} (h:n<0\/(p.nodes.length:Int)<=n\/0<=s.getD n.toNat 0\/12<depth):En p next n size depth s=none:=by
 unfold En;rw[if_pos h]
def gy {p:Prog} {next:Bool} {n size depth:Int} {s:List Int} {y:Int} {x:Node} (h0:0<=n) (h1:n<(p.nodes.length:Int)) (hy:s[n.toNat]? =some y) (hy0:y<0) (hd:depth<=12) (hx:p.nodes[n.toNat]? =some x):En p next n size depth s=if Fu p next size x then some (s.set n.toNat size)else none:=by
 have e:s.getD n.toNat 0=y:=by rw[Dh,hy];rfl
 unfold En;rw[if_neg (by rw[e];omega),hx]
def xb (p:Prog) (nO:Nat) (v:V) (rest:List At) (o:Option (List Int)) (r:R) (Z:AE):Prop:=
 match o with
 | some s=>r= .ret (.t [])/\Sat Z (hOut nO v s++rest)
 | none=>r= .BV DX/\ ∃s:List Int,s.length=p.nodes.length/\Sat Z (hOut nO v s++rest)
def T2 (p:Prog) (next:Bool) {v:V} {nO:Nat} (hv:(CQ v).isSome=true) (n size:Int) (s:List Int) (h0:0<=size) (h1:size<=20) (hl:s.length=p.nodes.length) (rest:List At) (Z:AE) (hs:Sat Z (hOut nO v s++rest)) :
    Ao zP 246 [eI n,eI size,.b next,.rp (Ba p),.p nO 0] Z (xb p nO v rest (C7 p next 12 n size s)):=by
 refine Ao.fit (by kernel_rfl) fun hf=>?_
 have hM:=Mx
 have hfp:E9 (.a (Ba p)):=by
  have:=hf.2.2.2.1;simp only[Tx]at this;simpa only[KF]using this
 have⟨p1,p2,p3,p4⟩:=O6 hfp;refine s8 kZ ?_
 conv=>whnf
 repeat'((first|clear U K|apply st|(apply zk;intro K U)|refine zY ?_|refine Pure.use (jt _ _ _ _) ?_|refine zo fun nn hnn Z hs=>?_|fail)<;>conv=>whnf)
 refine Ao.mono (ry p next (L:=nn) (v:=v) (nO:=nO) ?_ n size s h0 h1 hl rest Z hs) ?_
 .refine Na (fun y=>rfl) ?_
  clear hs hnn hl h0 h1;rintro⟨k,sz,dp⟩ s ⟨d0,d1,d2,d3,hl⟩ rest Z hs;dsimp only at d0 d1 d2 d3 hl;dsimp only;rw[show yJ (k,sz,dp)= [eI k,.a [eI sz,eI dp]] from rfl]
  conv=>whnf
  repeat'((first|apply st|(apply sq;intro K U)|(apply si;intro A B hA hB)|(refine hA _ _ ?_;clear hB B hA A)|(refine hB _ _ _ ?_;clear hB B hA A)|(refine hB _ _ fun Z hsub=>?_;clear hB B hA A)|(apply U;clear U K)|apply dr|refine rk ?_ ?_|exact fun s e=>by cases e;rfl|refine⟨rfl,?_⟩|refine⟨kZ,?_⟩|refine iq fun x hx=>?_|refine ld ?_|refine kD fun Z hs=>?_|refine oi ?_|refine ol fun x hx=>?_|refine oset fun Z hs=>?_|refine xr ?_|refine xu ?_|(refine Ca (fun hc=>?_) (fun hc=>?_)<;>(replace hc:=bp hc)<;>(try simp(disch:=omega) only[C4,wrap64,Av]at hc)<;>(try(cases hc;done)))|refine Pure.use (bW _ _ _) ?_|refine Pure.use (bg _) ?_|(rcases Wk p (by assumption)with⟨e5,ek⟩|⟨e5,m,ek,hm⟩|⟨ek,hm⟩<;>rw[ek]<;>clear ek)|refine pj rfl ?_|refine yR (by decide) ?_|refine gj rfl (Pure.use (wF _ _ _) ?_)|refine gj rfl (Pure.use (oB _ _ (Tp (by assumption) (by assumption)).1 (Tp (by assumption) (by assumption)).2.1) ?_)|(constructor<;>intro hc<;>(try rw[hc])<;>(replace hc:=bp hc)<;>(try simp(disch:=omega) only[C4,wrap64,Av]at hc))|(intro nn hnn;generalize hg:Bo _ nn _=Z;refine oQ hg fun hs=>?_;clear hg)|clear U K)<;>conv=>whnf)
  all_goals first
   | (intro hn;refine Rq (s:=s) (by rw[gx (by first|omega|(rw[Dh,‹s[k.toNat]? =some _›];simp only[Option.getD_some];omega))];rfl) hl (hs.less (by repeat first|exact List.Sublist.refl _|apply List.Sublist.cons)) hn)
   | skip
  all_goals
   have hva:=gy (next:=next) (size:=sz) (depth:=dp) (show 0<=k by omega) (show k<(p.nodes.length:Int) by omega) ‹s[k.toNat]? =some _› (by assumption) (by omega) ‹p.nodes[k.toNat]? =some _›
   rename Node=>x
   have hk5:x.op=5->Su p x sz=true->O3 p x=p.Ch.getD x.n.toNat 0:=fun h hn=>(Tp h hn).2.2
   intro hn
  all_goals first
   | (rw[if_neg (by first|(intro h;rw[Fu,hk5 (by assumption) (by assumption)]at h;simp only[A4,Cy]at h;exact absurd h.1 (by assumption))|(simp[Fu, *];done)|(simp[Fu, *];omega)|(rw[Fu,hk5 (by assumption) (by assumption)];simp[*];done)|(simp[Fu, *];intros;omega))]at hva
      refine Rq (s:=s.set k.toNat sz) (by rw[hva];rfl) (by simpa using hl) ?_ hn
      first
       | exact hs.less (by repeat first|exact List.Sublist.refl _|apply List.Sublist.cons)
       | exact(hs.less (by repeat first|exact List.Sublist.refl _|apply List.Sublist.cons)).up (by assumption))
   | (rw[if_pos (by first|(simp[Fu, *];done)|(rw[Fu,hk5 (by assumption) (by assumption)];simp[*];done))]at hva
      exact Vb (s:=s.set k.toNat sz) (by rw[hva];rfl) (hs.less (by repeat first|exact List.Sublist.refl _|apply List.Sublist.cons)) hn)
 .cases hw:C7 p next 12 n size s with
  | none=>
    rintro r Z' ⟨rfl,s',hj,hs'⟩
    conv=>whnf
    exact C2 ⟨rfl,s',hj,hs'⟩
  | some s2=>
    rintro r Z' ⟨rfl,hs'⟩;refine HD hs' fun Z2 hs2=>?_
    conv=>whnf
    exact AH ⟨rfl,hs2⟩
end Go.Gl
namespace Go.Gl
structure Kn where
 low:Int
 high:Int
 no:List Int
 BL:Nat
 DS:Nat
 whole:Bool
 Ad:Bool
 AF:List Int
def k0:Kn:=⟨-1000000000,1000000000,[],0,0,false,false,[]⟩
def IJ (l:List Int) (s:Int):List Int:=if l.contains s then l else(l++[s]).mergeSort Gq
def Bl (k:Kn) (f:Fact) (b:Bool):Kn:=
 if f.op=2 then(if b then {k with DS:=k.DS|||2 ^ f.cls.toNat}else {k with BL:=k.BL|||2 ^ f.cls.toNat})
 else if f.op=3 then(if b then {k with low:=if f.n > k.low then f.n else k.low}else {k with high:=if f.n - 1<k.high then f.n - 1 else k.high,whole:=true})
 else if b then {k with no:=k.no++[f.n]}else {k with low:=if f.n > k.low then f.n else k.low,high:=if f.n<k.high then f.n else k.high,whole:=true}
def Bm (k:Kn) (b:Bool):Kn:={k with Ad:=k.Ad|| !b}
def dR (k:Kn) (s:Int):Kn:={k with AF:=IJ k.AF s}
def Cd (a:Int) (p:List Int) (k:Kn) (l:Fact):Kn:=
 if(Ag l).1.arg=a/\BY (Ag l).1.path p=true then
  (if(Ag l).1.path=p then Bl (Bm k (Ag l).2) (Ag l).1 (Ag l).2 else dR (Bm k (Ag l).2) ((Ag l).1.path.getD p.length 0))
 else k
def kn (ls:List Fact) (a:Int) (p:List Int):Kn:=ls.foldl (Cd a p) k0
def Ko (k:Kn) (f:Fact) (b:Bool):(Bl k f b).Ad=k.Ad:=by
 unfold Bl
 (repeat' split)<;>rfl
def Hb (k:Kn) (f:Fact) (b:Bool):(Bl k f b).AF=k.AF:=by
 unfold Bl
 (repeat' split)<;>rfl
def UA (a:Int) (p:List Int) (k:Kn) (l:Fact):(Cd a p k l).Ad=(k.Ad|| !((Ag l).2|| !((Ag l).1.arg==a&&BY (Ag l).1.path p))):=by
 unfold Cd;split
 .rename_i h
  have e:((Ag l).1.arg==a)=true:=by simpa using h.1
  rw[e,h.2];split
  .rw[Ko];simp[Bm]
  .simp[dR,Bm]
 .rename_i h
  have:((Ag l).1.arg==a&&BY (Ag l).1.path p)=false:=by
   cases hb:((Ag l).1.arg==a&&BY (Ag l).1.path p)with
   | false=>rfl
   | true=>rw[A4]at hb;exact absurd ⟨by simpa using hb.1,hb.2⟩ h
  rw[this];simp
def MA (a:Int) (p:List Int): ∀(ls:List Fact) (k:Kn),(ls.foldl (Cd a p) k).Ad=(k.Ad|| !EP ls a p)
 | [],k=>by simp[EP]
 | l::r,k=>by
   rw[List.foldl_cons,MA a p r,UA];simp only[EP,W5];generalize (r.all _)=x;generalize ((Ag l).2||_)=y;cases k.Ad<;>cases x<;>cases y<;>rfl
def JR (ls:List Fact) (a:Int) (p:List Int):(kn ls a p).Ad= !EP ls a p:=by rw[kn,MA];rfl
def Sc (l:List Int) (s x:Int):x∈IJ l s↔x∈l\/x=s:=by
 unfold IJ;split
 .rename_i h
  rw[List.contains_iff_mem]at h;constructor
  .exact .inl
  .rintro(h'|rfl)
   .exact h'
   .exact h
 .rw[(List.mergeSort_perm _ Gq).mem_iff];simp
def UI {l:List Int} (s:Int) (h:l.Pairwise (· < ·)):(IJ l s).Pairwise (· < ·):=by
 unfold IJ;split
 .exact h
 .rename_i hc
  have hc':s∉l:=by simpa using hc
  have hp:=List.mergeSort_perm (l++[s]) Gq;have h1:((l++[s]).mergeSort Gq).Pairwise (fun a b=>Gq a b=true):=List.pairwise_mergeSort (fun a b c=>by simp only[Gq,CT];omega) (fun a b=>by simp only[Gq,Ek,CT];omega) _
  have h2:((l++[s]).mergeSort Gq).Nodup:=hp.nodup_iff.2 (by
   rw[List.nodup_append];refine⟨h.imp fun hab=>by omega,by simp,fun a ha b hb=>?_⟩;simp only[MG]at hb;rintro rfl
   exact hc' (hb ▸ ha))
  exact(h1.and h2).imp fun⟨h3,h4⟩=>by
   simp only[Gq,CT]at h3;omega
def KX: ∀ {l m:List Int},l.Pairwise (· < ·)->m.Pairwise (· < ·)->(∀x,x∈l↔x∈m)->l=m
 | [],[],_,_,_=>rfl
 | [],y::m,_,_,h=>absurd ((h y).2 (.head _)) (by simp)
 | x::l,[],_,_,h=>absurd ((h x).1 (.head _)) (by simp)
 | x ::l,y::m,h1,h2,h=>by
   rw[List.pairwise_cons]at h1 h2
   have hxy:x=y:=by
    rcases FR.1 ((h x).1 (.head _))with e|hx
    .exact e
    .rcases FR.1 ((h y).2 (.head _))with e|hy
     .exact e.symm
     .have:=h1.1 y hy
      have:=h2.1 x hx;omega
   subst hxy;congr 1;refine KX h1.2 h2.2 fun z=>?_
   constructor
   .intro hz
    rcases FR.1 ((h z).1 (.tail _ hz))with e|hz'
    .have:=h1.1 z hz;omega
    .exact hz'
   .intro hz
    rcases FR.1 ((h z).2 (.tail _ hz))with e|hz'
    .have:=h2.1 z hz;omega
    .exact hz'
def Bn {path pre:List Int}:BY path pre=true↔ ∃t,path=pre++t:=by
 simp only[BY,A4,CT,Cy];constructor
 .rintro⟨_,h⟩
  exact⟨path.drop pre.length,by conv=>lhs;rw[<-List.take_append_drop pre.length path,h]⟩
 .rintro⟨t,rfl⟩
  simp
def Wz {path p:List Int} {s:Int}:BY path (p++[s])=true↔BY path p=true/\path≠p/\path.getD p.length 0=s:=by
 rw[Bn,Bn];constructor
 .rintro⟨t,rfl⟩
  refine⟨⟨s::t,by simp⟩,fun e=>?_,by simp⟩;have:=congrArg List.length e;simp at this
 .rintro⟨⟨t,rfl⟩,hne,hs⟩
  cases t with
  | nil=>simp at hne
  | cons y t=>simp at hs;subst hs;exact⟨t,by simp⟩
def Zd {a:Int} {p:List Int} {s:Int} {l:Fact}:oN a p s l=true↔(Ag l).1.arg=a/\BY (Ag l).1.path p=true/\(Ag l).1.path≠p/\(Ag l).1.path.getD p.length 0=s:=by
 rw[oN,A4,Wz,Cy]
def Wm (a:Int) (p:List Int) (k:Kn) (l:Fact):(Cd a p k l).AF=if(Ag l).1.arg=a/\BY (Ag l).1.path p=true/\(Ag l).1.path≠p then IJ k.AF ((Ag l).1.path.getD p.length 0)else k.AF:=by
 unfold Cd;by_cases h1:(Ag l).1.arg=a/\BY (Ag l).1.path p=true
 .rw[if_pos h1]
  by_cases h2:(Ag l).1.path=p
  .rw[if_pos h2,if_neg (fun h=>h.2.2 h2),Hb];rfl
  .rw[if_neg h2,if_pos ⟨h1.1,h1.2,h2⟩];rfl
 .rw[if_neg h1,if_neg (fun h=>h1 ⟨h.1,h.2.1⟩)]
def QS (a:Int) (p:List Int): ∀(ls:List Fact) (k:Kn),k.AF.Pairwise (· < ·)->(ls.foldl (Cd a p) k).AF.Pairwise (· < ·)/\ ∀s,s∈(ls.foldl (Cd a p) k).AF↔s∈k.AF\/ls.any (oN a p s)=true
 | [],k,h=>⟨h,fun s=>by simp⟩
 | l ::r,k,h=>by
   rw[List.foldl_cons];have e:=Wm a p k l
   have h1:(Cd a p k l).AF.Pairwise (· < ·):=by
    rw[e];split
    .exact UI _ h
    .exact h
   obtain⟨i1,i2⟩:=QS a p r _ h1;refine⟨i1,fun s=>?_⟩;rw[i2,e,Qj,Ek,Zd];split
   .rename_i hc
    rw[Sc];constructor
    .rintro((h|rfl)|h)
     .exact .inl h
     .exact .inr (.inl ⟨hc.1,hc.2.1,hc.2.2,rfl⟩)
     .exact .inr (.inr h)
    .rintro(h|⟨-,-,-,h⟩|h)
     .exact .inl (.inl h)
     .exact .inl (.inr h.symm)
     .exact .inr h
   .rename_i hc
    constructor
    .rintro(h|h)
     .exact .inl h
     .exact .inr (.inr h)
    .rintro(h|⟨q1,q2,q3,-⟩|h)
     .exact .inl h
     .exact absurd ⟨q1,q2,q3⟩ hc
     .exact .inr h
def Gb (n:Nat) (ls:List Fact):Prop:= ∀l∈ls,∀s∈(Ag l).1.path,(0:Int)<=s/\s<n
def Ck {n:Nat} {s:Int}:s∈BT n↔0<=s/\s<n:=by
 simp only[BT,H8,List.mem_range];constructor
 .rintro⟨m,hm,rfl⟩
  exact⟨Int.natCast_nonneg m,by simpa using hm⟩
 .rintro⟨h0,h1⟩
  exact⟨s.toNat,by omega,by simp;omega⟩
def Jx (n:Nat):(BT n).Pairwise (· < ·):=by
 rw[BT,List.pairwise_map];exact List.pairwise_lt_range.imp fun h=>by simpa using h
def rn {n:Nat} {ls:List Fact} (h:Gb n ls) {a:Int} {p:List Int} {s:Int} {l:Fact} (hl:l∈ls) (hg:oN a p s l=true):0<=s/\s<n:=by
 rw[Zd]at hg;obtain⟨-,h2,h3,h4⟩:=hg;obtain⟨t,ht⟩:=Bn.1 h2;refine h l hl s ?_;rw[ht]at h3 h4 ⊢;cases t with
 | nil=>simp at h3
 | cons y t=>simp at h4;subst h4;simp
def Iv {n:Nat} {ls:List Fact} (h:Gb n ls) (a:Int) (p:List Int):(kn ls a p).AF=CX n ls a p:=by
 obtain⟨h1,h2⟩:=QS a p ls k0 .nil;refine KX h1 ((Jx n).filter _) fun s=>?_
 show s∈(ls.foldl (Cd a p) k0).AF↔_;rw[h2,CX,Kv,Ck];constructor
 .rintro(h|hs)
  .cases h
  .obtain⟨l,hl,hg⟩:=GF.1 hs
   exact⟨rn h hl hg,hs⟩
 .exact fun hs=> .inr hs.2
def Dq (os:List Fact) (k:Kn):Kn:=os.foldl (fun k l=>Bl k (Ag l).1 (Ag l).2) k
abbrev C9 (k:Kn):Int×Int×List Int×Nat×Nat×Bool:=(k.low,k.high,k.no,k.BL,k.DS,k.whole)
def Pu {k k':Kn} (h:C9 k=C9 k') (f:Fact) (b:Bool):C9 (Bl k f b)=C9 (Bl k' f b):=by
 cases k;cases k';simp only[C9,Prod.mk.injEq]at h;obtain⟨rfl,rfl,rfl,rfl,rfl,rfl⟩:=h;unfold Bl
 (repeat' split)<;>rfl
def I1 (p:List Int):BY p p=true:=Bn.2 ⟨[],by simp⟩
def cZ (a:Int) (p:List Int) (k:Kn) (l:Fact):C9 (Cd a p k l)=if Jk a p l then C9 (Bl k (Ag l).1 (Ag l).2)else C9 k:=by
 unfold Cd Jk;by_cases h1:(Ag l).1.arg=a
 .by_cases h2:(Ag l).1.path=p
  .have e:((Ag l).1.arg==a&&(Ag l).1.path==p)=true:=by simp[h1,h2]
   rw[if_pos ⟨h1,by rw[h2];exact I1 p⟩,if_pos h2,e,if_pos rfl];exact Pu (k:=Bm k (Ag l).2) (k':=k) rfl _ _
  .have e:((Ag l).1.arg==a&&(Ag l).1.path==p)=false:=by simp[h2]
   rw[if_neg h2,e,if_neg Bool.false_ne_true];split<;>rfl
 .have e:((Ag l).1.arg==a&&(Ag l).1.path==p)=false:=by simp[h1]
  rw[if_neg (fun h=>h1 h.1),e,if_neg Bool.false_ne_true]
def NB (a:Int) (p:List Int): ∀(ls:List Fact) (k k':Kn),C9 k=C9 k'->C9 (ls.foldl (Cd a p) k)=C9 (Dq (ls.filter (Jk a p)) k')
 | [],k,k',h=>h
 | l ::r,k,k',h=>by
   rw[List.foldl_cons,List.filter_cons];have e:=cZ a p k l;split
   .rename_i ho
    rw[if_pos ho]at e;exact NB a p r _ _ (e.trans (Pu h _ _))
   .rename_i ho
    rw[if_neg (by simpa using ho)]at e;exact NB a p r _ _ (e.trans h)
def LK (ls:List Fact) (a:Int) (p:List Int):C9 (kn ls a p)=C9 (Dq (ls.filter (Jk a p)) k0):=NB a p ls k0 k0 rfl
def pZ (x:Fact×Bool):Bool:= !(x.1.op==2)||(decide (x.1.cls > 1)==x.2)
def bB (x:Fact×Bool) (k:Kn):Uv x (k.low,k.high,k.no)=if pZ x then some ((Bl k x.1 x.2).low,(Bl k x.1 x.2).high,(Bl k x.1 x.2).no)else none:=by
 unfold Uv pZ Bl;by_cases h2:x.1.op=2
 .rw[if_pos h2,if_pos h2]
  cases x.2<;>cases decide (x.1.cls > 1)<;>simp[h2]
 .rw[if_neg h2,if_neg h2]
  by_cases h3:x.1.op=3
  .rw[if_pos h3,if_pos h3]
   cases x.2<;>simp[h2]
  .rw[if_neg h3,if_neg h3]
   cases x.2<;>simp[h2]
def SI: ∀(os:List Fact) (k:Kn),foldI os (k.low,k.high,k.no)=if os.all (fun l=>pZ (Ag l))then some ((Dq os k).low,(Dq os k).high,(Dq os k).no)else none
 | [],k=>rfl
 | l ::r,k=>by
   rw[foldI,bB,W5];cases hb:pZ (Ag l)with
   | false=>rfl
   | true=>
     rw[if_pos rfl,Option.bind_some,SI r,Ed];rfl
def jw (k:Kn) (f:Fact) (c:Bool) (b:Nat):(Bl k f c).BL.testBit b=(k.BL.testBit b||(f.op==2&& !c&&f.cls.toNat==b)):=by
 unfold Bl;by_cases h2:f.op=2
 .rw[if_pos h2]
  cases c<;>simp[h2,Nat.testBit_or,Nat.testBit_two_pow,Bool.beq_eq_decide_eq]
 .rw[if_neg h2]
  have:(f.op==2)=false:=by simpa using h2
  rw[this]
  repeat' split
  all_goals simp
def n9 (k:Kn) (f:Fact) (c:Bool) (b:Nat):(Bl k f c).DS.testBit b=(k.DS.testBit b||(f.op==2&&c&&f.cls.toNat==b)):=by
 unfold Bl;by_cases h2:f.op=2
 .rw[if_pos h2]
  cases c<;>simp[h2,Nat.testBit_or,Nat.testBit_two_pow,Bool.beq_eq_decide_eq]
 .rw[if_neg h2]
  have:(f.op==2)=false:=by simpa using h2
  rw[this]
  repeat' split
  all_goals simp
def cu (k:Kn) (f:Fact) (c:Bool):(Bl k f c).whole=(k.whole||(!c&& !(f.op==2))):=by
 unfold Bl;by_cases h2:f.op=2
 .rw[if_pos h2]
  cases c<;>simp[h2]
 .rw[if_neg h2]
  have:(f.op==2)=false:=by simpa using h2
  rw[this];cases c<;>(repeat' split)<;>simp_all
def NF: ∀(os:List Fact) (k:Kn) (b:Nat),(Dq os k).BL.testBit b=(k.BL.testBit b||os.any fun l=>(Ag l).1.op==2&& !(Ag l).2&&(Ag l).1.cls.toNat==b)
 | [],k,b=>by simp[Dq]
 | l::r,k,b=>by
   have:=NF r (Bl k (Ag l).1 (Ag l).2) b;rw[jw]at this;rw[Qj,<-Bool.or_assoc,<-this];rfl
def Px: ∀(os:List Fact) (k:Kn) (b:Nat),(Dq os k).DS.testBit b=(k.DS.testBit b||os.any fun l=>(Ag l).1.op==2&&(Ag l).2&&(Ag l).1.cls.toNat==b)
 | [],k,b=>by simp[Dq]
 | l::r,k,b=>by
   have:=Px r (Bl k (Ag l).1 (Ag l).2) b;rw[n9]at this;rw[Qj,<-Bool.or_assoc,<-this];rfl
def Kp: ∀(os:List Fact) (k:Kn),(Dq os k).whole=(k.whole||os.any fun l=> !(Ag l).2&& !((Ag l).1.op==2))
 | [],k=>by simp[Dq]
 | l::r,k=>by
   have:=Kp r (Bl k (Ag l).1 (Ag l).2);rw[cu]at this;rw[Qj,<-Bool.or_assoc,<-this];rfl
def Gs (m up:Nat):Bool:=(List.range 64).all fun b=> !m.testBit b||up.testBit b
def LX {m up:Nat} (hm:m<2 ^ 64):Gs m up=true↔ ∀b,m.testBit b=true->up.testBit b=true:=by
 simp only[Gs,DR,List.mem_range,Ek,Bool.not_eq_true'];constructor
 .intro h b hb
  have hlt:b<64:=by
   rcases Nat.lt_or_ge b 64 with h'|h'
   .exact h'
   .rw[Nat.testBit_lt_two_pow (Nat.lt_of_lt_of_le hm (Nat.pow_le_pow_right (by decide) h'))]at hb;cases hb
  rcases h b hlt with h'|h'
  .rw[hb]at h';cases h'
  .exact h'
 .intro h b _
  cases hb:m.testBit b with
  | false=>exact .inl rfl
  | true=>exact .inr (h b hb)
def Ls {m n:Nat}:(m&&&n==0)=true↔ ∀b,m.testBit b=true->n.testBit b=true->False:=by
 rw[Cy];constructor
 .intro h b h1 h2
  have:=congrArg (fun x=>x.testBit b) h;simp[Nat.testBit_and,h1,h2]at this
 .intro h
  refine Nat.eq_of_testBit_eq fun b=>?_
  rw[Nat.testBit_and,Nat.zero_testBit];cases h1:m.testBit b with
  | false=>rfl
  | true=>
    cases h2:n.testBit b with
    | false=>rfl
    | true=>exact(h b h1 h2).elim
def TQ (c b:Nat):(1|||2 ^ c).testBit b=(b==0||b==c):=by
 rw[Nat.testBit_or,Nat.testBit_two_pow,show(1:Nat)=2 ^ 0 from rfl,Nat.testBit_two_pow];rw[Gr];simp only[Ek,CT,Cy];omega
def GC (n:Nat) (ls:List Fact):Prop:= ∀l∈ls,(Ag l).1.op=2->0<=(Ag l).1.cls/\(Ag l).1.cls<n
def QJ {m n:Nat} (h: ∀b,m.testBit b=true->b<n):m<2 ^ n:=by
 refine Nat.lt_pow_two_of_testBit _ fun i hi=>?_
 cases hb:m.testBit i with
 | false=>rfl
 | true=>have:=h i hb;omega
def LH {os:List Fact} {n:Nat} (h:GC n os):(Dq os k0).BL<2 ^ n:=QJ fun b hb=>by
 rw[NF]at hb;simp only[k0,Nat.zero_testBit,Bool.false_or,GF,A4,Cy]at hb;obtain⟨l,hl,⟨h2,-⟩,rfl⟩:=hb;have:=h l hl h2;omega
def fL {os:List Fact} {n:Nat} (h:GC n os):(Dq os k0).DS<2 ^ n:=QJ fun b hb=>by
 rw[Px]at hb;simp only[k0,Nat.zero_testBit,Bool.false_or,GF,A4,Cy]at hb;obtain⟨l,hl,⟨h2,-⟩,rfl⟩:=hb;have:=h l hl h2;omega
def Iu {os:List Fact} {b:Nat}:(Dq os k0).BL.testBit b=true↔ ∃l∈os,(Ag l).1.op=2/\(Ag l).2=false/\(Ag l).1.cls.toNat=b:=by
 rw[NF];simp only[k0,Nat.zero_testBit,Bool.false_or,GF,A4,Cy,Bool.not_eq_true',and_assoc]
def Th {os:List Fact} {b:Nat}:(Dq os k0).DS.testBit b=true↔ ∃l∈os,(Ag l).1.op=2/\(Ag l).2=true/\(Ag l).1.cls.toNat=b:=by
 rw[Px];simp only[k0,Nat.zero_testBit,Bool.false_or,GF,A4,Cy,and_assoc]
def bT {os:List Fact} {n:Nat} (hn:n<=64) (h:GC n os):(Gs (Dq os k0).BL (1|||2 ^ 1)&&((Dq os k0).DS&&&(1|||2 ^ 1)==0))=os.all fun l=>pZ (Ag l):=by
 rw[Gr,A4,LX (Nat.lt_of_lt_of_le (LH h) (Nat.pow_le_pow_right (by decide) hn)),Ls];simp only[Iu,Th,TQ,DR,pZ,Ek,Bool.not_eq_true',beq_eq_false_iff_ne,Cy,ne_eq];constructor
 .rintro⟨h1,h2⟩ l hl
  by_cases ho:(Ag l).1.op=2
  .right
   have hc:=h l hl ho;cases hb:(Ag l).2 with
   | false=>
     have:=h1 _ ⟨l,hl,ho,hb,rfl⟩;rw[decide_eq_false_iff_not];omega
   | true=>
     rw[CT];rcases Int.lt_or_le 1 (Ag l).1.cls with hlt|hle
     .exact hlt
     .exact(h2 _ ⟨l,hl,ho,hb,rfl⟩ (by omega)).elim
  .exact .inl ho
 .intro h1
  constructor
  .rintro b ⟨l,hl,ho,hb,rfl⟩
   rcases h1 l hl with h'|h'
   .exact absurd ho h'
   .have hc:=h l hl ho
    rw[hb,decide_eq_false_iff_not]at h';omega
  .rintro b ⟨l,hl,ho,hb,rfl⟩ hu
   rcases h1 l hl with h'|h'
   .exact absurd ho h'
   .have hc:=h l hl ho
    rw[hb,CT]at h';omega
def a8 (x:Fact×Bool):(!RI x)=true↔(x.2=false->x.1.op=2/\(x.1.cls=0\/x.1.cls=2))/\(x.2=true-> ¬(x.1.op=2/\(x.1.cls=0\/x.1.cls=2))):=by
 have e:(x.1.op==2&&(x.1.cls==0||x.1.cls==2))=true↔x.1.op=2/\(x.1.cls=0\/x.1.cls=2):=by
  simp only[A4,Ek,Cy]
 rw[<-e,RI];generalize (x.1.op==2&&(x.1.cls==0||x.1.cls==2))=y;cases x.2<;>cases y<;>simp
def Ra {os:List Fact}:(!(Dq os k0).whole)=true↔ ∀l∈os,(Ag l).2=false->(Ag l).1.op=2:=by
 rw[Kp,Bool.not_eq_true',<-Bool.not_eq_true];simp only[k0,Bool.false_or,GF,A4,Bool.not_eq_true',beq_eq_false_iff_ne];constructor
 .intro h l hl hb
  rcases Classical.em ((Ag l).1.op=2)with e|e
  .exact e
  .exact absurd ⟨l,hl,hb,e⟩ h
 .rintro h ⟨l,hl,hb,e⟩
  exact e (h l hl hb)
def X8 {os:List Fact} {n:Nat} (hn:n<=64) (h:GC n os):(!(Dq os k0).whole&&(Gs (Dq os k0).BL (1|||2 ^ 2)&&((Dq os k0).DS&&&(1|||2 ^ 2)==0)))=os.all fun l=> !RI (Ag l):=by
 rw[Gr,A4,A4,LX (Nat.lt_of_lt_of_le (LH h) (Nat.pow_le_pow_right (by decide) hn)),Ls,Ra,DR];simp only[Iu,Th,TQ,Ek,Cy,a8];constructor
 .rintro⟨h0,h1,h2⟩ l hl
  refine⟨fun hb=>?_,fun hb ⟨ho,hc⟩=>h2 _ ⟨l,hl,ho,hb,rfl⟩ (by omega)⟩;have ho:=h0 l hl hb;have hc:=h l hl ho;have:=h1 _ ⟨l,hl,ho,hb,rfl⟩;exact⟨ho,by omega⟩
 .intro h1
  refine⟨fun l hl hb=>((h1 l hl).1 hb).1,?_,?_⟩
  .rintro b ⟨l,hl,ho,hb,rfl⟩
   have:=((h1 l hl).1 hb).2;omega
  .rintro b ⟨l,hl,ho,hb,rfl⟩ hu
   have hc:=h l hl ho;exact(h1 l hl).2 hb ⟨ho,by omega⟩
def Mt {no:List Int}: ∀(k:Nat) (m:Int),(dX no k m).isSome=true↔ ∃j:Nat,j<k/\m+j∉no
 | 0,m=>by simp[dX]
 | k + 1,m=>by
   rw[dX];split
   .rename_i h
    simp only[Option.isSome_some,true_iff];refine⟨0,by omega,fun hm=>?_⟩;rw[DR]at h;have:=h _ hm;simp at this
   .rename_i h
    rw[Mt k]
    have hm:m∈no:=by
     rcases Classical.em (m∈no)with h'|h'
     .exact h'
     .refine absurd (DR.2 fun x hx=>?_) h
      rw[xg];rintro rfl;exact h' hx
    constructor
    .rintro⟨j,hj,h'⟩
     exact⟨j+1,by omega,by rw[show m+((j+1:Nat):Int)=m+1+j by omega];exact h'⟩
    .rintro⟨j,hj,h'⟩
     cases j with
     | zero=>simp at h';exact absurd hm h'
     | succ j=>exact⟨j,by omega,by rw[show m+1+(j:Int)=m+((j+1:Nat):Int) by omega];exact h'⟩
def iC {low high n:Int} {no:List Int} (h0:low<=n) (h1:n∉no) (h2: ∀m,low<=m->m<n->m∈no):(Uw (low,high,no)).isSome=decide (n<=high):=by
 rw[Gr,Uw,Mt,CT];constructor
 .rintro⟨j,hj,h⟩
  rcases Int.lt_or_le (low+j) n with hlt|hle
  .exact absurd (h2 _ (by omega) hlt) h
  .simp only at hj;omega
 .intro h
  refine⟨(n - low).toNat,by simp only;omega,?_⟩;rw[show low+((n - low).toNat:Int)=n by omega];exact h1
end Go.Gl
