import Derived.Test.YtnidfcmdimehdaaGreatV14
import Derived.Test.YtnidfcmdimehdaaGreatV15
import Derived.Test.YtnidfcmdimehdaaGreatV18
import Derived.Test.YtnidfcmdimehdaaGreatV19
import Derived.Test.YtnidfcmdimehdaaGreatV22
set_option linter.all false
set_option linter.defProp false
set_option maxHeartbeats 8000000
noncomputable section
namespace Go.Gl
open Go.Proofs
attribute [local irreducible] Av An Af AQ AL Ac AP AS AK Ab AN AO As A3 Sat AV A0 Ag W
def FM (p:Prog) (next:Bool) (n size depth:Int) (s:List Int):Option (List Int):=
 if n<0\/(p.nodes.length:Int)<=n\/0<=s.getD n.toNat 0\/12<depth then none else
 match p.nodes[n.toNat]? with
 | none=>none
 | some x=>if EI p next size x then some (s.set n.toNat size)else none
def fX {S:Type}:Option S->Rd S
 | some s=> .go s
 | none=> .Bf D4
abbrev eaP (y:Int×Int×Int):List V:=[eI y.1,.a [eI y.2.1,eI y.2.2]]
abbrev hOut (nO:Nat) (v:V) (s:List Int):List At:=[.box nO [v],.own v 1 (iL s)]
abbrev dP (p:Prog) (y:Int×Int×Int) (s:List Int):Prop:=0<=y.2.1/\y.2.1<=100/\1<=y.2.2/\y.2.2<=13/\s.length=p.nodes.length
abbrev YE (p:Prog) (L nW:Nat):V:= .f (.func 294) [] [.rp [.f (.yield L) [] []],.rp (BT p),.p nW 0]
def Yf {p:Prog} {next:Bool} {n size depth:Int} {s s':List Int} (h:FM p next n size depth s=some s'):0<=n/\n<(p.nodes.length:Int)/\s.getD n.toNat 0<0/\depth<=12/\ ∃x,p.nodes[n.toNat]? =some x/\EI p next size x=true/\s'=s.set n.toNat size:=by
 unfold FM at h;split at h
 .cases h
 .rename_i hc
  split at h
  .cases h
  .rename_i x hx
   split at h
   .rename_i hok
    simp only[Iy]at h;exact⟨by omega,by omega,by omega,by omega,x,hx,hok,h.symm⟩
   .cases h
def Ye {p:Prog} {next:Bool} {d:Nat} {n size depth:Int} {s:List Int} (hd:depth=13 - (d+1:Nat)) (hd1:1<=depth):CQ p next (d+1) n size s=match FM p next n size depth s with
    | none=>none
    | some s'=>match p.nodes[n.toNat]? with
      | none=>none
      | some x=>Fl (CQ p next d) x.op size 0 x.kids s':=by
 unfold FM;simp only[CQ];by_cases h:n<0\/(p.nodes.length:Int)<=n\/0<=s.getD n.toNat 0
 .rw[if_pos h,if_pos (by omega)]
 .rw[if_neg h,if_neg (by omega)]
  cases hx:p.nodes[n.toNat]? with
  | none=>rfl
  | some x=>
    simp only;split
    .rfl
    .rfl
def Yg {p:Prog} {next:Bool} {n size depth:Int} {s:List Int} (hd:12<depth):FM p next n size depth s=none:=by
 unfold FM;rw[if_pos (by omega)]
def Ss {f:Int->Int->List Int->Option (List Int)} (hf: ∀ {a b s s'},f a b s=some s'->s'.length=s.length) {op size:Int}: ∀(i:Nat) (l:List Int) {s s':List Int},Fl f op size i l s=some s'->s'.length=s.length
 | _,[],s,s',h=>by cases h;rfl
 | i,k::r,s,s',h=>by
   simp only[Fl]at h;split at h
   .cases h
   .rename_i s1 h1
    exact(Ss hf (i+1) r h).trans (hf h1)
def KH {p:Prog} {next:Bool}: ∀(d:Nat) {n size:Int} {s s':List Int},CQ p next d n size s=some s'->s'.length=s.length
 | 0,_,_,_,_,h=>by cases h
 | d + 1,n,size,s,s',h=>by
   simp only[CQ]at h;split at h
   .cases h
   .split at h
    .cases h
    .split at h
     .exact(Ss (fun h=>KH d h) 0 _ h).trans (by simp)
     .cases h
def ml (p : Prog) (next:Bool) {L:Nat} {E:Env} {ok:FuncId->Array Tmp->Code->Code->Nat->Prop} {v:V} {nO:Nat}
    (hY:Nv zP L E ok eaP (hOut nO v) (fun s=>s.length=p.nodes.length) (fun y s=>fX (FM p next y.1 y.2.1 y.2.2 s)) (dP p)) :
    ∀ d : Nat,d<=12-> ∀(n size depth:Int) (s:List Int),depth=13 - d->0<=size->size+d<=100->s.length=p.nodes.length-> ∀(nW:Nat) (rest:List At) (Z:AE),
      Sat Z (.obj L (.loop .ready E ok)::(hOut nO v s++(.box nW [YE p L nW]::rest)))->
      Av zP 294 [eI n,.a [eI size,eI depth],.rp [.f (.yield L) [] []],.rp (BT p),.p nW 0] Z
       (mK L E ok (hOut nO v) (fun s=>s.length=p.nodes.length) (.box nW [YE p L nW]::rest) (.b true) (.b false) (fX (CQ p next d n size s))):=by
 intro d
 induction d with
 | zero=>
   intro _ n size depth s hd h0 h1 hl nW rest Z hs;refine iS kZ ?_;refine zz ?_;(repeat clear U K);repeat intro K U
   refine hY.use (y:=(n,size,depth)) (s:=s) ⟨h0,(by dsimp only;omega),(by dsimp only;omega),(by dsimp only;omega),hl⟩ hs ?_;rw[Yg (by dsimp only;omega)];rintro r Z' ⟨rfl,s',hj,hs'⟩
   conv=>whnf
   repeat'((first|clear U K|apply st|fail)<;>conv=>whnf)
   exact DO ⟨rfl,s',hj,hs'⟩
 | succ d ih =>
   intro hd12 n size depth s hd h0 h1 hl nW rest Z hs;refine Av.fit (by kernel_rfl) fun hf=>?_
   have hM:=Mx
   have hfp:FF (.a (BT p)):=by
    have:=hf.2.2.2.1;simp only[Uj]at this;simpa only[Ji]using this
   have⟨p1,p2,p3,p4⟩:=I9 hfp;refine iS kZ ?_;refine zz ?_;(repeat clear U K);repeat intro K U
   refine hY.use (y:=(n,size,depth)) (s:=s) ⟨h0,(by dsimp only;omega),(by dsimp only;omega),(by dsimp only;omega),hl⟩ hs ?_;have hw:=Ye (p:=p) (next:=next) (n:=n) (size:=size) (s:=s) hd (by omega);cases hv:FM p next n size depth s with
   | none=>
     rw[hv]at hw;rintro r Z' ⟨rfl,s',hj,hs'⟩
     conv=>whnf
     repeat'((first|clear U K|apply st|fail)<;>conv=>whnf)
     refine DO ?_;rw[hw];exact⟨rfl,s',hj,hs'⟩
   | some s1 =>
     obtain⟨g0,g1,g2,g3,x,hx,hok,hs1⟩:=Yf hv;rw[hv]at hw;simp only[hx]at hw;have hl1:s1.length=p.nodes.length:=by rw[hs1];simpa using hl
     have hkm:=iM hfp (Cm hx);clear hv hs1;rintro r Z1 ⟨rfl,hs⟩;refine zz ?_;(repeat clear U K);repeat intro K U
     refine Cn x.kids.length (fun k (_:List Int)=>[(23,eI (BR k))]) (fun _ s'=> .obj L (.loop .ready E ok)::(hOut nO v s'++(.box nW [YE p L nW]::rest))) (fun k s'=>s'.length=p.nodes.length/\CQ p next (d+1) n size s=Fl (CQ p next d) x.op size k (x.kids.drop k) s') s1 rfl ⟨hl1,by simpa using hw⟩ hs ?_;clear hs hw;rintro k s' Z hk ⟨hl',hkids⟩ hs;rcases BK x.kids hk with⟨kid,hkid,hlt⟩|hke
     .have hck:BR k=k:=Ae (by omega)
      rw[drop_cons hkid,Fl]at hkids;have e0:IntKind.i64.wrap (depth+1)=depth+1:=wrap64 (by omega) (by omega);have e1:IntKind.i64.wrap (size+1)=size+1:=wrap64 (by omega) (by omega)
      have hrec: ∀(sz:Int) (Z:AE) (l:List At),0<=sz->sz+d<=100->Sat Z (l++(.obj L (.loop .ready E ok)::(hOut nO v s'++(.box nW [YE p L nW]::rest))))->As zP (YE p L nW) [eI kid,.a [eI sz,eI (depth+1)]] Z
       (mK L E ok (hOut nO v) (fun s=>s.length=p.nodes.length) (.box nW [YE p L nW]::rest) (.b true) (.b false) (fX (CQ p next d kid sz s'))):=fun sz Z l h0 h1 hs=>
       BH (ih (by omega) kid sz (depth+1) s' (by omega) h0 h1 hl' nW rest Z (hs.less (List.sublist_append_right _ _)))
      conv=>whnf
      repeat'((first|clear U K|apply st|(apply zk;intro K U)|refine zY ?_|refine zs fun Z hs=>?_|(refine zd (fun hc=>?_) (fun hc=>?_)<;>try exact⟨⟩)|refine zo fun nn hnn Z hs=>?_|fail)<;>conv=>whnf)
      all_goals
       simp only[e0,e1]
       first
        | rw[if_pos (by omega)]at hkids
          refine(hrec (size+1) _ [_] (by omega) (by omega) hs).mono ?_
        | rw[if_neg (by omega)]at hkids
          refine(hrec size _ [_] (by omega) (by omega) hs).mono ?_
       cases hw:CQ p next d kid _ s' with
       | none=>
         rw[hw]at hkids;rintro r Z' ⟨rfl,s',hj,hs'⟩
         conv=>whnf
         repeat'((first|clear U K|apply st|fail)<;>conv=>whnf)
         refine DO ?_;rw[hkids];exact⟨rfl,s',hj,hs'⟩
       | some s2=>
         rw[hw]at hkids;rintro r Z' ⟨rfl,hs'⟩;refine zz ?_;(repeat clear U K);repeat intro K U
         exact⟨hlt,s2,rfl,⟨(KH _ hw).trans hl',hkids⟩,hs'⟩
     .rw[Au hke,Fl]at hkids
      refine zz ?_;(repeat clear U K);repeat intro K U
      refine AH ?_;rw[hkids];exact⟨rfl,hs⟩
def rX {a b:Nat} {A B:Prop} (e:a=b) (h:A):(a=b->A)/\(a≠b->B):=⟨fun _=>h,fun n=>absurd e n⟩
def tasN {a b:Nat} {A B:Prop} (e:a≠b) (h:B):(a=b->A)/\(a≠b->B):=⟨fun n=>absurd n e,fun _=>h⟩
def jS {P:Program} {Z:AE} {tab:List (TypeId×FuncId)} {t:TypeId} {f:FuncId} {v:V} {args:List V} {Q:R->AE->Prop} (h:look t tab=some f) (hc:Av P f (v::args) Z Q):A3 P tab (.FD t v) args Z Q:=by
 unfold A3;simp only[h];exact hc
def lg (p:Prog) (n size depth:Int):Pure zP 247 [.a (BT p),eI n,.a [eI size,eI depth]] (.f (.func 293) [] [.rp (BT p),.rp [eI n],.rp [eI size,eI depth]]):=by
 refine u6 kZ ?_;have hs:=Sn;exact zW
def tk (p:Prog) (next:Bool) {L:Nat} {E:Env} {ok:FuncId->Array Tmp->Code->Code->Nat->Prop} {v:V} {nO:Nat}
    (hY:Nv zP L E ok eaP (hOut nO v) (fun s=>s.length=p.nodes.length) (fun y s=>fX (FM p next y.1 y.2.1 y.2.2 s)) (dP p)) (n size:Int) (s:List Int) (h0:0<=size) (h1:size<=20) (hl:s.length=p.nodes.length) (rest:List At) (Z:AE)
    (hs : Sat Z (.obj L (.loop .ready E ok)::(hOut nO v s++rest))) :
     Av zP 293 [.f (.yield L) [] [],.rp (BT p),.rp [eI n],.rp [eI size,eI 1]] Z
      (mK L E ok (hOut nO v) (fun s=>s.length=p.nodes.length) rest (.t []) (.t []) (fX (CQ p next 12 n size s))):=by
 refine uV kZ ?_
 conv=>whnf
 repeat'((first|clear U K|apply st|(apply zk;intro K U)|refine zY ?_|refine zs fun Z hs=>?_|refine zo fun nn hnn Z hs=>?_|fail)<;>conv=>whnf)
 have hp:Sat Z (.obj L (.loop .ready E ok)::(hOut nO v s++(.box nn [YE p L nn]::rest))):=hs.perm (by
  refine(List.Perm.swap _ _ _).trans (.cons _ ?_)
  exact(List.perm_middle (l₁:=hOut nO v s)).symm)
 refine BH ((ml p next hY 12 (IS _) n size 1 s rfl h0 (by omega) hl nn rest Z hp).mono ?_);cases hw:CQ p next 12 n size s with
 | none=>
   rintro r Z' ⟨rfl,s',hj,hs'⟩
   conv=>whnf
   repeat'((first|clear U K|apply st|fail)<;>conv=>whnf)
   refine DO ?_;rw[hw];exact⟨rfl,s',hj,hs'.less (List.Sublist.append_left (OS _ _) _)⟩
 | some s2=>
   rintro r Z' ⟨rfl,hs'⟩
   conv=>whnf
   repeat'((first|clear U K|apply st|fail)<;>conv=>whnf)
   refine AH ?_;rw[hw];exact⟨rfl,hs'.less (.cons₂ _ (List.Sublist.append_left (OS _ _) _))⟩
def Xc (p:Prog) (x:Node):(x.op=5/\SF x.op= .FD 340 (.a []))\/(x.op≠5/\ ∃m:Int,SF x.op= .FD 339 (eI m)/\Jb p x=m)\/(SF x.op= .Dv/\Jb p x= -1):=by
 unfold SF Jb;by_cases h5:x.op=5
 .exact .inl ⟨h5,by rw[if_pos h5]⟩
 .rw[if_neg h5]
  split
  .exact .inr (.inl ⟨h5,_,rfl,rfl⟩)
  split
  .exact .inr (.inl ⟨h5,_,rfl,rfl⟩)
  split
  .exact .inr (.inl ⟨h5,_,rfl,rfl⟩)
  split
  .exact .inr (.inl ⟨h5,_,rfl,rfl⟩)
  .exact .inr (.inr ⟨rfl,by rw[if_neg (by rintro⟨h,_⟩;exact h5 h)]⟩)
def Ud {p:Prog} {x:Node} (h:x.op=5) {size:Int} (hn:NV p x size=true):0<=x.n/\x.n<p.Dr.length/\Jb p x=p.Dr.getD x.n.toNat 0:=by
 have h2:0<=x.n/\x.n<p.Dr.length:=by
  simp only[NV,h]at hn;simpa using hn
 refine⟨h2.1,h2.2,?_⟩;unfold Jb;rw[h,if_neg (by decide),if_neg (by decide),if_neg (by decide),if_neg (by decide),if_pos ⟨rfl,h2.1,h2.2⟩]
def jZ {p:Prog} {next:Bool} {n size depth:Int} {s:List Int} (h:n<0\/(p.nodes.length:Int)<=n\/0<=s.getD n.toNat 0\/12<depth):FM p next n size depth s=none:=by
 unfold FM;rw[if_pos h]
def ja {p:Prog} {next:Bool} {n size depth:Int} {s:List Int} {y:Int} {x:Node} (h0:0<=n) (h1:n<(p.nodes.length:Int)) (hy:s[n.toNat]? =some y) (hy0:y<0) (hd:depth<=12) (hx:p.nodes[n.toNat]? =some x):FM p next n size depth s=if EI p next size x then some (s.set n.toNat size)else none:=by
 have e:s.getD n.toNat 0=y:=by rw[DK,hy];rfl
 unfold FM;rw[if_neg (by rw[e];omega),hx]
def zx (p:Prog) (nO:Nat) (v:V) (rest:List At) (o:Option (List Int)) (r:R) (Z:AE):Prop:=
 match o with
 | some s=>r= .ret (.t [])/\Sat Z (hOut nO v s++rest)
 | none=>r= .Bf D4/\ ∃s:List Int,s.length=p.nodes.length/\Sat Z (hOut nO v s++rest)
def Up (p:Prog) (next:Bool) {v:V} {nO:Nat} (hv:(CR v).isSome=true) (n size:Int) (s:List Int) (h0:0<=size) (h1:size<=20) (hl:s.length=p.nodes.length) (rest:List At) (Z:AE) (hs:Sat Z (hOut nO v s++rest)) :
    Av zP 246 [eI n,eI size,.b next,.rp (BT p),.p nO 0] Z (zx p nO v rest (CQ p next 12 n size s)):=by
 refine Av.fit (by kernel_rfl) fun hf=>?_
 have hM:=Mx
 have hfp:FF (.a (BT p)):=by
  have:=hf.2.2.2.1;simp only[Uj]at this;simpa only[Ji]using this
 have⟨p1,p2,p3,p4⟩:=I9 hfp;refine u7 kZ ?_
 conv=>whnf
 repeat'((first|clear U K|apply st|(apply zk;intro K U)|refine zY ?_|refine Pure.use (lg _ _ _ _) ?_|refine zo fun nn hnn Z hs=>?_|fail)<;>conv=>whnf)
 refine Av.mono (tk p next (L:=nn) (v:=v) (nO:=nO) ?_ n size s h0 h1 hl rest Z hs) ?_
 .refine Ol (fun y=>rfl) ?_
  clear hs hnn hl h0 h1;rintro⟨k,sz,dp⟩ s ⟨d0,d1,d2,d3,hl⟩ rest Z hs;dsimp only at d0 d1 d2 d3 hl;dsimp only;rw[show eaP (k,sz,dp)= [eI k,.a [eI sz,eI dp]] from rfl]
  conv=>whnf
  repeat'((first|apply st|(apply sq;intro K U)|(apply si;intro A B hA hB)|(refine hA _ _ ?_;clear hB B hA A)|(refine hB _ _ _ ?_;clear hB B hA A)|(refine hB _ _ fun Z hsub=>?_;clear hB B hA A)|(apply U;clear U K)|apply dr|refine rk ?_ ?_|exact fun s e=>by cases e;rfl|refine⟨rfl,?_⟩|refine⟨kZ,?_⟩|refine iq fun x hx=>?_|refine ld ?_|refine bY fun Z hs=>?_|refine oi ?_|refine ol fun x hx=>?_|refine oset fun Z hs=>?_|refine xh ?_|refine xi ?_|(refine Cx (fun hc=>?_) (fun hc=>?_)<;>(replace hc:=bp hc)<;>(try simp(disch:=omega) only[CW,wrap64,Ae]at hc)<;>(try(cases hc;done)))|refine Pure.use (c9 _ _ _) ?_|refine Pure.use (dJ _) ?_|(rcases Xc p (by assumption)with⟨e5,ek⟩|⟨e5,m,ek,hm⟩|⟨ek,hm⟩<;>rw[ek]<;>clear ek)|refine rX rfl ?_|refine tasN (by decide) ?_|refine jS rfl (Pure.use (yV _ _ _) ?_)|refine jS rfl (Pure.use (pv _ _ (Ud (by assumption) (by assumption)).1 (Ud (by assumption) (by assumption)).2.1) ?_)|(constructor<;>intro hc<;>(try rw[hc])<;>(replace hc:=bp hc)<;>(try simp(disch:=omega) only[CW,wrap64,Ae]at hc))|(intro nn hnn;generalize hg:Bu _ nn _=Z;refine fL hg fun hs=>?_;clear hg)|clear U K)<;>conv=>whnf)
  all_goals first
   | (intro hn;refine Se (s:=s) (by rw[jZ (by first|omega|(rw[DK,‹s[k.toNat]? =some _›];simp only[Option.getD_some];omega))];rfl) hl (hs.less (by repeat first|exact List.Sublist.refl _|apply List.Sublist.cons)) hn)
   | skip
  all_goals
   have hva:=ja (next:=next) (size:=sz) (depth:=dp) (show 0<=k by omega) (show k<(p.nodes.length:Int) by omega) ‹s[k.toNat]? =some _› (by assumption) (by omega) ‹p.nodes[k.toNat]? =some _›
   rename Node=>x
   have hk5:x.op=5->NV p x sz=true->Jb p x=p.Dr.getD x.n.toNat 0:=fun h hn=>(Ud h hn).2.2
   intro hn
  all_goals first
   | (rw[if_neg (by first|(intro h;rw[EI,hk5 (by assumption) (by assumption)]at h;simp only[A4,C1]at h;exact absurd h.1 (by assumption))|(simp[EI, *];done)|(simp[EI, *];omega)|(rw[EI,hk5 (by assumption) (by assumption)];simp[*];done)|(simp[EI, *];intros;omega))]at hva
      refine Se (s:=s.set k.toNat sz) (by rw[hva];rfl) (by simpa using hl) ?_ hn
      first
       | exact hs.less (by repeat first|exact List.Sublist.refl _|apply List.Sublist.cons)
       | exact(hs.less (by repeat first|exact List.Sublist.refl _|apply List.Sublist.cons)).up (by assumption))
   | (rw[if_pos (by first|(simp[EI, *];done)|(rw[EI,hk5 (by assumption) (by assumption)];simp[*];done))]at hva
      exact WV (s:=s.set k.toNat sz) (by rw[hva];rfl) (hs.less (by repeat first|exact List.Sublist.refl _|apply List.Sublist.cons)) hn)
 .cases hw:CQ p next 12 n size s with
  | none=>
    rintro r Z' ⟨rfl,s',hj,hs'⟩
    conv=>whnf
    exact DO ⟨rfl,s',hj,hs'⟩
  | some s2=>
    rintro r Z' ⟨rfl,hs'⟩;refine Mf hs' fun Z2 hs2=>?_
    conv=>whnf
    exact AH ⟨rfl,hs2⟩
end Go.Gl
namespace Go.Gl
structure Kn where
 low:Int
 high:Int
 no:List Int
 BS:Nat
 Dt:Nat
 whole:Bool
 AZ:Bool
 AF:List Int
def k0:Kn:=⟨-1000000000,1000000000,[],0,0,false,false,[]⟩
def JE (l:List Int) (s:Int):List Int:=if l.contains s then l else(l++[s]).mergeSort HZ
def By (k:Kn) (f:Fact) (b:Bool):Kn:=
 if f.op=2 then(if b then {k with Dt:=k.Dt|||2 ^ f.cls.toNat}else {k with BS:=k.BS|||2 ^ f.cls.toNat})
 else if f.op=3 then(if b then {k with low:=if f.n > k.low then f.n else k.low}else {k with high:=if f.n - 1<k.high then f.n - 1 else k.high,whole:=true})
 else if b then {k with no:=k.no++[f.n]}else {k with low:=if f.n > k.low then f.n else k.low,high:=if f.n<k.high then f.n else k.high,whole:=true}
def Bz (k:Kn) (b:Bool):Kn:={k with AZ:=k.AZ|| !b}
def fG (k:Kn) (s:Int):Kn:={k with AF:=JE k.AF s}
def C2 (a:Int) (p:List Int) (k:Kn) (l:Fact):Kn:=
 if(Ah l).1.arg=a/\Bj (Ah l).1.path p=true then
  (if(Ah l).1.path=p then By (Bz k (Ah l).2) (Ah l).1 (Ah l).2 else fG (Bz k (Ah l).2) ((Ah l).1.path.getD p.length 0))
 else k
def kn (ls:List Fact) (a:Int) (p:List Int):Kn:=ls.foldl (C2 a p) k0
def Lo (k:Kn) (f:Fact) (b:Bool):(By k f b).AZ=k.AZ:=by
 unfold By
 (repeat' split)<;>rfl
def IP (k:Kn) (f:Fact) (b:Bool):(By k f b).AF=k.AF:=by
 unfold By
 (repeat' split)<;>rfl
def Ux (a:Int) (p:List Int) (k:Kn) (l:Fact):(C2 a p k l).AZ=(k.AZ|| !((Ah l).2|| !((Ah l).1.arg==a&&Bj (Ah l).1.path p))):=by
 unfold C2;split
 .rename_i h
  have e:((Ah l).1.arg==a)=true:=by simpa using h.1
  rw[e,h.2];split
  .rw[Lo];simp[Bz]
  .simp[fG,Bz]
 .rename_i h
  have:((Ah l).1.arg==a&&Bj (Ah l).1.path p)=false:=by
   cases hb:((Ah l).1.arg==a&&Bj (Ah l).1.path p)with
   | false=>rfl
   | true=>rw[A4]at hb;exact absurd ⟨by simpa using hb.1,hb.2⟩ h
  rw[this];simp
def NF (a:Int) (p:List Int): ∀(ls:List Fact) (k:Kn),(ls.foldl (C2 a p) k).AZ=(k.AZ|| !E2 ls a p)
 | [],k=>by simp[E2]
 | l::r,k=>by
   rw[List.foldl_cons,NF a p r,Ux];simp only[E2,Pg];generalize (r.all _)=x;generalize ((Ah l).2||_)=y;cases k.AZ<;>cases x<;>cases y<;>rfl
def KW (ls:List Fact) (a:Int) (p:List Int):(kn ls a p).AZ= !E2 ls a p:=by rw[kn,NF];rfl
def TO (l:List Int) (s x:Int):x∈JE l s↔x∈l\/x=s:=by
 unfold JE;split
 .rename_i h
  rw[List.contains_iff_mem]at h;constructor
  .exact .inl
  .rintro(h'|rfl)
   .exact h'
   .exact h
 .rw[(List.mergeSort_perm _ HZ).mem_iff];simp
def U6 {l:List Int} (s:Int) (h:l.Pairwise (· < ·)):(JE l s).Pairwise (· < ·):=by
 unfold JE;split
 .exact h
 .rename_i hc
  have hc':s∉l:=by simpa using hc
  have hp:=List.mergeSort_perm (l++[s]) HZ;have h1:((l++[s]).mergeSort HZ).Pairwise (fun a b=>HZ a b=true):=List.pairwise_mergeSort (fun a b c=>by simp only[HZ,Cp];omega) (fun a b=>by simp only[HZ,EP,Cp];omega) _
  have h2:((l++[s]).mergeSort HZ).Nodup:=hp.nodup_iff.2 (by
   rw[List.nodup_append];refine⟨h.imp fun hab=>by omega,by simp,fun a ha b hb=>?_⟩;simp only[Lu]at hb;rintro rfl
   exact hc' (hb ▸ ha))
  exact(h1.and h2).imp fun⟨h3,h4⟩=>by
   simp only[HZ,Cp]at h3;omega
def LY: ∀ {l m:List Int},l.Pairwise (· < ·)->m.Pairwise (· < ·)->(∀x,x∈l↔x∈m)->l=m
 | [],[],_,_,_=>rfl
 | [],y::m,_,_,h=>absurd ((h y).2 (.head _)) (by simp)
 | x::l,[],_,_,h=>absurd ((h x).1 (.head _)) (by simp)
 | x ::l,y::m,h1,h2,h=>by
   rw[List.pairwise_cons]at h1 h2
   have hxy:x=y:=by
    rcases Fg.1 ((h x).1 (.head _))with e|hx
    .exact e
    .rcases Fg.1 ((h y).2 (.head _))with e|hy
     .exact e.symm
     .have:=h1.1 y hy
      have:=h2.1 x hx;omega
   subst hxy;congr 1;refine LY h1.2 h2.2 fun z=>?_
   constructor
   .intro hz
    rcases Fg.1 ((h z).1 (.tail _ hz))with e|hz'
    .have:=h1.1 z hz;omega
    .exact hz'
   .intro hz
    rcases Fg.1 ((h z).2 (.tail _ hz))with e|hz'
    .have:=h2.1 z hz;omega
    .exact hz'
def B1 {path pre:List Int}:Bj path pre=true↔ ∃t,path=pre++t:=by
 simp only[Bj,A4,Cp,C1];constructor
 .rintro⟨_,h⟩
  exact⟨path.drop pre.length,by conv=>lhs;rw[<-List.take_append_drop pre.length path,h]⟩
 .rintro⟨t,rfl⟩
  simp
def Xs {path p:List Int} {s:Int}:Bj path (p++[s])=true↔Bj path p=true/\path≠p/\path.getD p.length 0=s:=by
 rw[B1,B1];constructor
 .rintro⟨t,rfl⟩
  refine⟨⟨s::t,by simp⟩,fun e=>?_,by simp⟩;have:=congrArg List.length e;simp at this
 .rintro⟨⟨t,rfl⟩,hne,hs⟩
  cases t with
  | nil=>simp at hne
  | cons y t=>simp at hs;subst hs;exact⟨t,by simp⟩
def aY {a:Int} {p:List Int} {s:Int} {l:Fact}:qF a p s l=true↔(Ah l).1.arg=a/\Bj (Ah l).1.path p=true/\(Ah l).1.path≠p/\(Ah l).1.path.getD p.length 0=s:=by
 rw[qF,A4,Xs,C1]
def Xe (a:Int) (p:List Int) (k:Kn) (l:Fact):(C2 a p k l).AF=if(Ah l).1.arg=a/\Bj (Ah l).1.path p=true/\(Ah l).1.path≠p then JE k.AF ((Ah l).1.path.getD p.length 0)else k.AF:=by
 unfold C2;by_cases h1:(Ah l).1.arg=a/\Bj (Ah l).1.path p=true
 .rw[if_pos h1]
  by_cases h2:(Ah l).1.path=p
  .rw[if_pos h2,if_neg (fun h=>h.2.2 h2),IP];rfl
  .rw[if_neg h2,if_pos ⟨h1.1,h1.2,h2⟩];rfl
 .rw[if_neg h1,if_neg (fun h=>h1 ⟨h.1,h.2.1⟩)]
def RI (a:Int) (p:List Int): ∀(ls:List Fact) (k:Kn),k.AF.Pairwise (· < ·)->(ls.foldl (C2 a p) k).AF.Pairwise (· < ·)/\ ∀s,s∈(ls.foldl (C2 a p) k).AF↔s∈k.AF\/ls.any (qF a p s)=true
 | [],k,h=>⟨h,fun s=>by simp⟩
 | l ::r,k,h=>by
   rw[List.foldl_cons];have e:=Xe a p k l
   have h1:(C2 a p k l).AF.Pairwise (· < ·):=by
    rw[e];split
    .exact U6 _ h
    .exact h
   obtain⟨i1,i2⟩:=RI a p r _ h1;refine⟨i1,fun s=>?_⟩;rw[i2,e,Rj,EP,aY];split
   .rename_i hc
    rw[TO];constructor
    .rintro((h|rfl)|h)
     .exact .inl h
     .exact .inr (.inl ⟨hc.1,hc.2.1,hc.2.2,rfl⟩)
     .exact .inr (.inr h)
    .rintro(h|⟨-,-,-,h⟩|h)
     .exact .inl (.inl h)
     .exact .inl (.inr h.symm)
     .exact .inr h
   .rename_i hc
    constructor
    .rintro(h|h)
     .exact .inl h
     .exact .inr (.inr h)
    .rintro(h|⟨q1,q2,q3,-⟩|h)
     .exact .inl h
     .exact absurd ⟨q1,q2,q3⟩ hc
     .exact .inr h
def HK (n:Nat) (ls:List Fact):Prop:= ∀l∈ls,∀s∈(Ah l).1.path,(0:Int)<=s/\s<n
def C8 {n:Nat} {s:Int}:s∈Bi n↔0<=s/\s<n:=by
 simp only[Bi,Hc,List.mem_range];constructor
 .rintro⟨m,hm,rfl⟩
  exact⟨Int.natCast_nonneg m,by simpa using hm⟩
 .rintro⟨h0,h1⟩
  exact⟨s.toNat,by omega,by simp;omega⟩
def K3 (n:Nat):(Bi n).Pairwise (· < ·):=by
 rw[Bi,List.pairwise_map];exact List.pairwise_lt_range.imp fun h=>by simpa using h
def ti {n:Nat} {ls:List Fact} (h:HK n ls) {a:Int} {p:List Int} {s:Int} {l:Fact} (hl:l∈ls) (hg:qF a p s l=true):0<=s/\s<n:=by
 rw[aY]at hg;obtain⟨-,h2,h3,h4⟩:=hg;obtain⟨t,ht⟩:=B1.1 h2;refine h l hl s ?_;rw[ht]at h3 h4 ⊢;cases t with
 | nil=>simp at h3
 | cons y t=>simp at h4;subst h4;simp
def Jo {n:Nat} {ls:List Fact} (h:HK n ls) (a:Int) (p:List Int):(kn ls a p).AF=Cr n ls a p:=by
 obtain⟨h1,h2⟩:=RI a p ls k0 .nil;refine LY h1 ((K3 n).filter _) fun s=>?_
 show s∈(ls.foldl (C2 a p) k0).AF↔_;rw[h2,Cr,Kj,C8];constructor
 .rintro(h|hs)
  .cases h
  .obtain⟨l,hl,hg⟩:=Gx.1 hs
   exact⟨ti h hl hg,hs⟩
 .exact fun hs=> .inr hs.2
def ES (os:List Fact) (k:Kn):Kn:=os.foldl (fun k l=>By k (Ah l).1 (Ah l).2) k
abbrev DV (k:Kn):Int×Int×List Int×Nat×Nat×Bool:=(k.low,k.high,k.no,k.BS,k.Dt,k.whole)
def Qe {k k':Kn} (h:DV k=DV k') (f:Fact) (b:Bool):DV (By k f b)=DV (By k' f b):=by
 cases k;cases k';simp only[DV,Prod.mk.injEq]at h;obtain⟨rfl,rfl,rfl,rfl,rfl,rfl⟩:=h;unfold By
 (repeat' split)<;>rfl
def Jz (p:List Int):Bj p p=true:=B1.2 ⟨[],by simp⟩
def dy (a:Int) (p:List Int) (k:Kn) (l:Fact):DV (C2 a p k l)=if Kp a p l then DV (By k (Ah l).1 (Ah l).2)else DV k:=by
 unfold C2 Kp;by_cases h1:(Ah l).1.arg=a
 .by_cases h2:(Ah l).1.path=p
  .have e:((Ah l).1.arg==a&&(Ah l).1.path==p)=true:=by simp[h1,h2]
   rw[if_pos ⟨h1,by rw[h2];exact Jz p⟩,if_pos h2,e,if_pos rfl];exact Qe (k:=Bz k (Ah l).2) (k':=k) rfl _ _
  .have e:((Ah l).1.arg==a&&(Ah l).1.path==p)=false:=by simp[h2]
   rw[if_neg h2,e,if_neg Bool.false_ne_true];split<;>rfl
 .have e:((Ah l).1.arg==a&&(Ah l).1.path==p)=false:=by simp[h1]
  rw[if_neg (fun h=>h1 h.1),e,if_neg Bool.false_ne_true]
def OL (a:Int) (p:List Int): ∀(ls:List Fact) (k k':Kn),DV k=DV k'->DV (ls.foldl (C2 a p) k)=DV (ES (ls.filter (Kp a p)) k')
 | [],k,k',h=>h
 | l ::r,k,k',h=>by
   rw[List.foldl_cons,List.filter_cons];have e:=dy a p k l;split
   .rename_i ho
    rw[if_pos ho]at e;exact OL a p r _ _ (e.trans (Qe h _ _))
   .rename_i ho
    rw[if_neg (by simpa using ho)]at e;exact OL a p r _ _ (e.trans h)
def MI (ls:List Fact) (a:Int) (p:List Int):DV (kn ls a p)=DV (ES (ls.filter (Kp a p)) k0):=OL a p ls k0 k0 rfl
def rQ (x:Fact×Bool):Bool:= !(x.1.op==2)||(decide (x.1.cls > 1)==x.2)
def cQ (x:Fact×Bool) (k:Kn):Vf x (k.low,k.high,k.no)=if rQ x then some ((By k x.1 x.2).low,(By k x.1 x.2).high,(By k x.1 x.2).no)else none:=by
 unfold Vf rQ By;by_cases h2:x.1.op=2
 .rw[if_pos h2,if_pos h2]
  cases x.2<;>cases decide (x.1.cls > 1)<;>simp[h2]
 .rw[if_neg h2,if_neg h2]
  by_cases h3:x.1.op=3
  .rw[if_pos h3,if_pos h3]
   cases x.2<;>simp[h2]
  .rw[if_neg h3,if_neg h3]
   cases x.2<;>simp[h2]
def S6: ∀(os:List Fact) (k:Kn),foldI os (k.low,k.high,k.no)=if os.all (fun l=>rQ (Ah l))then some ((ES os k).low,(ES os k).high,(ES os k).no)else none
 | [],k=>rfl
 | l ::r,k=>by
   rw[foldI,cQ,Pg];cases hb:rQ (Ah l)with
   | false=>rfl
   | true=>
     rw[if_pos rfl,Option.bind_some,S6 r,Du];rfl
def ln (k:Kn) (f:Fact) (c:Bool) (b:Nat):(By k f c).BS.testBit b=(k.BS.testBit b||(f.op==2&& !c&&f.cls.toNat==b)):=by
 unfold By;by_cases h2:f.op=2
 .rw[if_pos h2]
  cases c<;>simp[h2,Nat.testBit_or,Nat.testBit_two_pow,Bool.beq_eq_decide_eq]
 .rw[if_neg h2]
  have:(f.op==2)=false:=by simpa using h2
  rw[this]
  repeat' split
  all_goals simp
def pq (k:Kn) (f:Fact) (c:Bool) (b:Nat):(By k f c).Dt.testBit b=(k.Dt.testBit b||(f.op==2&&c&&f.cls.toNat==b)):=by
 unfold By;by_cases h2:f.op=2
 .rw[if_pos h2]
  cases c<;>simp[h2,Nat.testBit_or,Nat.testBit_two_pow,Bool.beq_eq_decide_eq]
 .rw[if_neg h2]
  have:(f.op==2)=false:=by simpa using h2
  rw[this]
  repeat' split
  all_goals simp
def eO (k:Kn) (f:Fact) (c:Bool):(By k f c).whole=(k.whole||(!c&& !(f.op==2))):=by
 unfold By;by_cases h2:f.op=2
 .rw[if_pos h2]
  cases c<;>simp[h2]
 .rw[if_neg h2]
  have:(f.op==2)=false:=by simpa using h2
  rw[this];cases c<;>(repeat' split)<;>simp_all
def OO: ∀(os:List Fact) (k:Kn) (b:Nat),(ES os k).BS.testBit b=(k.BS.testBit b||os.any fun l=>(Ah l).1.op==2&& !(Ah l).2&&(Ah l).1.cls.toNat==b)
 | [],k,b=>by simp[ES]
 | l::r,k,b=>by
   have:=OO r (By k (Ah l).1 (Ah l).2) b;rw[ln]at this;rw[Rj,<-Bool.or_assoc,<-this];rfl
def Qg: ∀(os:List Fact) (k:Kn) (b:Nat),(ES os k).Dt.testBit b=(k.Dt.testBit b||os.any fun l=>(Ah l).1.op==2&&(Ah l).2&&(Ah l).1.cls.toNat==b)
 | [],k,b=>by simp[ES]
 | l::r,k,b=>by
   have:=Qg r (By k (Ah l).1 (Ah l).2) b;rw[pq]at this;rw[Rj,<-Bool.or_assoc,<-this];rfl
def Lp: ∀(os:List Fact) (k:Kn),(ES os k).whole=(k.whole||os.any fun l=> !(Ah l).2&& !((Ah l).1.op==2))
 | [],k=>by simp[ES]
 | l::r,k=>by
   have:=Lp r (By k (Ah l).1 (Ah l).2);rw[eO]at this;rw[Rj,<-Bool.or_assoc,<-this];rfl
def Hg (m up:Nat):Bool:=(List.range 64).all fun b=> !m.testBit b||up.testBit b
def Ma {m up:Nat} (hm:m<2 ^ 64):Hg m up=true↔ ∀b,m.testBit b=true->up.testBit b=true:=by
 simp only[Hg,Dj,List.mem_range,EP,Bool.not_eq_true'];constructor
 .intro h b hb
  have hlt:b<64:=by
   rcases Nat.lt_or_ge b 64 with h'|h'
   .exact h'
   .rw[Nat.testBit_lt_two_pow (Nat.lt_of_lt_of_le hm (Nat.pow_le_pow_right (by decide) h'))]at hb;cases hb
  rcases h b hlt with h'|h'
  .rw[hb]at h';cases h'
  .exact h'
 .intro h b _
  cases hb:m.testBit b with
  | false=>exact .inl rfl
  | true=>exact .inr (h b hb)
def Mv {m n:Nat}:(m&&&n==0)=true↔ ∀b,m.testBit b=true->n.testBit b=true->False:=by
 rw[C1];constructor
 .intro h b h1 h2
  have:=congrArg (fun x=>x.testBit b) h;simp[Nat.testBit_and,h1,h2]at this
 .intro h
  refine Nat.eq_of_testBit_eq fun b=>?_
  rw[Nat.testBit_and,Nat.zero_testBit];cases h1:m.testBit b with
  | false=>rfl
  | true=>
    cases h2:n.testBit b with
    | false=>rfl
    | true=>exact(h b h1 h2).elim
def UG (c b:Nat):(1|||2 ^ c).testBit b=(b==0||b==c):=by
 rw[Nat.testBit_or,Nat.testBit_two_pow,show(1:Nat)=2 ^ 0 from rfl,Nat.testBit_two_pow];rw[Hb];simp only[EP,Cp,C1];omega
def Gv (n:Nat) (ls:List Fact):Prop:= ∀l∈ls,(Ah l).1.op=2->0<=(Ah l).1.cls/\(Ah l).1.cls<n
def Q8 {m n:Nat} (h: ∀b,m.testBit b=true->b<n):m<2 ^ n:=by
 refine Nat.lt_pow_two_of_testBit _ fun i hi=>?_
 cases hb:m.testBit i with
 | false=>rfl
 | true=>have:=h i hb;omega
def MH {os:List Fact} {n:Nat} (h:Gv n os):(ES os k0).BS<2 ^ n:=Q8 fun b hb=>by
 rw[OO]at hb;simp only[k0,Nat.zero_testBit,Bool.false_or,Gx,A4,C1]at hb;obtain⟨l,hl,⟨h2,-⟩,rfl⟩:=hb;have:=h l hl h2;omega
def gr {os:List Fact} {n:Nat} (h:Gv n os):(ES os k0).Dt<2 ^ n:=Q8 fun b hb=>by
 rw[Qg]at hb;simp only[k0,Nat.zero_testBit,Bool.false_or,Gx,A4,C1]at hb;obtain⟨l,hl,⟨h2,-⟩,rfl⟩:=hb;have:=h l hl h2;omega
def H2 {os:List Fact} {b:Nat}:(ES os k0).BS.testBit b=true↔ ∃l∈os,(Ah l).1.op=2/\(Ah l).2=false/\(Ah l).1.cls.toNat=b:=by
 rw[OO];simp only[k0,Nat.zero_testBit,Bool.false_or,Gx,A4,C1,Bool.not_eq_true',and_assoc]
def UU {os:List Fact} {b:Nat}:(ES os k0).Dt.testBit b=true↔ ∃l∈os,(Ah l).1.op=2/\(Ah l).2=true/\(Ah l).1.cls.toNat=b:=by
 rw[Qg];simp only[k0,Nat.zero_testBit,Bool.false_or,Gx,A4,C1,and_assoc]
def cu {os:List Fact} {n:Nat} (hn:n<=64) (h:Gv n os):(Hg (ES os k0).BS (1|||2 ^ 1)&&((ES os k0).Dt&&&(1|||2 ^ 1)==0))=os.all fun l=>rQ (Ah l):=by
 rw[Hb,A4,Ma (Nat.lt_of_lt_of_le (MH h) (Nat.pow_le_pow_right (by decide) hn)),Mv];simp only[H2,UU,UG,Dj,rQ,EP,Bool.not_eq_true',beq_eq_false_iff_ne,C1,ne_eq];constructor
 .rintro⟨h1,h2⟩ l hl
  by_cases ho:(Ah l).1.op=2
  .right
   have hc:=h l hl ho;cases hb:(Ah l).2 with
   | false=>
     have:=h1 _ ⟨l,hl,ho,hb,rfl⟩;rw[decide_eq_false_iff_not];omega
   | true=>
     rw[Cp];rcases Int.lt_or_le 1 (Ah l).1.cls with hlt|hle
     .exact hlt
     .exact(h2 _ ⟨l,hl,ho,hb,rfl⟩ (by omega)).elim
  .exact .inl ho
 .intro h1
  constructor
  .rintro b ⟨l,hl,ho,hb,rfl⟩
   rcases h1 l hl with h'|h'
   .exact absurd ho h'
   .have hc:=h l hl ho
    rw[hb,decide_eq_false_iff_not]at h';omega
  .rintro b ⟨l,hl,ho,hb,rfl⟩ hu
   rcases h1 l hl with h'|h'
   .exact absurd ho h'
   .have hc:=h l hl ho
    rw[hb,Cp]at h';omega
def cN (x:Fact×Bool):(!SA x)=true↔(x.2=false->x.1.op=2/\(x.1.cls=0\/x.1.cls=2))/\(x.2=true-> ¬(x.1.op=2/\(x.1.cls=0\/x.1.cls=2))):=by
 have e:(x.1.op==2&&(x.1.cls==0||x.1.cls==2))=true↔x.1.op=2/\(x.1.cls=0\/x.1.cls=2):=by
  simp only[A4,EP,C1]
 rw[<-e,SA];generalize (x.1.op==2&&(x.1.cls==0||x.1.cls==2))=y;cases x.2<;>cases y<;>simp
def SP {os:List Fact}:(!(ES os k0).whole)=true↔ ∀l∈os,(Ah l).2=false->(Ah l).1.op=2:=by
 rw[Lp,Bool.not_eq_true',<-Bool.not_eq_true];simp only[k0,Bool.false_or,Gx,A4,Bool.not_eq_true',beq_eq_false_iff_ne];constructor
 .intro h l hl hb
  rcases Classical.em ((Ah l).1.op=2)with e|e
  .exact e
  .exact absurd ⟨l,hl,hb,e⟩ h
 .rintro h ⟨l,hl,hb,e⟩
  exact e (h l hl hb)
def Yv {os:List Fact} {n:Nat} (hn:n<=64) (h:Gv n os):(!(ES os k0).whole&&(Hg (ES os k0).BS (1|||2 ^ 2)&&((ES os k0).Dt&&&(1|||2 ^ 2)==0)))=os.all fun l=> !SA (Ah l):=by
 rw[Hb,A4,A4,Ma (Nat.lt_of_lt_of_le (MH h) (Nat.pow_le_pow_right (by decide) hn)),Mv,SP,Dj];simp only[H2,UU,UG,EP,C1,cN];constructor
 .rintro⟨h0,h1,h2⟩ l hl
  refine⟨fun hb=>?_,fun hb ⟨ho,hc⟩=>h2 _ ⟨l,hl,ho,hb,rfl⟩ (by omega)⟩;have ho:=h0 l hl hb;have hc:=h l hl ho;have:=h1 _ ⟨l,hl,ho,hb,rfl⟩;exact⟨ho,by omega⟩
 .intro h1
  refine⟨fun l hl hb=>((h1 l hl).1 hb).1,?_,?_⟩
  .rintro b ⟨l,hl,ho,hb,rfl⟩
   have:=((h1 l hl).1 hb).2;omega
  .rintro b ⟨l,hl,ho,hb,rfl⟩ hu
   have hc:=h l hl ho;exact(h1 l hl).2 hb ⟨ho,by omega⟩
def N1 {no:List Int}: ∀(k:Nat) (m:Int),(fQ no k m).isSome=true↔ ∃j:Nat,j<k/\m+j∉no
 | 0,m=>by simp[fQ]
 | k + 1,m=>by
   rw[fQ];split
   .rename_i h
    simp only[Option.isSome_some,true_iff];refine⟨0,by omega,fun hm=>?_⟩;rw[Dj]at h;have:=h _ hm;simp at this
   .rename_i h
    rw[N1 k]
    have hm:m∈no:=by
     rcases Classical.em (m∈no)with h'|h'
     .exact h'
     .refine absurd (Dj.2 fun x hx=>?_) h
      rw[zrJ];rintro rfl;exact h' hx
    constructor
    .rintro⟨j,hj,h'⟩
     exact⟨j+1,by omega,by rw[show m+((j+1:Nat):Int)=m+1+j by omega];exact h'⟩
    .rintro⟨j,hj,h'⟩
     cases j with
     | zero=>simp at h';exact absurd hm h'
     | succ j=>exact⟨j,by omega,by rw[show m+1+(j:Int)=m+((j+1:Nat):Int) by omega];exact h'⟩
def jg {low high n:Int} {no:List Int} (h0:low<=n) (h1:n∉no) (h2: ∀m,low<=m->m<n->m∈no):(Vg (low,high,no)).isSome=decide (n<=high):=by
 rw[Hb,Vg,N1,Cp];constructor
 .rintro⟨j,hj,h⟩
  rcases Int.lt_or_le (low+j) n with hlt|hle
  .exact absurd (h2 _ (by omega) hlt) h
  .simp only at hj;omega
 .intro h
  refine⟨(n - low).toNat,by simp only;omega,?_⟩;rw[show low+((n - low).toNat:Int)=n by omega];exact h1
end Go.Gl
