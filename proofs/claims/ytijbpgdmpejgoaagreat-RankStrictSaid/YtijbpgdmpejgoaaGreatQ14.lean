import Derived.Test.YtijbpgdmpejgoaaGreatQ13
set_option linter.all false
set_option linter.unusedVariables false
set_option linter.unusedSimpArgs false
namespace Go.Gl
open Go.Proofs
attribute [local irreducible] BQ BJ A5 Ab AQ A4 Ac Af AR Az AW Aa BT Bf Sat An BZ A6 W
def EY (p:Prog) (next:Bool) (n size depth:Int) (s:List Int):Option (List Int):=
 if n<0∨(p.nodes.length:Int)≤n∨0≤s.getD n.toNat 0∨12<depth then none else
 match p.nodes[n.toNat]? with
 | none=>none
 | some x=>if Fc p next size x then some (s.set n.toNat size)else none
def ZO {S:Type}:Option S→Rd S
 | some s=> .go s
 | none=> .Bi DZ
abbrev eaP (y:Int×Int×Int):List V:=[eI y.1,.a [eI y.2.1,eI y.2.2]]
abbrev hOut (nO:Nat) (v:V) (s:List Int):List At:=[.box nO [v],.own v 1 (iL s)]
abbrev dP (p:Prog) (y:Int×Int×Int) (s:List Int):Prop:=0≤y.2.1∧y.2.1≤100∧1≤y.2.2∧y.2.2≤13∧s.length=p.nodes.length
abbrev Up (p:Prog) (L nW:Nat):V:= .f (.func 214) [] [.rp [.f (.yield L) [] []],.rp (Bz p),.p nW 0]
theorem VE {p:Prog} {next:Bool} {n size depth:Int} {s s':List Int} (h:EY p next n size depth s=some s'):0≤n∧n<(p.nodes.length:Int)∧s.getD n.toNat 0<0∧depth≤12∧ ∃x,p.nodes[n.toNat]? =some x∧Fc p next size x=true∧s'=s.set n.toNat size:=by
 unfold EY at h;split at h
 ·cases h
 ·rename_i hc
  split at h
  ·cases h
  ·rename_i x hx
   split at h
   ·rename_i hok
    simp only[Ha]at h;exact⟨by omega,by omega,by omega,by omega,x,hx,hok,h.symm⟩
   ·cases h
theorem VD {p:Prog} {next:Bool} {d:Nat} {n size depth:Int} {s:List Int} (hd:depth=13 - (d+1:Nat)) (hd1:1≤depth):DB p next (d+1) n size s=match EY p next n size depth s with
 | none=>none
 | some s'=>match p.nodes[n.toNat]? with
   | none=>none
   | some x=>Is (DB p next d) x.op size 0 x.kids s':=by
 unfold EY;simp only[DB];by_cases h:n<0∨(p.nodes.length:Int)≤n∨0≤s.getD n.toNat 0
 ·rw[if_pos h,if_pos (by omega)]
 ·rw[if_neg h,if_neg (by omega)]
  cases hx:p.nodes[n.toNat]? with
  | none=>rfl
  | some x=>
    simp only;split
    ·rfl
    ·rfl
theorem VF {p:Prog} {next:Bool} {n size depth:Int} {s:List Int} (hd:12<depth):EY p next n size depth s=none:=by
 unfold EY;rw[if_pos (by omega)]
theorem Ph {f:Int→Int→List Int→Option (List Int)} (hf: ∀ {a b s s'},f a b s=some s'→s'.length=s.length) {op size:Int}: ∀(i:Nat) (l:List Int) {s s':List Int},Is f op size i l s=some s'→s'.length=s.length
 | _,[],s,s',h=>by cases h;rfl
 | i,k::r,s,s',h=>by
   simp only[Is]at h;split at h
   ·cases h
   ·rename_i s1 h1
    exact(Ph hf (i+1) r h).trans (hf h1)
theorem IS {p:Prog} {next:Bool}: ∀(d:Nat) {n size:Int} {s s':List Int},DB p next d n size s=some s'→s'.length=s.length
 | 0,_,_,_,_,h=>by cases h
 | d + 1,n,size,s,s',h=>by
   simp only[DB]at h;split at h
   ·cases h
   ·split at h
    ·cases h
    ·split at h
     ·exact(Ph (fun h=>IS d h) 0 _ h).trans (by simp)
     ·cases h
set_option maxHeartbeats 4000000 in
theorem dc (p : Prog) (next:Bool) {L:Nat} {E:Env} {ok:FuncId→Array Tmp→Code→Code→Nat→Prop} {v:V} {nO:Nat}
 (hY:LP Tryz.prog L E ok eaP (hOut nO v) (fun s=>s.length=p.nodes.length) (fun y s=>ZO (EY p next y.1 y.2.1 y.2.2 s)) (dP p)) :
 ∀ d : Nat,d≤12→ ∀(n size depth:Int) (s:List Int),depth=13 - d→0≤size→size+d≤100→s.length=p.nodes.length→ ∀(nW:Nat) (rest:List At) (σ:AG),
   Sat σ (.obj L (.loop .ready E ok)::(hOut nO v s++(.box nW [Up p L nW]::rest)))→
   BQ Tryz.prog 214 [eI n,.a [eI size,eI depth],.rp [.f (.yield L) [] []],.rp (Bz p),.p nW 0] σ
    (dD L E ok (hOut nO v) (fun s=>s.length=p.nodes.length) (.box nW [Up p L nW]::rest) (.b true) (.b false) (ZO (DB p next d n size s))):=by
 intro d
 induction d with
 | zero=>
   intro _ n size depth s hd h0 h1 hl nW rest σ hs;refine aS nb ?_
   conv=>whnf
   repeat'((first|refine st ?_|(refine sq ?_;intro K U)|(refine si ?_;intro A B Y Z)|(refine Y _ _ ?_;clear Z B Y A)|(refine U _ _ ?_;clear U K)|refine⟨nb,?_⟩|fail)<;>conv=>whnf)
   refine hY.use (y:=(n,size,depth)) (s:=s) ⟨h0,(by dsimp only;omega),(by dsimp only;omega),(by dsimp only;omega),hl⟩ hs ?_;rw[VF (by dsimp only;omega)];rintro r σ' ⟨rfl,s',hj,hs'⟩
   conv=>whnf
   repeat'((first|(refine Z _ _ _ ?_;clear Z B Y A)|clear U K)<;>conv=>whnf)
   exact C7 ⟨rfl,s',hj,hs'⟩
 | succ d ih =>
   intro hd12 n size depth s hd h0 h1 hl nW rest σ hs;refine BQ.fit (by kernel_rfl) fun hf=>?_
   have hM:=Mx
   have hfp:Eo (.a (Bz p)):=by
    have:=hf.2.2.2.1;simp only[RN]at this;simpa only[JJ]using this
   have⟨p1,p2,p3,p4⟩:=PE hfp;refine aS nb ?_
   conv=>whnf
   repeat'((first|refine st ?_|(refine sq ?_;intro K U)|(refine si ?_;intro A B Y Z)|(refine Y _ _ ?_;clear Z B Y A)|(refine U _ _ ?_;clear U K)|refine⟨nb,?_⟩|fail)<;>conv=>whnf)
   refine hY.use (y:=(n,size,depth)) (s:=s) ⟨h0,(by dsimp only;omega),(by dsimp only;omega),(by dsimp only;omega),hl⟩ hs ?_;have hw:=VD (p:=p) (next:=next) (n:=n) (size:=size) (s:=s) hd (by omega);cases hv:EY p next n size depth s with
   | none=>
     rw[hv]at hw;rintro r σ' ⟨rfl,s',hj,hs'⟩
     conv=>whnf
     repeat'((first|(refine Z _ _ _ ?_;clear Z B Y A)|clear U K)<;>conv=>whnf)
     refine C7 ?_;rw[hw];exact⟨rfl,s',hj,hs'⟩
   | some s1 =>
     obtain⟨g0,g1,g2,g3,x,hx,hok,hs1⟩:=VE hv;rw[hv]at hw;simp only[hx]at hw;have hl1:s1.length=p.nodes.length:=by rw[hs1];simpa using hl
     have hkm:=th hfp (Fo hx);clear hv hs1;rintro r σ1 ⟨rfl,hs⟩
     conv=>whnf
     repeat'((first|refine st ?_|(refine sq ?_;intro K U)|(refine si ?_;intro A B Y Z)|(refine Y _ _ ?_;clear Z B Y A)|(refine U _ _ ?_;clear U K)|refine Y7 ?_|refine G5 ?_|fail)<;>conv=>whnf)
     refine FR x.kids.length (fun k (_:List Int)=>[(23,eI (Bo k))]) (fun _ s'=> .obj L (.loop .ready E ok)::(hOut nO v s'++(.box nW [Up p L nW]::rest))) (fun k s'=>s'.length=p.nodes.length∧DB p next (d+1) n size s=Is (DB p next d) x.op size k (x.kids.drop k) s') s1 rfl ⟨hl1,by simpa using hw⟩ hs ?_;clear hs hw;rintro k s' σ hk ⟨hl',hkids⟩ hs;rcases Bq x.kids hk with⟨kid,hkid,hlt⟩|hke
     ·have hck:Bo k=k:=Ad (by omega)
      rw[drop_cons hkid,Is]at hkids;have e0:IntKind.i64.wrap (depth+1)=depth+1:=wrap64 (by omega) (by omega);have e1:IntKind.i64.wrap (size+1)=size+1:=wrap64 (by omega) (by omega)
      have hrec: ∀(sz:Int) (σ:AG) (l:List At),0≤sz→sz+d≤100→Sat σ (l++(.obj L (.loop .ready E ok)::(hOut nO v s'++(.box nW [Up p L nW]::rest))))→BT Tryz.prog (Up p L nW) [eI kid,.a [eI sz,eI (depth+1)]] σ
       (dD L E ok (hOut nO v) (fun s=>s.length=p.nodes.length) (.box nW [Up p L nW]::rest) (.b true) (.b false) (ZO (DB p next d kid sz s'))):=fun sz σ l h0 h1 hs=>
       CZ (ih (by omega) kid sz (depth+1) s' (by omega) h0 h1 hl' nW rest σ (hs.less (List.sublist_append_right _ _)))
      conv=>whnf
      repeat'((first|refine st ?_|(refine sq ?_;intro K U)|(refine si ?_;intro A B Y Z)|(refine Y _ _ ?_;clear Z B Y A)|(refine U _ _ ?_;clear U K)|refine⟨rfl,?_⟩|refine⟨nb,?_⟩|refine ix ?_|refine Y7 ?_|refine ld ?_|refine G4 fun σ hs=>?_|refine GM fun σ hs=>?_|(refine FB (fun hc=>?_)<;>(try rw[hc])<;>clear hc)|(constructor<;>intro hc<;>(try rw[hc])<;>(replace hc:=bp hc)<;>(try simp(disch:=omega) only[Ce,wrap64,Ad]at hc))|(intro nn hnn;generalize hg:BI _ nn _=σ;refine D8 hg fun hs=>?_;clear hg)|fail)<;>conv=>whnf)
      all_goals
       simp only[e0,e1]
       first
        | rw[if_pos (by omega)]at hkids
          refine(hrec (size+1) _ [_] (by omega) (by omega) hs).mono ?_
        | rw[if_neg (by omega)]at hkids
          refine(hrec size _ [_] (by omega) (by omega) hs).mono ?_
       cases hw:DB p next d kid _ s' with
       | none=>
         rw[hw]at hkids;rintro r σ' ⟨rfl,s',hj,hs'⟩
         conv=>whnf
         repeat'((first|(refine Z _ _ _ ?_;clear Z B Y A)|clear U K)<;>conv=>whnf)
         refine C7 ?_;rw[hkids];exact⟨rfl,s',hj,hs'⟩
       | some s2=>
         rw[hw]at hkids;rintro r σ' ⟨rfl,hs'⟩
         conv=>whnf
         repeat'((first|refine st ?_|(refine si ?_;intro A B Y Z)|(refine Y _ _ ?_;clear Z B Y A)|(refine U _ _ ?_;clear U K)|refine⟨rfl,?_⟩|refine G5 ?_|clear U K)<;>conv=>whnf)
         exact⟨hlt,s2,rfl,⟨(IS _ hw).trans hl',hkids⟩,hs'⟩
     ·rw[Bt hke,Is]at hkids
      conv=>whnf
      repeat'((first|refine st ?_|(refine sq ?_;intro K U)|(refine si ?_;intro A B Y Z)|(refine Y _ _ ?_;clear Z B Y A)|(refine U _ _ ?_;clear U K)|refine⟨rfl,?_⟩|(refine F5 (fun hc=>?_)<;>(try rw[hc])<;>clear hc)|clear U K)<;>conv=>whnf)
      refine AO ?_;rw[hkids];exact⟨rfl,hs⟩
theorem q9 {a b:Nat} {A B:Prop} (e:a=b) (h:A):(a=b→A)∧(a≠b→B):=⟨fun _=>h,fun n=>absurd e n⟩
theorem tasN {a b:Nat} {A B:Prop} (e:a≠b) (h:B):(a=b→A)∧(a≠b→B):=⟨fun n=>absurd n e,fun _=>h⟩
theorem bC {P:Program} {σ:AG} {tab:List (TypeId×FuncId)} {t:TypeId} {f:FuncId} {v:V} {args:List V} {Q:R→AG→Prop} (h:look t tab=some f) (hc:BQ P f (v::args) σ Q):Bf P tab (.ET t v) args σ Q:=by
 unfold Bf;simp only[h];exact hc
theorem cY (p:Prog) (n size depth:Int):Pure Tryz.prog 167 [.a (Bz p),eI n,.a [eI size,eI depth]] (.f (.func 213) [] [.rp (Bz p),.rp [eI n],.rp [eI size,eI depth]]):=by
 refine vI nb ?_;have hs:=Sn
 conv=>whnf
 repeat'((first|refine st ?_|(refine sq ?_;intro K U)|(refine si ?_;intro A B Y Z)|(refine Y _ _ ?_;clear Z B Y A)|(refine U _ _ ?_;clear U K)|fail)<;>conv=>whnf)
 all_goals exact AY rfl
set_option maxHeartbeats 4000000 in
theorem su (p:Prog) (next:Bool) {L:Nat} {E:Env} {ok:FuncId→Array Tmp→Code→Code→Nat→Prop} {v:V} {nO:Nat}
 (hY:LP Tryz.prog L E ok eaP (hOut nO v) (fun s=>s.length=p.nodes.length) (fun y s=>ZO (EY p next y.1 y.2.1 y.2.2 s)) (dP p)) (n size:Int) (s:List Int) (h0:0≤size) (h1:size≤20) (hl:s.length=p.nodes.length) (rest:List At) (σ:AG)
 (hs : Sat σ (.obj L (.loop .ready E ok)::(hOut nO v s++rest))) :
  BQ Tryz.prog 213 [.f (.yield L) [] [],.rp (Bz p),.rp [eI n],.rp [eI size,eI 1]] σ
   (dD L E ok (hOut nO v) (fun s=>s.length=p.nodes.length) rest (.t []) (.t []) (ZO (DB p next 12 n size s))):=by
 refine uk nb ?_
 conv=>whnf
 repeat'((first|refine st ?_|(refine sq ?_;intro K U)|(refine si ?_;intro A B Y Z)|(refine Y _ _ ?_;clear Z B Y A)|(refine U _ _ ?_;clear U K)|refine⟨nb,?_⟩|refine ld ?_|refine G4 fun σ hs=>?_|(intro nn hnn;generalize hg:BI _ nn _=σ;refine D8 hg fun hs=>?_;clear hg)|fail)<;>conv=>whnf)
 have hp:Sat σ (.obj L (.loop .ready E ok)::(hOut nO v s++(.box nn [Up p L nn]::rest))):=hs.perm (by
  refine(List.Perm.swap _ _ _).trans (.cons _ ?_)
  exact(List.perm_middle (l₁:=hOut nO v s)).symm)
 refine CZ ((dc p next hY 12 (Nat.le_refl _) n size 1 s rfl h0 (by omega) hl nn rest σ hp).mono ?_);cases hw:DB p next 12 n size s with
 | none=>
   rintro r σ' ⟨rfl,s',hj,hs'⟩
   conv=>whnf
   repeat'((first|(refine Z _ _ _ ?_;clear Z B Y A)|fail)<;>conv=>whnf)
   refine C7 ?_;rw[hw];exact⟨rfl,s',hj,hs'.less (List.Sublist.append_left (List.sublist_cons_self _ _) _)⟩
 | some s2=>
   rintro r σ' ⟨rfl,hs'⟩
   conv=>whnf
   repeat'((first|(refine Y _ _ ?_;clear Z B Y A)|fail)<;>conv=>whnf)
   refine AO ?_;rw[hw];exact⟨rfl,hs'.less (.cons₂ _ (List.Sublist.append_left (List.sublist_cons_self _ _) _))⟩
theorem Tu (p:Prog) (x:Node):(x.op=5∧PC x.op= .ET 207 (.a []))∨(x.op≠5∧ ∃m:Int,PC x.op= .ET 205 (eI m)∧NK p x=m)∨(PC x.op= .DN∧NK p x= -1):=by
 unfold PC NK;by_cases h5:x.op=5
 ·exact .inl ⟨h5,by rw[if_pos h5]⟩
 ·rw[if_neg h5]
  split
  ·exact .inr (.inl ⟨h5,_,rfl,rfl⟩)
  split
  ·exact .inr (.inl ⟨h5,_,rfl,rfl⟩)
  split
  ·exact .inr (.inl ⟨h5,_,rfl,rfl⟩)
  split
  ·exact .inr (.inl ⟨h5,_,rfl,rfl⟩)
  ·exact .inr (.inr ⟨rfl,by rw[if_neg (by rintro⟨h,_⟩;exact h5 h)]⟩)
theorem RF {p:Prog} {x:Node} (h:x.op=5) {size:Int} (hn:QL p x size=true):0≤x.n∧x.n<p.EH.length∧NK p x=p.EH.getD x.n.toNat 0:=by
 have h2:0≤x.n∧x.n<p.EH.length:=by
  simp only[QL,h]at hn;simpa using hn
 refine⟨h2.1,h2.2,?_⟩;unfold NK;rw[h,if_neg (by decide),if_neg (by decide),if_neg (by decide),if_neg (by decide),if_pos ⟨rfl,h2.1,h2.2⟩]
theorem bI {p:Prog} {next:Bool} {n size depth:Int} {s:List Int} (h:n<0∨(p.nodes.length:Int)≤n∨0≤s.getD n.toNat 0∨12<depth):EY p next n size depth s=none:=by
 unfold EY;rw[if_pos h]
theorem bJ {p:Prog} {next:Bool} {n size depth:Int} {s:List Int} {y:Int} {x:Node} (h0:0≤n) (h1:n<(p.nodes.length:Int)) (hy:s[n.toNat]? =some y) (hy0:y<0) (hd:depth≤12) (hx:p.nodes[n.toNat]? =some x):EY p next n size depth s=if Fc p next size x then some (s.set n.toNat size)else none:=by
 have e:s.getD n.toNat 0=y:=by rw[FA,hy];rfl
 unfold EY;rw[if_neg (by rw[e];omega),hx]
def yi (p:Prog) (nO:Nat) (v:V) (rest:List At) (o:Option (List Int)) (r:R) (σ:AG):Prop:=
 match o with
 | some s=>r= .ret (.t [])∧Sat σ (hOut nO v s++rest)
 | none=>r= .Bi DZ∧ ∃s:List Int,s.length=p.nodes.length∧Sat σ (hOut nO v s++rest)
set_option maxHeartbeats 4000000 in
theorem RU (p:Prog) (next:Bool) {v:V} {nO:Nat} (hv:(Fb v).isSome=true) (n size:Int) (s:List Int) (h0:0≤size) (h1:size≤20) (hl:s.length=p.nodes.length) (rest:List At) (σ:AG) (hs:Sat σ (hOut nO v s++rest)) :
 BQ Tryz.prog 166 [eI n,eI size,.b next,.rp (Bz p),.p nO 0] σ (yi p nO v rest (DB p next 12 n size s)):=by
 refine BQ.fit (by kernel_rfl) fun hf=>?_
 have hM:=Mx
 have hfp:Eo (.a (Bz p)):=by
  have:=hf.2.2.2.1;simp only[RN]at this;simpa only[JJ]using this
 have⟨p1,p2,p3,p4⟩:=PE hfp;refine vJ nb ?_
 conv=>whnf
 repeat'((first|refine st ?_|(refine sq ?_;intro K U)|(refine si ?_;intro A B Y Z)|(refine Y _ _ ?_;clear Z B Y A)|(refine U _ _ ?_;clear U K)|refine⟨nb,?_⟩|refine Pure.use (cY _ _ _ _) ?_|(intro nn hnn;generalize hg:BI _ nn _=σ;refine D8 hg fun hs=>?_;clear hg)|fail)<;>conv=>whnf)
 refine BQ.mono (su p next (L:=nn) (v:=v) (nO:=nO) ?_ n size s h0 h1 hl rest σ hs) ?_
 ·refine L6 (fun y=>rfl) ?_
  clear hs hnn hl h0 h1;rintro⟨k,sz,dp⟩ s ⟨d0,d1,d2,d3,hl⟩ rest σ hs;dsimp only at d0 d1 d2 d3 hl;dsimp only;rw[show eaP (k,sz,dp)= [eI k,.a [eI sz,eI dp]] from rfl]
  conv=>whnf
  repeat'((first|refine st ?_|(refine sq ?_;intro K U)|(refine si ?_;intro A B Y Z)|(refine Y _ _ ?_;clear Z B Y A)|(refine Z _ _ _ ?_;clear Z B Y A)|(refine Z _ _ fun σ hsub=>?_;clear Z B Y A)|(refine U _ _ ?_;clear U K)|refine dr ?_|refine rk ?_ ?_|exact fun s e=>by cases e;rfl|refine⟨rfl,?_⟩|refine⟨nb,?_⟩|refine iq fun x hx=>?_|refine ld ?_|refine GM fun σ hs=>?_|refine oi ?_|refine ol fun x hx=>?_|refine oset fun σ hs=>?_|refine MM ?_|refine G5 ?_|(refine Cc (fun hc=>?_) (fun hc=>?_)<;>(replace hc:=bp hc)<;>(try simp(disch:=omega) only[Ce,wrap64,Ad]at hc)<;>(try(cases hc;done)))|refine Pure.use (X9 _ _ _) ?_|refine Pure.use (YH _) ?_|(rcases Tu p (by assumption)with⟨e5,ek⟩|⟨e5,m,ek,hm⟩|⟨ek,hm⟩<;>rw[ek]<;>clear ek)|refine q9 rfl ?_|refine tasN (by decide) ?_|refine bC rfl (Pure.use (yA _ _ _) ?_)|refine bC rfl (Pure.use (j9 _ _ (RF (by assumption) (by assumption)).1 (RF (by assumption) (by assumption)).2.1) ?_)|(constructor<;>intro hc<;>(try rw[hc])<;>(replace hc:=bp hc)<;>(try simp(disch:=omega) only[Ce,wrap64,Ad]at hc))|(intro nn hnn;generalize hg:BI _ nn _=σ;refine D8 hg fun hs=>?_;clear hg)|clear U K)<;>conv=>whnf)
  all_goals first
   | (intro hn;refine PW (s:=s) (by rw[bI (by first|omega|(rw[FA,‹s[k.toNat]? =some _›];simp only[Option.getD_some];omega))];rfl) hl (hs.less (by repeat first|exact List.Sublist.refl _|apply List.Sublist.cons)) hn)
   | skip
  all_goals
   have hva:=bJ (next:=next) (size:=sz) (depth:=dp) (show 0≤k by omega) (show k<(p.nodes.length:Int) by omega) ‹s[k.toNat]? =some _› (by assumption) (by omega) ‹p.nodes[k.toNat]? =some _›
   rename Node=>x
   have hk5:x.op=5→QL p x sz=true→NK p x=p.EH.getD x.n.toNat 0:=fun h hn=>(RF h hn).2.2
   intro hn
  all_goals first
   | (rw[if_neg (by first|(intro h;rw[Fc,hk5 (by assumption) (by assumption)]at h;simp only[BO,Dp]at h;exact absurd h.1 (by assumption))|(simp[Fc, *];done)|(simp[Fc, *];omega)|(rw[Fc,hk5 (by assumption) (by assumption)];simp[*];done)|(simp[Fc, *];intros;omega))]at hva
      refine PW (s:=s.set k.toNat sz) (by rw[hva];rfl) (by simpa using hl) ?_ hn
      first
       | exact hs.less (by repeat first|exact List.Sublist.refl _|apply List.Sublist.cons)
       | exact(hs.less (by repeat first|exact List.Sublist.refl _|apply List.Sublist.cons)).up (by assumption))
   | (rw[if_pos (by first|(simp[Fc, *];done)|(rw[Fc,hk5 (by assumption) (by assumption)];simp[*];done))]at hva
      exact Sw (s:=s.set k.toNat sz) (by rw[hva];rfl) (hs.less (by repeat first|exact List.Sublist.refl _|apply List.Sublist.cons)) hn)
 ·cases hw:DB p next 12 n size s with
  | none=>
    rintro r σ' ⟨rfl,s',hj,hs'⟩
    conv=>whnf
    exact C7 ⟨rfl,s',hj,hs'⟩
  | some s2=>
    rintro r σ' ⟨rfl,hs'⟩;refine Gh hs' fun σ2 hs2=>?_
    conv=>whnf
    exact AO ⟨rfl,hs2⟩
def Er (w:AM):Prop:=Jr w.parents∧w.owner.length≤40∧ ∀o∈w.owner,(3:Int)≤o∧o<3+(w.parents.length:Int)
def UU (us:List Nat) (l:List Int) (s:Nat):Nat:=l.foldl (fun s c=>s|||us.getD c.toNat 0) s
def CS (g:List (List Int)):Nat→List Nat
 | 0=>[1,3,5]
 | k+1=>CS g k++[UU (CS g k) (g.getD k []) (1|||2 ^ (3+k))]
def EF (g:List (List Int)):List Nat:=CS g g.length
def dJ (us:List Nat):List V:=us.map eU++List.replicate (63 - us.length) (eU 0)
def wC (w:AM) (us:List Nat):List V:=CY w++dJ us
theorem FT (g:List (List Int)): ∀k,(CS g k).length=3+k
 | 0=>rfl
 | k+1=>by simp[CS,FT g k];omega
theorem Zu (w:AM) {us:List Nat} (h:us.length≤63):(wC w us).length=65:=by
 simp only[wC,CY,dJ,UE,Mu,List.length_nil,Ce,List.length_replicate];omega
theorem Zt (w:AM) (us:List Nat) (s:Nat) (h:us.length<63):(wC w us).set (2+us.length) (eU s)=wC w (us++[s]):=by
 simp only[wC,dJ];rw[List.set_append_right _ _ (by simp[CY])];congr 1;have e:2+us.length - (CY w).length=us.length:=by simp[CY]
 rw[e,List.set_append_right _ _ (by simp)];rw[Ce,Nat.sub_self,List.map_append,UR];congr 1;rw[show 63 - us.length=(63 - (us++[s]).length)+1 by simp;omega,List.replicate_succ];rfl
theorem kQ (w:AM) (us:List Nat) {i:Nat} (h:i<us.length):(wC w us)[2+i]? =some (eU (us.getD i 0)):=by
 simp only[wC,dJ];rw[List.getElem?_append_right (by simp[CY]),show 2+i - (CY w).length=i by simp[CY],qv (by simpa using h),Rv,Fs h,FA,Fs h];rfl
def wT (us:List Nat):Prop:= ∀u∈us,u<18446744073709551616
theorem Qb {us:List Nat} (h:wT us) (i:Nat):us.getD i 0<18446744073709551616:=by
 rw[FA];cases hx:us[i]? with
 | none=>simp
 | some x=>exact h x (Fo hx)
theorem Qx {us:List Nat} (h:wT us): ∀(l:List Int) (s:Nat),s<18446744073709551616→UU us l s<18446744073709551616
 | [],_,hs=>hs
 | c::r,s,hs=>Qx h r _ (Jp hs (Qb h _))
theorem KE (g:List (List Int)): ∀k,k≤60→wT (CS g k)
 | 0,_=>by intro u hu;simp[CS]at hu;omega
 | k+1,hk=>by
   intro u hu;simp only[CS,FQ,List.mem_singleton]at hu;rcases hu with hu|rfl
   ·exact KE g k (by omega) u hu
   ·exact Qx (KE g k (by omega)) _ _ (Jp (by decide) (JD (by omega)))
theorem r7 (w:AM) (us:List Nat) (c:Int) {n:Nat} (hM:w.parents.length≤60):Bx Tryz.prog 178 [.p n 0,eI c] [.box n (wC w us)] fun r post=>r= .ret (.b (decide (3≤c)&&decide (c<3+(w.parents.length:Int))))∧post= [.box n (wC w us)]:=by
 intro σ hs;have hw:IntKind.i64.wrap (3+((Ji w.parents).length:Nat))=3+(w.parents.length:Int):=by rw[Ce,wrap64 (by omega) (by omega)]
 refine u9 nb ?_
 conv=>whnf
 repeat'((first|refine st ?_|(refine sq ?_;intro K U)|(refine si ?_;intro A B Y Z)|(refine Y _ _ ?_;clear Z B Y A)|(refine U _ _ ?_;clear U K)|refine⟨rfl,?_⟩|refine ld ?_|(constructor<;>intro hc<;>(try rw[hc])<;>(replace hc:=bp hc))|fail)<;>conv=>whnf)
 ·refine AO ⟨_,⟨?_,rfl⟩,hs⟩
  rw[hw,decide_eq_true (show 3≤c by omega)];rfl
 ·refine AO ⟨_,⟨?_,rfl⟩,hs⟩
  rw[decide_eq_false (show¬3≤c by omega)];rfl
theorem cO (w:AM) (us:List Nat) (c:Int) (hM:w.parents.length≤60):Pure Tryz.prog 222 [.rp (wC w us),eI c] (.b (Uk w c)):=by
 have hw:IntKind.i64.wrap (3+((Ji w.parents).length:Nat))=3+(w.parents.length:Int):=by rw[Ce,wrap64 (by omega) (by omega)]
 refine ud nb ?_;have hs:=Sn
 conv=>whnf
 repeat'((first|refine st ?_|(refine sq ?_;intro K U)|(refine si ?_;intro A B Y Z)|(refine Y _ _ ?_;clear Z B Y A)|(refine U _ _ ?_;clear U K)|refine⟨rfl,?_⟩|(constructor<;>intro hc<;>(try rw[hc])<;>(replace hc:=bp hc))|fail)<;>conv=>whnf)
 ·refine AY ?_
  rw[hw,Uk,decide_eq_true (show 0≤c by omega)];rfl
 ·refine AY ?_
  rw[Uk,decide_eq_false (show¬0≤c by omega)];rfl
theorem dj (w:AM) (us:List Nat) (c:Int) (hM:w.owner.length≤60):Pure Tryz.prog 254 [.rp (wC w us),eI c] (.b (M8 w c)):=by
 refine uQ nb ?_;have hs:=Sn
 conv=>whnf
 repeat'((first|refine st ?_|(refine sq ?_;intro K U)|(refine si ?_;intro A B Y Z)|(refine Y _ _ ?_;clear Z B Y A)|(refine U _ _ ?_;clear U K)|refine⟨rfl,?_⟩|(constructor<;>intro hc<;>(try rw[hc])<;>(replace hc:=bp hc))|fail)<;>conv=>whnf)
 ·refine AY ?_
  rw[M8,decide_eq_true (show 0≤c by omega),Ce];rfl
 ·refine AY ?_
  rw[M8,decide_eq_false (show¬0≤c by omega)];rfl
theorem eM (w:AM) (us:List Nat) (l:List Int) (f:Bool) (hM:w.owner.length≤60):Pure Tryz.prog 221 [.rp (wC w us),.l (iL l) f] (.b (Hl w l)):=by
 have hall:=kC (g:=254) (fi:=[.rp (wC w us)]) (ca:=[]) (f:=M8 w) (xs:=l) f (fun y _=>dj w us y hM);refine ue nb ?_;have hs:=Sn
 conv=>whnf
 repeat'((first|refine st ?_|(refine sq ?_;intro K U)|(refine si ?_;intro A B Y Z)|(refine Y _ _ ?_;clear Z B Y A)|(refine U _ _ ?_;clear U K)|refine⟨rfl,?_⟩|(constructor<;>intro hc<;>(try rw[hc])<;>(replace hc:=bp hc)<;>(try simp(disch:=omega) only[Ce,wrap64,Ad]at hc))|refine Pure.use (by assumption) ?_|fail)<;>conv=>whnf)
 ·refine AY ?_
  rw[Hl,decide_eq_true (show l.length≤2 by omega),Bool.and_true];rfl
 ·refine AY ?_
  rw[Hl,decide_eq_false (show¬l.length≤2 by omega),Bool.and_false];rfl
theorem Ge (s:Nat) (c:Int) (hs0:s<18446744073709551616) (h0:0≤c) (hc:c<64):Pure Tryz.prog 176 [eU s,eI c] (eU (s|||2 ^ c.toNat)):=by
 have:=WU s c.toNat hs0 (by omega);rw[Int.toNat_of_nonneg h0]at this;exact this
theorem up3 {k:Nat} (h:k<3):([1,3,5]:List Nat).take k++[1|||2 ^ k]= [1,3,5].take (k+1):=by
 rcases k with _|_|_|k
 ·rfl
 ·rfl
 ·rfl
 ·omega
set_option maxHeartbeats 4000000 in
theorem eS (w:AM) (hw:Er w):Pure Tryz.prog 139 [.a (CY w)] (.t [.rp (wC w (EF w.parents)),.b true]):=by
 obtain⟨⟨hl,hrow⟩,ho,how⟩:=hw;have hM:=Mx;refine Pure.of ?_;refine vW nb ?_;have hs:=Sn;have hi1:((Ji w.parents).length:Int)≤60:=by rw[Ce];omega
 have hi2:((iL w.owner).length:Int)≤40:=by rw[Ce];omega
 conv=>whnf
 repeat'((first|refine st ?_|(refine sq ?_;intro K U)|(refine si ?_;intro A B Y Z)|(refine Y _ _ ?_;clear Z B Y A)|(refine U _ _ ?_;clear U K)|refine⟨rfl,?_⟩|refine⟨nb,?_⟩|(constructor<;>intro hc<;>(try rw[hc])<;>(replace hc:=bp hc)<;>(try simp(disch:=omega) only[Ce,wrap64,Ad]at hc)<;>try(exfalso;omega))|(intro nn hnn;generalize hg:BI _ nn _=σ;refine D8 hg fun hs=>?_;clear hg)|fail)<;>conv=>whnf)
 generalize nn=n0 at *;refine FR 3 (fun k (_:Unit)=>[(24,eI (Bo k))]) (fun k _=>[.box n0 (wC w ([1,3,5].take k))]) (fun k _=>True) () rfl trivial hs ?_;clear hs;rintro k - σ hk - hs;have hck:Bo k=k:=Ad (by omega);have hlen:(([1,3,5]:List Nat).take k).length=k:=by simp;omega
 by_cases hlt:k<3
 ·have hst:=Zt w ([1,3,5].take k) (1|||2 ^ k) (by omega)
  rw[hlen,up3 hlt]at hst
  conv=>whnf
  repeat'((first|refine st ?_|(refine sq ?_;intro K U)|(refine si ?_;intro A B Y Z)|(refine Y _ _ ?_;clear Z B Y A)|(refine U _ _ ?_;clear U K)|refine dr ?_|refine⟨rfl,?_⟩|refine Y8 ?_|refine Pure.use (Ge 1 _ (by decide) (by omega) (by omega)) ?_|(constructor<;>intro hc<;>(try rw[hc])<;>(replace hc:=bp hc)<;>(try simp(disch:=omega) only[Ce,wrap64,Ad]at hc)<;>try(exfalso;omega))|fail)<;>conv=>whnf)
  refine Mo hs 0 rfl rfl (by rw[Zu w (by omega)];omega) fun σ hs=>?_
  conv=>whnf
  repeat'((first|(refine si ?_;intro A B Y Z)|(refine Y _ _ ?_;clear Z B Y A)|(refine U _ _ ?_;clear U K)|refine dr ?_|refine⟨rfl,?_⟩|clear U K)<;>conv=>whnf)
  refine⟨hlt,(),rfl,trivial,?_⟩;rw[hck,Int.toNat_natCast,Nat.mul_one,Nat.zero_add]at hs;simp only[List.set_cons_zero]at hs;rw[hst]at hs;exact hs
 ·have hke:k=3:=by omega
  subst hke;clear hk hck hlen hlt
  conv=>whnf
  repeat'((first|refine st ?_|(refine sq ?_;intro K U)|(refine si ?_;intro A B Y Z)|(refine Y _ _ ?_;clear Z B Y A)|(refine U _ _ ?_;clear U K)|refine⟨rfl,?_⟩|(constructor<;>intro hc<;>(try rw[hc])<;>(replace hc:=bp hc)<;>(try simp(disch:=omega) only[Ce,wrap64,Ad]at hc)<;>try(exfalso;omega))|clear U K)<;>conv=>whnf)
  refine FR w.parents.length (fun k (_:Unit)=>[(38,eI (Bo k))]) (fun k _=>[.box n0 (wC w (CS w.parents k))]) (fun k _=>True) () rfl trivial hs ?_;clear hs;rintro k - σ hk - hs;have hck:Bo k=k:=Ad (by omega);have hul:=FT w.parents k;have huo:=KE w.parents k (by omega);have hw3:IntKind.i64.wrap (3+(k:Int))=3+(k:Int):=wrap64 (by omega) (by omega);rcases Bq w.parents hk with⟨row,hr,hlt⟩|hke
  ·obtain⟨r1,r2,r3⟩:=hrow k row hr
   rw[←hck]at hw3
   conv=>whnf
   repeat'((first|refine st ?_|(refine sq ?_;intro K U)|(refine si ?_;intro A B Y Z)|(refine Y _ _ ?_;clear Z B Y A)|(refine U _ _ ?_;clear U K)|refine⟨rfl,?_⟩|refine ix ?_|(refine FB (fun hc=>?_)<;>(try rw[hc])<;>clear hc)|refine Pure.use (Ge 1 _ (by decide) (by omega) (by omega)) ?_|fail)<;>conv=>whnf)
   have hbig:wT (CS w.parents k):=huo;have hst0:IntKind.i64.wrap (3+Bo k)=3+(k:Int):=by rw[hck];exact wrap64 (by omega) (by omega)
   have hs0lt:1|||2 ^ (3+k)<18446744073709551616:=Jp (by decide) (JD (by omega))
   have hs0e:1|||2 ^ (IntKind.i64.wrap (3+Bo k)).toNat=1|||2 ^ (3+k):=by rw[hst0,show(3+(k:Int)).toNat=3+k by omega]
   rw[hs0e];refine FR row.length (fun j (s:Nat)=>[(48,eI (Bo j)),(8,eU s)]) (fun _ _=>[.box n0 (wC w (CS w.parents k))]) (fun j s=>s=UU (CS w.parents k) (row.take j) (1|||2 ^ (3+k))) (1|||2 ^ (3+k)) rfl rfl hs ?_;clear hs;rintro j s σ hj hse hs;rcases Bq row hj with⟨c,hcj,hjlt⟩|hje
   ·obtain⟨q1,q2⟩:=r3 c (Fo hcj)
    have hload:(wC w (CS w.parents k))[0+2+c.toNat*1]? =some (eU ((CS w.parents k).getD c.toNat 0)):=by
     have:=kQ w (CS w.parents k) (i:=c.toNat) (by omega);rw[←this];congr 1;omega
    have hnc:(row.take j).contains c=false:=by
     rw[←Bool.not_eq_true,List.contains_iff_mem];intro hm;obtain⟨i,hi,he⟩:=List.mem_iff_getElem.1 hm;have hi':i<j:=by rw[UD]at hi;omega
     rw[List.getElem_take]at he;have hcj':=(List.getElem?_eq_some_iff.1 hcj).2;exact absurd ((List.getElem_inj r2).1 (he.trans hcj'.symm)) (by omega)
    have hct: ∀b,Pure Tryz.prog 172 [.l (iL (row.take j)) b,eI c] (.b false):=fun b=>by
     have:=Dc (row.take j) b c
     rwa [hnc]at this
    conv=>whnf
    repeat'((first|refine st ?_|(refine sq ?_;intro K U)|(refine si ?_;intro A B Y Z)|(refine Y _ _ ?_;clear Z B Y A)|(refine U _ _ ?_;clear U K)|refine⟨rfl,?_⟩|refine ix ?_|refine sk1 ?_|refine Y8 ?_|refine ld ?_|refine G5 ?_|(refine FB (fun hc=>?_)<;>(try rw[hc])<;>clear hc)|refine Pure.use (hct _) ?_|(rw[hload])|(constructor<;>intro hc<;>(try rw[hc])<;>(replace hc:=bp hc)<;>(try simp(disch:=omega) only[Ce,wrap64,Ad]at hc)<;>try(exfalso;omega))|clear U K)<;>conv=>whnf)
    refine⟨hjlt,s|||(CS w.parents k).getD c.toNat 0,?_,?_,hs⟩
    ·have hsl:s<18446744073709551616:=by rw[hse];exact Qx huo _ _ hs0lt
     rw[KA hsl (Qb huo _)];rfl
    ·rw[hse,BF hcj]
     simp only[UU,List.foldl_append];rfl
   ·conv=>whnf
    repeat'((first|refine st ?_|(refine sq ?_;intro K U)|(refine si ?_;intro A B Y Z)|(refine Y _ _ ?_;clear Z B Y A)|(refine U _ _ ?_;clear U K)|refine⟨rfl,?_⟩|refine Y8 ?_|(refine F5 (fun hc=>?_)<;>(try rw[hc])<;>clear hc)|clear U K)<;>conv=>whnf)
    refine Mo hs 0 rfl rfl (by rw[Zu w (by omega),hst0];omega) fun σ hs=>?_
    conv=>whnf
    repeat'((first|(refine si ?_;intro A B Y Z)|(refine Y _ _ ?_;clear Z B Y A)|(refine U _ _ ?_;clear U K)|refine⟨rfl,?_⟩|clear U K)<;>conv=>whnf)
    refine⟨hlt,(),rfl,trivial,?_⟩
    have e:CS w.parents (k+1)=CS w.parents k++[s]:=by
     rw[hse,CS,FA,hr,hje,List.take_length];rfl
    have hst:=Zt w (CS w.parents k) s (by omega);rw[e,←hst];have e2:0+2+(IntKind.i64.wrap (3+Bo k)).toNat*1=2+(CS w.parents k).length:=by rw[hst0,hul];omega
    rw[e2]at hs;exact hs
  ·have hown:=ai 178 [.p n0 0] [] (fun _=>[.box n0 (wC w (CS w.parents k))]) (SO fun c=>decide (3≤c)&&decide (c<3+(w.parents.length:Int))) (fun _ _=>True) (fun y s _ σ hs=>CZ (BQ.mono (r7 w (CS w.parents k) y (by omega) σ hs) (by
    rintro r σ' ⟨post,⟨h1,h2⟩,h3⟩;subst h2
    exact⟨h1,h3⟩))) w.owner false () (K8 fun _ _ _=>trivial)
   rw[Ic]at hown
   have hall:(w.owner.all fun c=>decide (3≤c)&&decide (c<3+(w.parents.length:Int)))=true:=by
    rw[GL];intro o hoo;have:=how o hoo;simp only[BO,DU];exact this
   rw[hall]at hown
   conv=>whnf
   repeat'((first|refine st ?_|(refine sq ?_;intro K U)|(refine si ?_;intro A B Y Z)|(refine Y _ _ ?_;clear Z B Y A)|(refine U _ _ ?_;clear U K)|refine⟨rfl,?_⟩|(refine F5 (fun hc=>?_)<;>(try rw[hc])<;>clear hc)|clear U K)<;>conv=>whnf)
   refine hown.use (rest:=[]) hs ?_;rintro r post σ ⟨rfl,rfl⟩ hs
   conv=>whnf
   repeat'((first|refine st ?_|(refine Y _ _ ?_;clear Z B Y A)|(refine U _ _ ?_;clear U K)|fail)<;>conv=>whnf)
   rw[hke]at hs;exact KB (σ2:=emp) (fun n o ho=>by cases ho) (.t (.cons (hs.frzB 0 rfl (.refl _ _ _)) (.cons (.refl _) .nil))) rfl
def LA (w:AM) (f:Fact):Bool:=decide (0≤f.arg)&&(decide (f.arg<3)&&(Hl w f.path&&(if f.op=2 then f.n==0&&Uk w f.cls else f.cls==0&&(decide (-1000000000≤f.n)&&decide (f.n≤1000000000)))))
def D4 (w:AM) (f:Fact):Int→Int→Bool×Int:=f.G8 fun f l left deep=>
 if IntKind.i64.wrap (left - 1)<0∨deep=0∨f.op<1∨7<f.op∨f.kids.length≠Cy f.op then(false,IntKind.i64.wrap (left - 1))else
 if Cu f then(LA w f,IntKind.i64.wrap (left - 1))else
 if f.arg≠0∨0<f.path.length∨f.cls≠0∨f.n≠0 then(false,IntKind.i64.wrap (left - 1))else
 CW (fun(k:Int→Int→Bool×Int) s=>k s (deep - 1)) l (IntKind.i64.wrap (left - 1))
theorem Ke {α β S:Type} (g:α→β) (stp:β→S→Bool×S): ∀(l:List α) (s:S),CW stp (l.map g) s=CW (fun a s=>stp (g a) s) l s
 | [],_=>rfl
 | a::r,s=>by simp only[List.map_cons,CW,Ke g stp r]
theorem Gi (w:AM) (f:Fact) (left deep:Int):D4 w f left deep =
 if IntKind.i64.wrap (left - 1)<0∨deep=0∨f.op<1∨7<f.op∨f.kids.length≠Cy f.op then(false,IntKind.i64.wrap (left - 1))else
 if Cu f then(LA w f,IntKind.i64.wrap (left - 1))else
 if f.arg≠0∨0<f.path.length∨f.cls≠0∨f.n≠0 then(false,IntKind.i64.wrap (left - 1))else
 CW (fun k s=>D4 w k s (deep - 1)) f.kids (IntKind.i64.wrap (left - 1)):=by
 rw[D4,Fact.Dg,Ke];rfl
theorem WE {w:AM} {f:Fact} {left deep L1:Int} {b:Bool} {nL:Nat} {σ:AG} (hs:Sat σ [.box nL [eI L1]]) (h:D4 w f left deep=(b,L1)):BJ σ (.b b) fun r σ'=> ∃post:List At,(r=R.ret (.b (D4 w f left deep).1)∧post= [.box nL [eI (D4 w f left deep).2]])∧Sat σ' post:=by
 rw[h];exact AO ⟨_,⟨rfl,rfl⟩,hs⟩
set_option maxHeartbeats 4000000 in
theorem eZ (w:AM) (us:List Nat) (hw1:w.parents.length≤60) (hw2:w.owner.length≤60) (nL:Nat) (f:Fact): ∀(left deep:Int),0≤deep→deep≤12→
 Bx Tryz.prog 181 [.rp (wC w us),.a (xF f),.p nL 0,eI deep] [.box nL [eI left]] fun r post=>r= .ret (.b (D4 w f left deep).1)∧post= [.box nL [eI (D4 w f left deep).2]]:=by
 induction f using Fact.ind with
 | h f ih=>
   intro left deep hd0 hd1 σ hs;refine BQ.fit (by kernel_rfl) fun hf=>?_
   have⟨h2,h3,h4⟩:=oa hf.2.1;have hM:=Mx;have hdw:IntKind.i64.wrap (deep - 1)=deep - 1:=wrap64 (by omega) (by omega);refine u0 nb ?_
   have hstep:DD Tryz.prog (.f (.func 223) [] [.rp [.rp (wC w us)],.rp [.p nL 0],.rp [eI deep]]) (fun y=> .a (xF y)) (fun s=>[.box nL [eI s]]) (fun k s=>D4 w k s (deep - 1)) (fun y _=>y∈f.kids∧deep≠0):=by
    rintro y s ⟨hy,hdn⟩ σ hs;refine CZ ?_;show BQ Tryz.prog 223 ([]++[.a (xF y)]++[.rp [.rp (wC w us)],.rp [.p nL 0],.rp [eI deep]]) σ _;refine uc nb ?_
    conv=>whnf
    repeat'((first|refine st ?_|(refine sq ?_;intro K U)|(refine si ?_;intro A B Y Z)|(refine Y _ _ ?_;clear Z B Y A)|(refine U _ _ ?_;clear U K)|refine⟨rfl,?_⟩|refine⟨nb,?_⟩|fail)<;>conv=>whnf)
    rw[hdw];refine(ih y hy s (deep - 1) (by omega) (by omega)).use (rest:=[]) hs ?_;rintro r post σ ⟨rfl,rfl⟩ hs
    conv=>whnf
    repeat'((first|refine st ?_|(refine Y _ _ ?_;clear Z B Y A)|(refine U _ _ ?_;clear U K)|fail)<;>conv=>whnf)
    exact AO ⟨rfl,hs⟩
   conv=>whnf
   repeat'((first|refine st ?_|(refine sq ?_;intro K U)|(refine si ?_;intro A B Y Z)|(refine Y _ _ ?_;clear Z B Y A)|(refine U _ _ ?_;clear U K)|refine dr ?_|refine rk ?_ ?_|exact fun s e=>by cases e;rfl|refine⟨rfl,?_⟩|refine⟨nb,?_⟩|refine ld ?_|refine G4 fun σ hs=>?_|refine Pure.use (Q9 _) ?_|refine Pure.use (fE _) ?_|refine Pure.use (cO w us _ hw1) ?_|refine Pure.use (eM w us _ _ hw2) ?_|(constructor<;>intro hc<;>(try rw[hc])<;>(replace hc:=bp hc)<;>(try simp(disch:=omega) only[Ce,wrap64,Ad]at hc))|clear U K)<;>conv=>whnf)
   all_goals first
    | (refine WE hs ?_;rw[Gi,if_pos (by omega)];done)
    | (refine WE hs ?_;rw[Gi,if_neg (by omega),if_pos (by assumption)];simp[LA, *];done)
    | (refine WE hs ?_;rw[Gi,if_neg (by omega),if_pos (by assumption)];simp[LA, *];intros;omega)
    | (refine WE hs ?_;rw[Gi,if_neg (by omega),if_neg (by simp[*]),if_pos (by omega)];done)
    | skip
   refine(ah 223 [] _ _ _ _ hstep f.kids false (IntKind.i64.wrap (left - 1)) h2 (K8 fun y hy _=>⟨hy,by omega⟩)).use (rest:=[]) hs ?_;have hE:=Gi w f left deep;rw[if_neg (by omega),if_neg (by simp[*]),if_neg (by omega)]at hE;rw[←hE];rintro r post σ ⟨rfl,rfl⟩ hs
   conv=>whnf
   repeat'((first|refine st ?_|(refine Y _ _ ?_;clear Z B Y A)|(refine U _ _ ?_;clear U K)|fail)<;>conv=>whnf)
   exact AO ⟨_,⟨rfl,rfl⟩,hs⟩
def Js (w:AM) (f:Fact):Bool:=(D4 w f 24 12).1
theorem YW (w:AM) (us:List Nat) (hw1:w.parents.length≤60) (hw2:w.owner.length≤60) (f:Fact):Pure Tryz.prog 180 [.a (xF f),.rp [.rp (wC w us)]] (.b (Js w f)):=by
 refine Pure.of ?_;refine u6 nb ?_;have hs:=Sn
 conv=>whnf
 repeat'((first|refine st ?_|(refine sq ?_;intro K U)|(refine si ?_;intro A B Y Z)|(refine Y _ _ ?_;clear Z B Y A)|(refine U _ _ ?_;clear U K)|refine⟨nb,?_⟩|refine G4 fun σ hs=>?_|(intro nn hnn;generalize hg:BI _ nn _=σ;refine D8 hg fun hs=>?_;clear hg)|fail)<;>conv=>whnf)
 refine(eZ w us hw1 hw2 _ f 24 12 (by omega) (by omega)).use (rest:=[]) hs ?_;rintro r post σ ⟨rfl,rfl⟩ hs
 conv=>whnf
 repeat'((first|refine st ?_|(refine Y _ _ ?_;clear Z B Y A)|(refine U _ _ ?_;clear U K)|fail)<;>conv=>whnf)
 exact AO rfl
theorem kB {g:FuncId} {fi ca:List V} {f:Fact→Bool} {xs:List Fact} (b:Bool) (hl:xs.length≤Ax) (h: ∀y∈xs,Pure Tryz.prog g (fi++[.a (xF y)]++ca) (.b (f y))):Pure Tryz.prog 179 [.l (facts xs) b,.f (.func g) fi ca] (.b (xs.all f)):=by
 have:=ah g fi ca (fun _=>[]) (fun y (_:Unit)=>(f y,())) (fun y _=>y∈xs) (fun y s hy σ hs=>CZ (BQ.mono ((h y hy).use (k:=fun v σ'=>v= .b (f y)∧Sat σ' []) (kp:=fun _ _=>False) ⟨rfl,Sat.nil⟩) (by
  rintro(v|v) σ' hq
  ·obtain⟨rfl,h⟩:=hq
   exact⟨rfl,h⟩
  ·exact hq.elim))) xs b () hl (K8 fun y hy _=>hy)
 rw[Ic]at this;exact Pure.of (BQ.mono (this emp Sat.nil) fun r σ' ⟨post,⟨h1,h2⟩,h3⟩=>h1)
theorem YY (w:AM) (us:List Nat) (hw1:w.parents.length≤60) (hw2:w.owner.length≤60) (l:List Fact) (b:Bool) (hl:l.length≤60):Pure Tryz.prog 140 [.rp (wC w us),.l (facts l) b] (.b (l.all (Js w))):=by
 have hall:=kB (g:=180) (fi:=[]) (ca:=[.rp [.rp (wC w us)]]) (f:=Js w) (xs:=l) b (by simp only[Ax];omega) fun y _=>YW w us hw1 hw2 y
 refine vV nb ?_;have hs:=Sn
 conv=>whnf
 repeat'((first|refine st ?_|(refine sq ?_;intro K U)|(refine si ?_;intro A B Y Z)|(refine Y _ _ ?_;clear Z B Y A)|(refine U _ _ ?_;clear U K)|refine Pure.use (by assumption) ?_|fail)<;>conv=>whnf)
 exact AY rfl
theorem Wc (w:AM) (hw:Er w) (l:List Fact) (b:Bool) (hl:l.length≤60):Pure Tryz.prog 109 [.a (CY w),.l (facts l) b] (.t [.rp (wC w (EF w.parents)),.b (l.all (Js w))]):=by
 have hfo:=YY w (EF w.parents) (by have:=hw.1.1;omega) (by have:=hw.2.1;omega) l b hl;refine ve nb ?_;have hs:=Sn
 conv=>whnf
 repeat'((first|refine st ?_|(refine sq ?_;intro K U)|(refine si ?_;intro A B Y Z)|(refine Y _ _ ?_;clear Z B Y A)|(refine U _ _ ?_;clear U K)|refine⟨nb,?_⟩|refine Pure.use (eS w hw) ?_|refine Pure.use hfo ?_|fail)<;>conv=>whnf)
 all_goals exact AY rfl
theorem Yz (w:AM) (hw:Er w) (f:Fact):Pure Tryz.prog 170 [.a (CY w),.a (xF f)] (eI (if Js w f then 0 else 2)):=by
 have hfo: ∀b,Pure Tryz.prog 109 [.a (CY w),.l [Gb f] b] (.t [.rp (wC w (EF w.parents)),.b (Js w f)]):=fun b=>by
  have:=Wc w hw [f] b (by simp);simpa using this
 refine vF nb ?_;have hs:=Sn
 conv=>whnf
 repeat'((first|refine st ?_|(refine sq ?_;intro K U)|(refine si ?_;intro A B Y Z)|(refine Y _ _ ?_;clear Z B Y A)|(refine U _ _ ?_;clear U K)|refine⟨nb,?_⟩|fail)<;>conv=>whnf)
 rw[CO]at hfo;refine(hfo _).use ?_
 conv=>whnf
 repeat'((first|refine st ?_|(refine sq ?_;intro K U)|(refine si ?_;intro A B Y Z)|(refine Y _ _ ?_;clear Z B Y A)|(refine U _ _ ?_;clear U K)|refine Pure.use (VM _) ?_|fail)<;>conv=>whnf)
 exact AY rfl
end Go.Gl
namespace Go.Gl
theorem Kk {most:Int}: ∀(l:List Fact) (n:Int),(∀k∈l,∀m:Int,(Og k:Int)≤m→Cv k m=Og k)→n+(l.map Og).sum≤most→Dt (l.map Cv) n most=n+(l.map Og).sum
 | [],n,_,_=>by simp[Dt]
 | k::r,n,h,h1=>by
   simp only[List.map_cons,List.sum_cons,Dt]at *;rw[if_pos (by omega),h k (.head _) (most - n) (by omega),Kk r _ (fun k' hk'=>h k' (.tail _ hk')) (by omega)];omega
theorem Rb (f:Fact): ∀m:Int,(Og f:Int)≤m→Cv f m=Og f:=by
 induction f using Fact.ind with
 | h f ih=>
   intro m hm;rw[Lb];rw[NY]at *;rw[Kk f.kids 1 ih (by omega)];omega
theorem YB (f:Fact) {m:Int} (h0:0≤m):Cv f m≤m↔(Og f:Int)≤m:=
 ⟨fun h=>by rw[←OC f m h0 h];exact h,fun h=>by rw[Rb f m h];exact h⟩
theorem jy (f:Fact):1≤Og f:=by rw[NY];omega
theorem Fl {m:Int}: ∀(l:List Int) (a:Int),l.foldl R0 a≤m↔a≤m∧ ∀x∈l,x≤m
 | [],a=>by simp
 | x ::r,a=>by
   rw[List.foldl_cons,Fl r];unfold R0;constructor
   ·rintro⟨h1,h2⟩
    refine⟨by split at h1<;>omega,fun y hy=>?_⟩;rcases G3.1 hy with rfl|hy
    ·split at h1<;>omega
    ·exact h2 y hy
   ·rintro⟨h1,h2⟩
    have hx:=h2 x (.head _);exact⟨by split<;>omega,fun y hy=>h2 y (.tail _ hy)⟩
theorem cK (f:Fact) {m:Int}:GD f≤m↔1≤m∧ ∀k∈f.kids,GD k≤m - 1:=by
 rw[P2];constructor
 ·intro h
  have:=(Fl (m:=m - 1) (f.kids.map GD) 0).1 (by omega);exact⟨by omega,fun k hk=>this.2 _ (List.mem_map_of_mem hk)⟩
 ·rintro⟨h1,h2⟩
  have:=(Fl (m:=m - 1) (f.kids.map GD) 0).2 ⟨by omega,fun x hx=>by
   obtain⟨k,hk,rfl⟩:=Oe.1 hx
   exact h2 k hk⟩
  omega
def Zh (w:AM) (f:Fact) (left deep:Int):Prop:=(Og f:Int)≤left∧GD f≤deep∧B6 w f=true
theorem P9 (w:AM) {deep:Int}: ∀(l:List Fact) (left:Int),0≤left→left≤24→(∀k∈l,∀left:Int,0≤left→left≤24→((D4 w k left deep).1=true↔Zh w k left deep)∧((D4 w k left deep).1=true→(D4 w k left deep).2=left - Og k))→
 ((CW (fun k s=>D4 w k s deep) l left).1=true↔((l.map Og).sum:Int)≤left∧ ∀k∈l,GD k≤deep∧B6 w k=true)∧((CW (fun k s=>D4 w k s deep) l left).1=true→(CW (fun k s=>D4 w k s deep) l left).2=left - ((l.map Og).sum:Nat))
 | [],left,h0,h1,_=>by simp[CW];exact h0
 | k ::r,left,h0,h1,h=>by
   obtain⟨ha,hb⟩:=h k (.head _) left h0 h1;simp only[CW,List.map_cons,List.sum_cons];cases hk:(D4 w k left deep).1
   ·simp only[Ls,if_false,false_iff,false_implies,and_true]
    rintro⟨h2,h3⟩;have:=ha.2 ⟨by omega,(h3 k (.head _)).1,(h3 k (.head _)).2⟩;rw[hk]at this;cases this
   ·obtain⟨g1,g2,g3⟩:=ha.1 hk
    have hc:=jy k;rw[if_pos rfl,hb hk];obtain⟨i1,i2⟩:=P9 w r (left - Og k) (by omega) (by omega) fun k' hk'=>h k' (.tail _ hk')
    refine⟨i1.trans ⟨fun⟨e1,e2⟩=>⟨by omega,fun x hx=>?_⟩,fun⟨e1,e2⟩=>⟨by omega,fun x hx=>e2 x (.tail _ hx)⟩⟩,fun h=>by rw[i2 h];omega⟩;rcases G3.1 hx with rfl|hx
    ·exact⟨g2,g3⟩
    ·exact e2 x hx
theorem eY (w:AM) (f:Fact): ∀left deep:Int,0≤left→left≤24→0≤deep→((D4 w f left deep).1=true↔Zh w f left deep)∧((D4 w f left deep).1=true→(D4 w f left deep).2=left - Og f):=by
 induction f using Fact.ind with
 | h f ih=>
   intro left deep h0 h1 hd;have hw:IntKind.i64.wrap (left - 1)=left - 1:=wrap64 (by omega) (by omega);rw[Gi,hw];have hc:=NY f;have hn:=DG w f;have hdl:=cK f (m:=deep)
   have hko:D6 w f=true→f.kids.length=Cy f.op:=fun h=>by
    simp only[D6,BO,Dp]at h;exact h.2.1
   have hop:D6 w f=true→1≤f.op∧f.op≤7:=fun h=>by
    simp only[D6,BO]at h;have h1:=h.1;unfold Y4 at h1;split at h1
    ·omega
    split at h1
    ·omega
    simp at h1;omega
   by_cases hbad:left - 1<0∨deep=0∨f.op<1∨7<f.op∨f.kids.length≠Cy f.op
   ·rw[if_pos hbad]
    simp only[Ls,false_iff,false_implies,and_true];rintro⟨g1,g2,g3⟩;rw[hn,BO]at g3;have g4:=hko g3.1;have g5:=hop g3.1;have g6:=(hdl.1 g2).1;omega
   rw[if_neg hbad];by_cases hl:Cu f=true
   ·rw [if_pos hl]
    have hl':f.op=2∨f.op=3∨f.op=4:=by
     simp only[Cu,Bool.or_eq_true,Dp]at hl;omega
    have hk0:f.kids= []:=by
     have:f.kids.length=Cy f.op:=by omega
     rw[Cy,if_neg (by omega),if_neg (by omega)]at this;exact List.length_eq_zero_iff.1 this
    have hd1:GD f=1:=by rw[P2,hk0];rfl
    have hc1:Og f=1:=by rw[hc,hk0];rfl
    have hh:D6 w f=LA w f:=by
     unfold D6 Y4 LA;rw[hl,hk0];have e:Cy f.op=0:=by rw[Cy,if_neg (by omega),if_neg (by omega)]
     rw[e];simp only[List.length_nil,beq_self_eq_true,Bool.true_and,Bool.true_or,Bool.and_true];rcases hl' with e|e|e
     ·rw[if_pos e,if_pos e]
      cases(f.n==0&&Uk w f.cls)<;>simp
     ·rw[if_neg (show¬f.op=2 by omega),if_neg (show¬f.op=2 by omega),if_pos (show f.op=3∨f.op=4 from .inl e)]
      cases(f.cls==0&&(decide (-1000000000≤f.n)&&decide (f.n≤1000000000)))<;>simp
     ·rw[if_neg (show¬f.op=2 by omega),if_neg (show¬f.op=2 by omega),if_pos (show f.op=3∨f.op=4 from .inr e)]
      cases(f.cls==0&&(decide (-1000000000≤f.n)&&decide (f.n≤1000000000)))<;>simp
    refine⟨⟨fun h=>⟨by omega,by omega,?_⟩,fun⟨_,_,h⟩=>?_⟩,fun _=>by dsimp only;omega⟩
    ·rw[hn,hk0,hh];simpa using h
    ·rw[hn,hk0,hh]at h;simpa using h
   ·have hl':f.op=1∨f.op=5∨f.op=6∨f.op=7:=by
     simp only[Cu,Bool.or_eq_true,Dp]at hl;omega
    have hlf:Cu f=false:=by simpa using hl
    rw[if_neg hl];by_cases hz:f.arg≠0∨0<f.path.length∨f.cls≠0∨f.n≠0
    ·rw[if_pos hz]
     simp only[Ls,false_iff,false_implies,and_true];rintro⟨g1,g2,g3⟩;rw[hn,BO]at g3;have g4:=g3.1;simp only[D6,hlf,Bool.false_or,BO,Dp]at g4;omega
    ·rw [if_neg hz]
     obtain⟨i1,i2⟩:=P9 w (deep:=deep - 1) f.kids (left - 1) (by omega) (by omega) fun k hk left hl0 hl1=>ih k hk left (deep - 1) hl0 hl1 (by omega)
     have hh:D6 w f=true:=by
      have hp:f.path= []:=List.length_eq_zero_iff.1 (by omega)
      have e1:Y4 w f=true:=by
       unfold Y4;rw[if_neg (by omega),if_neg (by omega)];simp only[Bool.or_eq_true,Dp];omega
      have z1:f.arg=0:=by omega
      have z2:f.cls=0:=by omega
      have z3:f.n=0:=by omega
      have z4:f.kids.length=Cy f.op:=by omega
      simp[D6,e1,hlf,hp,z1,z2,z3,z4,Hl]
     refine⟨i1.trans ⟨fun⟨e1,e2⟩=>⟨by omega,hdl.2 ⟨by omega,fun k hk=>(e2 k hk).1⟩,?_⟩,fun⟨g1,g2,g3⟩=>⟨by omega,fun k hk=>⟨(hdl.1 g2).2 k hk,?_⟩⟩⟩,fun h=>by rw[i2 h];omega⟩
     ·rw[hn,hh,Bool.true_and,GL]
      exact fun k hk=>(e2 k hk).2
     ·rw[hn,hh,Bool.true_and,GL]at g3
      exact g3 k hk
theorem W6 (w:AM) (f:Fact):Js w f=GY w f:=by
 have:=(eY w f 24 12 (by omega) (by omega) (by omega)).1;rw[Js,GY,Bool.eq_iff_iff,this,Zh];simp only[BO,DU];rw[YB f (by omega)]
end Go.Gl
namespace Go.Gl
open Go.Proofs
attribute [local irreducible] BQ BJ A5 Ab AQ A4 Ac Af AR Az AW Aa BT Bf Sat An BZ A6 W
theorem KX {p:Prog} (h:CA p=true):Er (Ar p)∧CX p.AU≤40∧p.AU.length≤10:=by
 have h1:=h;rw[OV]at h1;simp only[BO,DU]at h1;have h2:=h;simp only[CA,BO,DU]at h2;have hm:=(Gs _ _ h2.2.1).1;refine⟨⟨D1 h1.2.2.2.1,?_,fun o ho=>?_⟩,by omega,h1.1⟩
 ·rw[Ar,DK];omega
 ·have:=FN ho
  simp only[Ar,BE,Ce];omega
def cz (s:List Int):Prop:= ∀x∈s,(-1:Int)≤x
theorem fM {s:List Int} (h:cz s) (i:Nat) {x:Int} (hx:0≤x):cz (s.set i x):=fun y hy=>by
 rcases List.mem_or_eq_of_mem_set hy with hy|rfl
 ·exact h y hy
 ·omega
theorem TB {f:Int→Int→List Int→Option (List Int)} (hf: ∀ {a b s s'},0≤b→f a b s=some s'→cz s→cz s') {op size:Int} (h0:0≤size): ∀(i:Nat) (l:List Int) {s s':List Int},Is f op size i l s=some s'→cz s→cz s'
 | _,[],s,s',h,hs=>by cases h;exact hs
 | i,k::r,s,s',h,hs=>by
   simp only[Is]at h;split at h
   ·cases h
   ·rename_i s1 h1
    refine TB hf h0 (i+1) r h (hf ?_ h1 hs);split<;>omega
theorem KC {p:Prog} {next:Bool}: ∀(d:Nat) {n size:Int} {s s':List Int},0≤size→DB p next d n size s=some s'→cz s→cz s'
 | 0,_,_,_,_,_,h,_=>by cases h
 | d + 1,n,size,s,s',h0,h,hs=>by
   simp only[DB]at h;split at h
   ·cases h
   ·split at h
    ·cases h
    ·split at h
     ·exact TB (fun hb h hs=>KC d hb h hs) h0 0 _ h (fM hs _ h0)
     ·cases h
theorem fN {s:List Int} (h:cz s):(s.all fun n=>decide (0≤n))= !s.contains (-1):=by
 rw[Bool.eq_iff_iff];simp only[GL,DU,Bool.not_eq_true',←Bool.not_eq_true,List.contains_iff_mem];constructor
 ·intro h1 h2
  have:=h1 _ h2;omega
 ·intro h1 x hx
  have:=h x hx;rcases Int.lt_or_le x 0 with hlt|hle
  ·exact absurd ((show x= -1 by omega) ▸ hx) h1
  ·exact hle
def wG (p:Prog) (nO:Nat) (r:R) (σ:AG):Prop:=
 match Br p with
 | some s=>r= .ret (.t [])∧ ∃v,Sat σ [.box nO [v],.own v 1 (iL s)]
 | none=>r= .Bi DZ∧ ∃v s,Sat σ [.box nO [v],.own v 1 (iL s)]
theorem XW {p:Prog} {nO:Nat} {σ:AG} {v:V} {s:List Int} {l:List At} (h:Br p=none) (hs:Sat σ l) (hsub: [At.box nO [v],.own v 1 (iL s)].Sublist l):A5 σ DZ (wG p nO):=C7 (by
 rw[wG,h]
 exact⟨rfl,v,s,hs.less hsub⟩)
theorem szT {p:Prog} {nO:Nat} {σ:AG} {v:V} {s:List Int} {l:List At} (h:Br p=some s) (hs:Sat σ l) (hsub: [At.box nO [v],.own v 1 (iL s)].Sublist l):BJ σ (.t []) (wG p nO):=AO (by
 rw[wG,h]
 exact⟨rfl,v,hs.less hsub⟩)
theorem Qe {p:Prog} (h:FE p=false):Br p=none:=by unfold Br;rw[h];rfl
theorem j8 {w:AM} {f:Fact} (h:GY w f=true):Sb f=true:=VW (w:=w) f (by simp only[GY,BO]at h;exact h.2.2)
theorem Vm {w:AM} (hw:Er w) (f:Fact):Pure Tryz.prog 170 [.a (CY w),.a (xF f)] (eI (if GY w f then 0 else 2)):=by
 rw[←W6];exact Yz w hw f
theorem X7 {α:Type} (a b c:α): [a,b,c].Perm [c,b,a]:=by simpa using(List.reverse_perm [a,b,c]).symm
set_option maxHeartbeats 4000000 in
theorem bT (p : Prog) (nO:Nat) (σ:AG) (hs:Sat σ [.box nO [.l [] true]]):BQ Tryz.prog 162 [.rp (Bz p),.p nO 0] σ (wG p nO):=by
 refine BQ.fit (by kernel_rfl) fun hf=>?_
 have hM:=Mx
 have hfp:Eo (.a (Bz p)):=by
  have:=hf.1;simp only[RN]at this;simpa only[JJ]using this
 have⟨p1,p2,p3,p4⟩:=PE hfp;refine vM nb ?_;have hcl:=Vy p;replace hs:Sat σ [.box nO [.l [] true],.own (.l [] true) 1 (iL [])]:=Xd hs 1;cases hcB:CA p with
 | false=>
   rw[hcB]at hcl
   conv=>whnf
   repeat'((first|refine st ?_|(refine sq ?_;intro K U)|(refine si ?_;intro A B Y Z)|refine⟨nb,?_⟩|fail)<;>conv=>whnf)
   refine hcl.use (pre:=[]) (rest:=[.box nO [.l [] true],.own (.l [] true) 1 (iL [])]) hs ?_;rintro r post σ ⟨rfl,rfl⟩ hs
   conv=>whnf
   repeat'((first|(refine Z _ _ _ ?_;clear Z B Y A)|clear U K)<;>conv=>whnf)
   exact XW (Qe (by simp[FE,hcB])) hs (.refl _)
 | true=>
   rw[hcB]at hcl;obtain⟨hgW,hmS,h10⟩:=KX hcB
   conv=>whnf
   repeat'((first|refine st ?_|(refine sq ?_;intro K U)|(refine si ?_;intro A B Y Z)|refine⟨nb,?_⟩|fail)<;>conv=>whnf)
   refine hcl.use (pre:=[]) (rest:=[.box nO [.l [] true],.own (.l [] true) 1 (iL [])]) hs ?_;clear hs;rintro r post σ ⟨rfl,rfl⟩ hs
   conv=>whnf
   repeat'((first|refine st ?_|(refine sq ?_;intro K U)|(refine si ?_;intro A B Y Z)|(refine Y _ _ ?_;clear Z B Y A)|(refine Z _ _ _ ?_;clear Z B Y A)|(refine U _ _ ?_;clear U K)|refine⟨rfl,?_⟩|(refine Cc (fun hc=>?_) (fun hc=>?_)<;>(replace hc:=bp hc)<;>(try simp(disch:=omega) only[Ce,wrap64,Ad]at hc)<;>(try(cases hc;done)))|(constructor<;>intro hc<;>(try rw[hc])<;>(replace hc:=bp hc)<;>(try simp(disch:=omega) only[Ce,wrap64,Ad]at hc))|clear U K)<;>conv=>whnf)
   rotate_left
   all_goals first
    | exact XW (Qe (by simp[FE, *];intros;omega)) hs (.refl _)
    | skip
   have a1:p.EH.length≤8:=by omega
   have a2:p.methods.length≤16:=by omega
   have a3:1≤p.nodes.length:=by omega
   have a4:p.nodes.length≤120:=by omega
   have hg:FE p=p.EH.all fun g=>decide (1≤g)&&decide (g≤3):=by
    simp only[FE,a1,a2,a3,a4,decide_true,Bool.true_and];simp[*]
   refine FR p.EH.length (fun k (_:Unit)=>[(36,eI (Bo k))]) (fun _ _=>[.box nO [.l [] true],.own (.l [] true) 1 (iL [])]) (fun k _=>FE p=(p.EH.drop k).all fun g=>decide (1≤g)&&decide (g≤3)) () rfl (by simpa using hg) hs ?_;clear hs hg;rintro k - σ hk hn hs;rcases Bq p.EH hk with⟨g,hgk,hlt⟩|hke
   ·rw[drop_cons hgk,List.all_cons]at hn
    conv=>whnf
    repeat'((first|refine st ?_|(refine sq ?_;intro K U)|(refine si ?_;intro A B Y Z)|(refine Y _ _ ?_;clear Z B Y A)|(refine Z _ _ _ ?_;clear Z B Y A)|(refine U _ _ ?_;clear U K)|refine⟨rfl,?_⟩|refine ix ?_|(refine FB (fun hc=>?_)<;>(try rw[hc])<;>clear hc)|(refine Cc (fun hc=>?_) (fun hc=>?_)<;>(replace hc:=bp hc)<;>(try simp(disch:=omega) only[Ce,wrap64,Ad]at hc)<;>(try(cases hc;done)))|(constructor<;>intro hc<;>(try rw[hc])<;>(replace hc:=bp hc))|clear U K)<;>conv=>whnf)
    ·exact⟨hlt,(),rfl,by rw[hn];simp[*],hs⟩
    ·exact XW (Qe (by rw[hn,decide_eq_false (show¬g≤3 by omega)];simp)) hs (.refl _)
    ·exact XW (Qe (by rw[hn,decide_eq_false (show¬1≤g by omega)];simp)) hs (.refl _)
   ·have hh : FE p=true:=by rw[hn,Bt hke];rfl
    have hL:=eg hh;clear hn
    conv=>whnf
    repeat'((first|refine st ?_|(refine sq ?_;intro K U)|(refine si ?_;intro A B Y Z)|(refine Y _ _ ?_;clear Z B Y A)|(refine U _ _ ?_;clear U K)|refine⟨rfl,?_⟩|(refine F5 (fun hc=>?_)<;>(try rw[hc])<;>clear hc)|clear U K)<;>conv=>whnf)
    rw[Ce];refine(Xz p.nodes.length a3 a4).use (pre:=[]) (rest:=[.box nO [.l [] true],.own (.l [] true) 1 (iL [])]) hs ?_;clear hs;rintro r post σ ⟨v,rfl,rfl,hv⟩ hs
    conv=>whnf
    repeat'((first|refine st ?_|(refine sq ?_;intro K U)|(refine si ?_;intro A B Y Z)|(refine Y _ _ ?_;clear Z B Y A)|(refine U _ _ ?_;clear U K)|refine⟨nb,?_⟩|refine G4 fun σ hs=>?_|refine GM fun σ hs=>?_|refine Pure.use (Sd p (by omega) (by omega)) ?_|(intro nn hnn;generalize hg:BI _ nn _=σ;refine D8 hg fun hs=>?_;clear hg)|fail)<;>conv=>whnf)
    rename_i nw hnw _ hs;generalize nn=n5 at *;replace hs:=hs.less (show [At.box n5 (CY (Ar p)),.own v 1 (iL (List.replicate p.nodes.length (-1))),.box nO [v]].Sublist _ from .cons₂ _ (.cons₂ _ (.cons₂ _ (.cons _ .slnil))));refine FR p.methods.length (fun k (s:List Int)=>[(59,eI (Bo k))]) (fun _ s=>[.box nO [v],.own v 1 (iL s),.box n5 (CY (Ar p))]) (fun k s=>s.length=p.nodes.length∧cz s∧Br p=NF p (runM p (p.methods.drop k) s)) (List.replicate p.nodes.length (-1)) rfl ⟨by simp,fun x hx=>by rw[List.eq_of_mem_replicate hx];omega,hL⟩ (hs.perm (X7 _ _ _)) ?_;clear hs hnw hnn;rintro k s σ hk ⟨hl,hge,hn⟩ hs;rcases Bq p.methods hk with⟨m,hm,hlt⟩|hke
    ·have hF:=Vm hgW m.fact
     cases hfB:GY (Ar p) m.fact with
     | false=>
       rw[hfB,if_neg Bool.false_ne_true]at hF;have hno:=IU hm hn (by simp[V3,hfB])
       conv=>whnf
       repeat'((first|refine st ?_|(refine sq ?_;intro K U)|(refine si ?_;intro A B Y Z)|(refine Y _ _ ?_;clear Z B Y A)|(refine Z _ _ _ ?_;clear Z B Y A)|(refine Z _ _ fun σ hsub=>?_;clear Z B Y A)|(refine U _ _ ?_;clear U K)|refine dr ?_|refine rk ?_ ?_|exact fun s e=>by cases e;rfl|refine⟨rfl,?_⟩|refine⟨nb,?_⟩|refine ix ?_|refine ld ?_|refine GM fun σ hs=>?_|(refine FB (fun hc=>?_)<;>(try rw[hc])<;>clear hc)|(refine Cc (fun hc=>?_) (fun hc=>?_)<;>(replace hc:=bp hc)<;>(try simp(disch:=omega) only[Ce,wrap64,Ad]at hc)<;>(try(cases hc;done)))|refine Pure.use hF ?_|(constructor<;>intro hc<;>(try rw[hc])<;>(replace hc:=bp hc)<;>try(exfalso;omega))|(intro nn hnn;generalize hg:BI _ nn _=σ;refine D8 hg fun hs=>?_;clear hg)|clear U K)<;>conv=>whnf)
       all_goals first
        | (refine XW (v:=v) (s:=s) hno hs ?_;(repeat first|exact List.nil_sublist _|apply List.Sublist.cons₂|apply List.Sublist.cons);done)
        | (refine XW (v:=v) (s:=s) hno (hs.up (by assumption)) ?_;(repeat first|exact List.nil_sublist _|apply List.Sublist.cons₂|apply List.Sublist.cons);done)
        | skip
     | true=>
       rw[hfB,if_pos rfl]at hF;have hsp:=Xu _ (j8 hfB)
       conv=>whnf
       repeat'((first|refine st ?_|(refine sq ?_;intro K U)|(refine si ?_;intro A B Y Z)|(refine Y _ _ ?_;clear Z B Y A)|(refine Z _ _ _ ?_;clear Z B Y A)|(refine Z _ _ fun σ hsub=>?_;clear Z B Y A)|(refine U _ _ ?_;clear U K)|refine dr ?_|refine rk ?_ ?_|exact fun s e=>by cases e;rfl|refine⟨rfl,?_⟩|refine⟨nb,?_⟩|refine ix ?_|refine Y7 ?_|refine iq fun x hx=>?_|refine ld ?_|refine GM fun σ hs=>?_|(refine FB (fun hc=>?_)<;>(try rw[hc])<;>clear hc)|(refine Cc (fun hc=>?_) (fun hc=>?_)<;>(replace hc:=bp hc)<;>(try simp(disch:=omega) only[Ce,wrap64,Ad]at hc)<;>(try(cases hc;done)))|refine Pure.use hF ?_|refine Pure.use hsp ?_|(constructor<;>intro hc<;>(try rw[hc])<;>(replace hc:=bp hc)<;>(try simp(disch:=omega) only[Ce,wrap64,Ad]at hc)<;>try(exfalso;omega))|(intro nn hnn;generalize hg:BI _ nn _=σ;refine D8 hg fun hs=>?_;clear hg)|clear U K)<;>conv=>whnf)
       all_goals first
        | (refine XW (v:=v) (s:=s) (IU hm hn ?_) hs ?_;(simp[V3, *];intros;omega);(repeat first|exact List.nil_sublist _|apply List.Sublist.cons₂|apply List.Sublist.cons);done)
        | (refine XW (v:=v) (s:=s) (IU hm hn ?_) (hs.up (by assumption)) ?_;(simp[V3, *];intros;omega);(repeat first|exact List.nil_sublist _|apply List.Sublist.cons₂|apply List.Sublist.cons);done)
        | skip
       rotate_left 2
       ·refine XW (v:=v) (s:=s) (IU hm hn ?_) (hs.up (by assumption)) ?_
        ·simp only[V3,show p.EH.getD m.gen.toNat 0=x by rw[FA,hx];rfl,decide_eq_false (show¬JB m.fact≤x by omega),Bool.and_false]
        ·repeat first|exact List.nil_sublist _|apply List.Sublist.cons₂|apply List.Sublist.cons
       all_goals
        have hx13:=YN hh hx;have hgd:p.EH.getD m.gen.toNat 0=x:=by rw[FA,hx];rfl
        have hok:V3 p m=true:=by simp only[V3,hgd,BO,DU];exact⟨by omega,by omega,by omega,by omega,hfB,by assumption⟩
        have hgo:=fun s'=>dv (s':=s') hm hn hok
        have hno:=Xx hm hn hok;rw[hgd]at hgo hno
       ·have hnb:NB m.kind=(m.kind==4):=by simp[NB, *]
        rw[hnb]at hgo hno;refine CZ ((RU p (m.kind==4) hv m.node x s (by omega) (by omega) hl [.box n5 (CY (Ar p))] σ (hs.less (.cons _ (.refl _)))).mono ?_);cases hw:DB p (m.kind==4) 12 m.node x s with
        | none=>
          clear hs;rintro r σ' ⟨rfl,s',hl',hs⟩
          conv=>whnf
          repeat'((first|(refine Z _ _ fun σ hsub=>?_;clear Z B Y A)|clear U K)<;>conv=>whnf)
          exact XW (v:=v) (s:=s') (hno hw) (hs.up (by assumption)) (.cons₂ _ (.cons₂ _ (List.nil_sublist _)))
        | some s2=>
          clear hs;rintro r σ' ⟨rfl,hs⟩
          conv=>whnf
          repeat'((first|(refine si ?_;intro A B Y Z)|(refine Y _ _ ?_;clear Z B Y A)|(refine U _ _ ?_;clear U K)|refine dr ?_|refine⟨rfl,?_⟩|clear U K)<;>conv=>whnf)
          exact⟨hlt,s2,rfl,⟨(IS _ hw).trans hl,KC _ (by omega) hw hge,hgo s2 hw⟩,hs⟩
       ·have hnb:NB m.kind=true:=by simp[NB, *]
        rw[hnb]at hgo hno;refine CZ ((RU p true hv m.node x s (by omega) (by omega) hl [.box n5 (CY (Ar p))] σ (hs.less (.cons _ (.refl _)))).mono ?_);cases hw:DB p true 12 m.node x s with
        | none=>
          clear hs;rintro r σ' ⟨rfl,s',hl',hs⟩
          conv=>whnf
          repeat'((first|(refine Z _ _ fun σ hsub=>?_;clear Z B Y A)|clear U K)<;>conv=>whnf)
          exact XW (v:=v) (s:=s') (hno hw) (hs.up (by assumption)) (.cons₂ _ (.cons₂ _ (List.nil_sublist _)))
        | some s2=>
          clear hs;rintro r σ' ⟨rfl,hs⟩
          conv=>whnf
          repeat'((first|(refine si ?_;intro A B Y Z)|(refine Y _ _ ?_;clear Z B Y A)|(refine U _ _ ?_;clear U K)|refine dr ?_|refine⟨rfl,?_⟩|clear U K)<;>conv=>whnf)
          exact⟨hlt,s2,rfl,⟨(IS _ hw).trans hl,KC _ (by omega) hw hge,hgo s2 hw⟩,hs⟩
    ·subst hke
     rw[List.drop_length,runM]at hn
     conv=>whnf
     repeat'((first|refine st ?_|(refine sq ?_;intro K U)|(refine si ?_;intro A B Y Z)|(refine Y _ _ ?_;clear Z B Y A)|(refine U _ _ ?_;clear U K)|refine⟨rfl,?_⟩|refine⟨nb,?_⟩|refine ix ?_|refine ld ?_|refine GM fun σ hs=>?_|(refine fc (fun x hx hlt hc=>?_) (fun hk hc=>?_)<;>(try rw[hc])<;>clear hc)|(constructor<;>intro hc<;>(try rw[hc])<;>(replace hc:=bp hc)<;>try(exfalso;omega))|(intro nn hnn;generalize hg:BI _ nn _=σ;refine D8 hg fun hs=>?_;clear hg)|clear U K)<;>conv=>whnf)
     rw[NF]at hn;refine CZ ((RU p false hv p.main 0 s (by omega) (by omega) hl [.box n5 (CY (Ar p))] σ hs).mono ?_);cases hw:DB p false 12 p.main 0 s with
     | none=>
       rw[hw]at hn;clear hs;rintro r σ' ⟨rfl,s',hl',hs⟩
       conv=>whnf
       repeat'((first|(refine Z _ _ _ ?_;clear Z B Y A)|clear U K)<;>conv=>whnf)
       exact XW (v:=v) (s:=s') hn hs (.cons₂ _ (.cons₂ _ (List.nil_sublist _)))
     | some s2=>
       rw[hw]at hn;have hge2:=KC _ (by omega) hw hge;simp only[fN hge2]at hn;clear hs;rintro r σ' ⟨rfl,hs⟩;have hct:=fun f=>Dc s2 f (-1)
       cases hyes:s2.contains (-1)with
       | true=>
         rw[hyes]at hct hn
         conv=>whnf
         repeat'((first|(refine si ?_;intro A B Y Z)|(refine Y _ _ ?_;clear Z B Y A)|(refine U _ _ ?_;clear U K)|refine ld ?_|fail)<;>conv=>whnf)
         refine Pure.ZT (hct false) (.cons (hs.Jk 1 rfl) (.cons (.refl _) .nil)) rfl ?_
         conv=>whnf
         repeat'((first|(refine Z _ _ _ ?_;clear Z B Y A)|(refine Cc (fun hc=>?_) (fun hc=>?_)<;>(replace hc:=bp hc)<;>(try simp(disch:=omega) only[Ce,wrap64,Ad]at hc)<;>(try(cases hc;done)))|fail)<;>conv=>whnf)
         all_goals exact XW (v:=v) (s:=s2) hn (by first|exact hs|exact hs.up (by assumption)) (.cons₂ _ (.cons₂ _ (List.nil_sublist _)))
       | false=>
         rw[hyes]at hct hn
         conv=>whnf
         repeat'((first|(refine si ?_;intro A B Y Z)|(refine Y _ _ ?_;clear Z B Y A)|(refine U _ _ ?_;clear U K)|refine ld ?_|fail)<;>conv=>whnf)
         refine Pure.ZT (hct false) (.cons (hs.Jk 1 rfl) (.cons (.refl _) .nil)) rfl ?_
         conv=>whnf
         repeat'((first|(refine Y _ _ ?_;clear Z B Y A)|(refine Cc (fun hc=>?_) (fun hc=>?_)<;>(replace hc:=bp hc)<;>(try simp(disch:=omega) only[Ce,wrap64,Ad]at hc)<;>(try(cases hc;done)))|fail)<;>conv=>whnf)
         all_goals exact szT (v:=v) hn hs (.cons₂ _ (.cons₂ _ (List.nil_sublist _)))
end Go.Gl
