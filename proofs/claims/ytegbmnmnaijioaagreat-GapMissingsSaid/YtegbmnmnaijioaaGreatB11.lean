import Derived.Test.YtegbmnmnaijioaaGreatB10
set_option linter.all false
set_option linter.defProp false
noncomputable section
namespace Go.Gl
open Go.Proofs
attribute [local irreducible] A8 Ap Ag AT AL Ae AS AU AK Ad AO AP Aw A2 Sat AX A0 Ai W
def E4 (p:Prog) (next:Bool) (n size depth:Int) (s:List Int):Option (List Int):=
 if n<0∨(p.nodes.length:Int)≤n∨0≤s.getD n.toNat 0∨12<depth then none else
 match p.nodes[n.toNat]? with
 | none=>none
 | some x=>if Dz p next size x then some (s.set n.toNat size)else none
def bV {S:Type}:Option S→Rd S
 | some s=> .go s
 | none=> .Bf Dj
abbrev uq (y:Int×Int×Int):List V:=[eI y.1,.a [eI y.2.1,eI y.2.2]]
abbrev hOut (nO:Nat) (v:V) (s:List Int):List At:=[.box nO [v],.own v 1 (iL s)]
abbrev dP (p:Prog) (y:Int×Int×Int) (s:List Int):Prop:=0≤y.2.1∧y.2.1≤100∧1≤y.2.2∧y.2.2≤13∧s.length=p.nodes.length
abbrev WA (p:Prog) (L nW:Nat):V:= .f (.func 328) [] [.rp [.f (.yield L) [] []],.rp (Ba p),.p nW 0]
def Wk {p:Prog} {next:Bool} {n size depth:Int} {s s':List Int} (h:E4 p next n size depth s=some s'):0≤n∧n<(p.nodes.length:Int)∧s.getD n.toNat 0<0∧depth≤12∧ ∃x,p.nodes[n.toNat]? =some x∧Dz p next size x=true∧s'=s.set n.toNat size:=by
 unfold E4 at h;split at h
 ·cases h
 ·rename_i hc
  split at h
  ·cases h
  ·rename_i x hx
   split at h
   ·rename_i hok
    simp only[I9]at h;exact⟨by omega,by omega,by omega,by omega,x,hx,hok,h.symm⟩
   ·cases h
def Wj {p:Prog} {next:Bool} {d:Nat} {n size depth:Int} {s:List Int} (hd:depth=13 - (d+1:Nat)) (hd1:1≤depth):CJ p next (d+1) n size s=match E4 p next n size depth s with
    | none=>none
    | some s'=>match p.nodes[n.toNat]? with
      | none=>none
      | some x=>FM (CJ p next d) x.op size 0 x.kids s':=by
 unfold E4;simp only[CJ];by_cases h:n<0∨(p.nodes.length:Int)≤n∨0≤s.getD n.toNat 0
 ·rw[if_pos h,if_pos (by omega)]
 ·rw[if_neg h,if_neg (by omega)]
  cases hx:p.nodes[n.toNat]? with
  | none=>rfl
  | some x=>
    simp only;split
    ·rfl
    ·rfl
def Wl {p:Prog} {next:Bool} {n size depth:Int} {s:List Int} (hd:12<depth):E4 p next n size depth s=none:=by
 unfold E4;rw[if_pos (by omega)]
def Qv {f:Int→Int→List Int→Option (List Int)} (hf: ∀ {a b s s'},f a b s=some s'→s'.length=s.length) {op size:Int}: ∀(i:Nat) (l:List Int) {s s':List Int},FM f op size i l s=some s'→s'.length=s.length
 | _,[],s,s',h=>by cases h;rfl
 | i,k::r,s,s',h=>by
   simp only[FM]at h;split at h
   ·cases h
   ·rename_i s1 h1
    exact(Qv hf (i+1) r h).trans (hf h1)
def JL {p:Prog} {next:Bool}: ∀(d:Nat) {n size:Int} {s s':List Int},CJ p next d n size s=some s'→s'.length=s.length
 | 0,_,_,_,_,h=>by cases h
 | d + 1,n,size,s,s',h=>by
   simp only[CJ]at h;split at h
   ·cases h
   ·split at h
    ·cases h
    ·split at h
     ·exact(Qv (fun h=>JL d h) 0 _ h).trans (by simp)
     ·cases h
set_option maxHeartbeats 4000000 in
def gu (p : Prog) (next:Bool) {L:Nat} {E:Env} {ok:FuncId→Array Tmp→Code→Code→Nat→Prop} {v:V} {nO:Nat}
    (hY:ME Tryz.prog L E ok uq (hOut nO v) (fun s=>s.length=p.nodes.length) (fun y s=>bV (E4 p next y.1 y.2.1 y.2.2 s)) (dP p)) :
    ∀ d : Nat,d≤12→ ∀(n size depth:Int) (s:List Int),depth=13 - d→0≤size→size+d≤100→s.length=p.nodes.length→ ∀(nW:Nat) (rest:List At) (σ:AH),
      Sat σ (.obj L (.loop .ready E ok)::(hOut nO v s++(.box nW [WA p L nW]::rest)))→
      A8 Tryz.prog 328 [eI n,.a [eI size,eI depth],.rp [.f (.yield L) [] []],.rp (Ba p),.p nW 0] σ
       (gV L E ok (hOut nO v) (fun s=>s.length=p.nodes.length) (.box nW [WA p L nW]::rest) (.b true) (.b false) (bV (CJ p next d n size s))):=by
 intro d
 induction d with
 | zero=>
   intro _ n size depth s hd h0 h1 hl nW rest σ hs;refine dE kZ ?_
   conv=>whnf
   repeat'((first|apply st|(apply sq;intro K U)|(apply si;intro A B Y Z)|(apply Y;clear Z B Y A)|(apply U;clear U K)|refine⟨kZ,?_⟩|fail)<;>conv=>whnf)
   refine hY.use (y:=(n,size,depth)) (s:=s) ⟨h0,(by dsimp only;omega),(by dsimp only;omega),(by dsimp only;omega),hl⟩ hs ?_;rw[Wl (by dsimp only;omega)];rintro r σ' ⟨rfl,s',hj,hs'⟩
   conv=>whnf
   repeat'((first|(refine Z _ _ _ ?_;clear Z B Y A)|clear U K)<;>conv=>whnf)
   exact DE ⟨rfl,s',hj,hs'⟩
 | succ d ih =>
   intro hd12 n size depth s hd h0 h1 hl nW rest σ hs;refine A8.fit (by kernel_rfl) fun hf=>?_
   have hM:=Mx
   have hfp:Eu (.a (Ba p)):=by
    have:=hf.2.2.2.1;simp only[S0]at this;simpa only[Gt]using this
   have⟨p1,p2,p3,p4⟩:=Fx hfp;refine dE kZ ?_
   conv=>whnf
   repeat'((first|apply st|(apply sq;intro K U)|(apply si;intro A B Y Z)|(apply Y;clear Z B Y A)|(apply U;clear U K)|refine⟨kZ,?_⟩|fail)<;>conv=>whnf)
   refine hY.use (y:=(n,size,depth)) (s:=s) ⟨h0,(by dsimp only;omega),(by dsimp only;omega),(by dsimp only;omega),hl⟩ hs ?_;have hw:=Wj (p:=p) (next:=next) (n:=n) (size:=size) (s:=s) hd (by omega);cases hv:E4 p next n size depth s with
   | none=>
     rw[hv]at hw;rintro r σ' ⟨rfl,s',hj,hs'⟩
     conv=>whnf
     repeat'((first|(refine Z _ _ _ ?_;clear Z B Y A)|clear U K)<;>conv=>whnf)
     refine DE ?_;rw[hw];exact⟨rfl,s',hj,hs'⟩
   | some s1 =>
     obtain⟨g0,g1,g2,g3,x,hx,hok,hs1⟩:=Wk hv;rw[hv]at hw;simp only[hx]at hw;have hl1:s1.length=p.nodes.length:=by rw[hs1];simpa using hl
     have hkm:=c0 hfp (Ck hx);clear hv hs1;rintro r σ1 ⟨rfl,hs⟩
     conv=>whnf
     repeat'((first|apply st|(apply sq;intro K U)|(apply si;intro A B Y Z)|(apply Y;clear Z B Y A)|(apply U;clear U K)|refine TX ?_|refine G3 ?_|fail)<;>conv=>whnf)
     refine CD x.kids.length (fun k (_:List Int)=>[(23,eI (BM k))]) (fun _ s'=> .obj L (.loop .ready E ok)::(hOut nO v s'++(.box nW [WA p L nW]::rest))) (fun k s'=>s'.length=p.nodes.length∧CJ p next (d+1) n size s=FM (CJ p next d) x.op size k (x.kids.drop k) s') s1 rfl ⟨hl1,by simpa using hw⟩ hs ?_;clear hs hw;rintro k s' σ hk ⟨hl',hkids⟩ hs;rcases BS x.kids hk with⟨kid,hkid,hlt⟩|hke
     ·have hck:BM k=k:=AN (by omega)
      rw[drop_cons hkid,FM]at hkids;have e0:IntKind.i64.wrap (depth+1)=depth+1:=wrap64 (by omega) (by omega);have e1:IntKind.i64.wrap (size+1)=size+1:=wrap64 (by omega) (by omega)
      have hrec: ∀(sz:Int) (σ:AH) (l:List At),0≤sz→sz+d≤100→Sat σ (l++(.obj L (.loop .ready E ok)::(hOut nO v s'++(.box nW [WA p L nW]::rest))))→Aw Tryz.prog (WA p L nW) [eI kid,.a [eI sz,eI (depth+1)]] σ
       (gV L E ok (hOut nO v) (fun s=>s.length=p.nodes.length) (.box nW [WA p L nW]::rest) (.b true) (.b false) (bV (CJ p next d kid sz s'))):=fun sz σ l h0 h1 hs=>
       Bs (ih (by omega) kid sz (depth+1) s' (by omega) h0 h1 hl' nW rest σ (hs.less (List.sublist_append_right _ _)))
      conv=>whnf
      repeat'((first|apply st|(apply sq;intro K U)|(apply si;intro A B Y Z)|(apply Y;clear Z B Y A)|(apply U;clear U K)|refine⟨rfl,?_⟩|refine⟨kZ,?_⟩|refine ix ?_|refine TX ?_|refine ld ?_|refine IA fun σ hs=>?_|refine CX fun σ hs=>?_|(refine C8 (fun hc=>?_)<;>(try rw[hc])<;>clear hc)|(constructor<;>intro hc<;>(try rw[hc])<;>(replace hc:=bp hc)<;>(try simp(disch:=omega) only[BW,wrap64,AN]at hc))|(intro nn hnn;generalize hg:Az _ nn _=σ;refine CN hg fun hs=>?_;clear hg)|fail)<;>conv=>whnf)
      all_goals
       simp only[e0,e1]
       first
        | rw[if_pos (by omega)]at hkids
          refine(hrec (size+1) _ [_] (by omega) (by omega) hs).mono ?_
        | rw[if_neg (by omega)]at hkids
          refine(hrec size _ [_] (by omega) (by omega) hs).mono ?_
       cases hw:CJ p next d kid _ s' with
       | none=>
         rw[hw]at hkids;rintro r σ' ⟨rfl,s',hj,hs'⟩
         conv=>whnf
         repeat'((first|(refine Z _ _ _ ?_;clear Z B Y A)|clear U K)<;>conv=>whnf)
         refine DE ?_;rw[hkids];exact⟨rfl,s',hj,hs'⟩
       | some s2=>
         rw[hw]at hkids;rintro r σ' ⟨rfl,hs'⟩
         conv=>whnf
         repeat'((first|apply st|(apply si;intro A B Y Z)|(apply Y;clear Z B Y A)|(apply U;clear U K)|refine⟨rfl,?_⟩|refine G3 ?_|clear U K)<;>conv=>whnf)
         exact⟨hlt,s2,rfl,⟨(JL _ hw).trans hl',hkids⟩,hs'⟩
     ·rw[Al hke,FM]at hkids
      conv=>whnf
      repeat'((first|apply st|(apply sq;intro K U)|(apply si;intro A B Y Z)|(apply Y;clear Z B Y A)|(apply U;clear U K)|refine⟨rfl,?_⟩|(refine Es (fun hc=>?_)<;>(try rw[hc])<;>clear hc)|clear U K)<;>conv=>whnf)
      refine Aa ?_;rw[hkids];exact⟨rfl,hs⟩
def mM {a b:Nat} {A B:Prop} (e:a=b) (h:A):(a=b→A)∧(a≠b→B):=⟨fun _=>h,fun n=>absurd e n⟩
def u6 {a b:Nat} {A B:Prop} (e:a≠b) (h:B):(a=b→A)∧(a≠b→B):=⟨fun n=>absurd n e,fun _=>h⟩
def dq {P:Program} {σ:AH} {tab:List (TypeId×FuncId)} {t:TypeId} {f:FuncId} {v:V} {args:List V} {Q:R→AH→Prop} (h:look t tab=some f) (hc:A8 P f (v::args) σ Q):A2 P tab (.Er t v) args σ Q:=by
 unfold A2;simp only[h];exact hc
def fo (p:Prog) (n size depth:Int):Pure Tryz.prog 285 [.a (Ba p),eI n,.a [eI size,eI depth]] (.f (.func 327) [] [.rp (Ba p),.rp [eI n],.rp [eI size,eI depth]]):=by
 refine qK kZ ?_;have hs:=Sn
 conv=>whnf
 repeat'((first|apply st|(apply sq;intro K U)|(apply si;intro A B Y Z)|(apply Y;clear Z B Y A)|(apply U;clear U K)|fail)<;>conv=>whnf)
 all_goals exact AI rfl
set_option maxHeartbeats 4000000 in
def oX (p:Prog) (next:Bool) {L:Nat} {E:Env} {ok:FuncId→Array Tmp→Code→Code→Nat→Prop} {v:V} {nO:Nat}
    (hY:ME Tryz.prog L E ok uq (hOut nO v) (fun s=>s.length=p.nodes.length) (fun y s=>bV (E4 p next y.1 y.2.1 y.2.2 s)) (dP p)) (n size:Int) (s:List Int) (h0:0≤size) (h1:size≤20) (hl:s.length=p.nodes.length) (rest:List At) (σ:AH)
    (hs : Sat σ (.obj L (.loop .ready E ok)::(hOut nO v s++rest))) :
     A8 Tryz.prog 327 [.f (.yield L) [] [],.rp (Ba p),.rp [eI n],.rp [eI size,eI 1]] σ
      (gV L E ok (hOut nO v) (fun s=>s.length=p.nodes.length) rest (.t []) (.t []) (bV (CJ p next 12 n size s))):=by
 refine pX kZ ?_
 conv=>whnf
 repeat'((first|apply st|(apply sq;intro K U)|(apply si;intro A B Y Z)|(apply Y;clear Z B Y A)|(apply U;clear U K)|refine⟨kZ,?_⟩|refine ld ?_|refine IA fun σ hs=>?_|(intro nn hnn;generalize hg:Az _ nn _=σ;refine CN hg fun hs=>?_;clear hg)|fail)<;>conv=>whnf)
 have hp:Sat σ (.obj L (.loop .ready E ok)::(hOut nO v s++(.box nn [WA p L nn]::rest))):=hs.perm (by
  refine(List.Perm.swap _ _ _).trans (.cons _ ?_)
  exact(List.perm_middle (l₁:=hOut nO v s)).symm)
 refine Bs ((gu p next hY 12 (He _) n size 1 s rfl h0 (by omega) hl nn rest σ hp).mono ?_);cases hw:CJ p next 12 n size s with
 | none=>
   rintro r σ' ⟨rfl,s',hj,hs'⟩
   conv=>whnf
   repeat'((first|(refine Z _ _ _ ?_;clear Z B Y A)|fail)<;>conv=>whnf)
   refine DE ?_;rw[hw];exact⟨rfl,s',hj,hs'.less (List.Sublist.append_left (IV _ _) _)⟩
 | some s2=>
   rintro r σ' ⟨rfl,hs'⟩
   conv=>whnf
   repeat'((first|(apply Y;clear Z B Y A)|fail)<;>conv=>whnf)
   refine Aa ?_;rw[hw];exact⟨rfl,hs'.less (.cons₂ _ (List.Sublist.append_left (IV _ _) _))⟩
def VX (p:Prog) (x:Node):(x.op=5∧QP x.op= .Er 360 (.a []))∨(x.op≠5∧ ∃m:Int,QP x.op= .Er 359 (eI m)∧Im p x=m)∨(QP x.op= .Db∧Im p x= -1):=by
 unfold QP Im;by_cases h5:x.op=5
 ·exact .inl ⟨h5,by rw[if_pos h5]⟩
 ·rw[if_neg h5]
  split
  ·exact .inr (.inl ⟨h5,_,rfl,rfl⟩)
  split
  ·exact .inr (.inl ⟨h5,_,rfl,rfl⟩)
  split
  ·exact .inr (.inl ⟨h5,_,rfl,rfl⟩)
  split
  ·exact .inr (.inl ⟨h5,_,rfl,rfl⟩)
  ·exact .inr (.inr ⟨rfl,by rw[if_neg (by rintro⟨h,_⟩;exact h5 h)]⟩)
def Ss {p:Prog} {x:Node} (h:x.op=5) {size:Int} (hn:Lr p x size=true):0≤x.n∧x.n<p.Dc.length∧Im p x=p.Dc.getD x.n.toNat 0:=by
 have h2:0≤x.n∧x.n<p.Dc.length:=by
  simp only[Lr,h]at hn;simpa using hn
 refine⟨h2.1,h2.2,?_⟩;unfold Im;rw[h,if_neg (by decide),if_neg (by decide),if_neg (by decide),if_neg (by decide),if_pos ⟨rfl,h2.1,h2.2⟩]
def dz {p:Prog} {next:Bool} {n size depth:Int} {s:List Int} (h:n<0∨(p.nodes.length:Int)≤n∨0≤s.getD n.toNat 0∨12<depth):E4 p next n size depth s=none:=by
 unfold E4;rw[if_pos h]
def eE {p:Prog} {next:Bool} {n size depth:Int} {s:List Int} {y:Int} {x:Node} (h0:0≤n) (h1:n<(p.nodes.length:Int)) (hy:s[n.toNat]? =some y) (hy0:y<0) (hd:depth≤12) (hx:p.nodes[n.toNat]? =some x):E4 p next n size depth s=if Dz p next size x then some (s.set n.toNat size)else none:=by
 have e:s.getD n.toNat 0=y:=by rw[E2,hy];rfl
 unfold E4;rw[if_neg (by rw[e];omega),hx]
def uC (p:Prog) (nO:Nat) (v:V) (rest:List At) (o:Option (List Int)) (r:R) (σ:AH):Prop:=
 match o with
 | some s=>r= .ret (.t [])∧Sat σ (hOut nO v s++rest)
 | none=>r= .Bf Dj∧ ∃s:List Int,s.length=p.nodes.length∧Sat σ (hOut nO v s++rest)
set_option maxHeartbeats 4000000 in
def S6 (p:Prog) (next:Bool) {v:V} {nO:Nat} (hv:(Dg v).isSome=true) (n size:Int) (s:List Int) (h0:0≤size) (h1:size≤20) (hl:s.length=p.nodes.length) (rest:List At) (σ:AH) (hs:Sat σ (hOut nO v s++rest)) :
    A8 Tryz.prog 284 [eI n,eI size,.b next,.rp (Ba p),.p nO 0] σ (uC p nO v rest (CJ p next 12 n size s)):=by
 refine A8.fit (by kernel_rfl) fun hf=>?_
 have hM:=Mx
 have hfp:Eu (.a (Ba p)):=by
  have:=hf.2.2.2.1;simp only[S0]at this;simpa only[Gt]using this
 have⟨p1,p2,p3,p4⟩:=Fx hfp;refine qL kZ ?_
 conv=>whnf
 repeat'((first|apply st|(apply sq;intro K U)|(apply si;intro A B Y Z)|(apply Y;clear Z B Y A)|(apply U;clear U K)|refine⟨kZ,?_⟩|refine Pure.use (fo _ _ _ _) ?_|(intro nn hnn;generalize hg:Az _ nn _=σ;refine CN hg fun hs=>?_;clear hg)|fail)<;>conv=>whnf)
 refine A8.mono (oX p next (L:=nn) (v:=v) (nO:=nO) ?_ n size s h0 h1 hl rest σ hs) ?_
 ·refine M6 (fun y=>rfl) ?_
  clear hs hnn hl h0 h1;rintro⟨k,sz,dp⟩ s ⟨d0,d1,d2,d3,hl⟩ rest σ hs;dsimp only at d0 d1 d2 d3 hl;dsimp only;rw[show uq (k,sz,dp)= [eI k,.a [eI sz,eI dp]] from rfl]
  conv=>whnf
  repeat'((first|apply st|(apply sq;intro K U)|(apply si;intro A B Y Z)|(apply Y;clear Z B Y A)|(refine Z _ _ _ ?_;clear Z B Y A)|(refine Z _ _ fun σ hsub=>?_;clear Z B Y A)|(apply U;clear U K)|apply dr|refine rk ?_ ?_|exact fun s e=>by cases e;rfl|refine⟨rfl,?_⟩|refine⟨kZ,?_⟩|refine iq fun x hx=>?_|refine ld ?_|refine CX fun σ hs=>?_|refine oi ?_|refine ol fun x hx=>?_|refine oset fun σ hs=>?_|refine JB ?_|refine G3 ?_|(refine Cl (fun hc=>?_) (fun hc=>?_)<;>(replace hc:=bp hc)<;>(try simp(disch:=omega) only[BW,wrap64,AN]at hc)<;>(try(cases hc;done)))|refine Pure.use (Zq _ _ _) ?_|refine Pure.use (Z0 _) ?_|(rcases VX p (by assumption)with⟨e5,ek⟩|⟨e5,m,ek,hm⟩|⟨ek,hm⟩<;>rw[ek]<;>clear ek)|refine mM rfl ?_|refine u6 (by decide) ?_|refine dq rfl (Pure.use (tB _ _ _) ?_)|refine dq rfl (Pure.use (kM _ _ (Ss (by assumption) (by assumption)).1 (Ss (by assumption) (by assumption)).2.1) ?_)|(constructor<;>intro hc<;>(try rw[hc])<;>(replace hc:=bp hc)<;>(try simp(disch:=omega) only[BW,wrap64,AN]at hc))|(intro nn hnn;generalize hg:Az _ nn _=σ;refine CN hg fun hs=>?_;clear hg)|clear U K)<;>conv=>whnf)
  all_goals first
   | (intro hn;refine Qi (s:=s) (by rw[dz (by first|omega|(rw[E2,‹s[k.toNat]? =some _›];simp only[Option.getD_some];omega))];rfl) hl (hs.less (by repeat first|exact List.Sublist.refl _|apply List.Sublist.cons)) hn)
   | skip
  all_goals
   have hva:=eE (next:=next) (size:=sz) (depth:=dp) (show 0≤k by omega) (show k<(p.nodes.length:Int) by omega) ‹s[k.toNat]? =some _› (by assumption) (by omega) ‹p.nodes[k.toNat]? =some _›
   rename Node=>x
   have hk5:x.op=5→Lr p x sz=true→Im p x=p.Dc.getD x.n.toNat 0:=fun h hn=>(Ss h hn).2.2
   intro hn
  all_goals first
   | (rw[if_neg (by first|(intro h;rw[Dz,hk5 (by assumption) (by assumption)]at h;simp only[BU,D4]at h;exact absurd h.1 (by assumption))|(simp[Dz, *];done)|(simp[Dz, *];omega)|(rw[Dz,hk5 (by assumption) (by assumption)];simp[*];done)|(simp[Dz, *];intros;omega))]at hva
      refine Qi (s:=s.set k.toNat sz) (by rw[hva];rfl) (by simpa using hl) ?_ hn
      first
       | exact hs.less (by repeat first|exact List.Sublist.refl _|apply List.Sublist.cons)
       | exact(hs.less (by repeat first|exact List.Sublist.refl _|apply List.Sublist.cons)).up (by assumption))
   | (rw[if_pos (by first|(simp[Dz, *];done)|(rw[Dz,hk5 (by assumption) (by assumption)];simp[*];done))]at hva
      exact UZ (s:=s.set k.toNat sz) (by rw[hva];rfl) (hs.less (by repeat first|exact List.Sublist.refl _|apply List.Sublist.cons)) hn)
 ·cases hw:CJ p next 12 n size s with
  | none=>
    rintro r σ' ⟨rfl,s',hj,hs'⟩
    conv=>whnf
    exact DE ⟨rfl,s',hj,hs'⟩
  | some s2=>
    rintro r σ' ⟨rfl,hs'⟩;refine Ua hs' fun σ2 hs2=>?_
    conv=>whnf
    exact Aa ⟨rfl,hs2⟩
def FO (w:AM):Prop:=IG w.parents∧w.owner.length≤40∧ ∀o∈w.owner,(3:Int)≤o∧o<3+(w.parents.length:Int)
def Vw (us:List Nat) (l:List Int) (s:Nat):Nat:=l.foldl (fun s c=>s|||us.getD c.toNat 0) s
def Cc (g:List (List Int)):Nat→List Nat
 | 0=>[1,3,5]
 | k+1=>Cc g k++[Vw (Cc g k) (g.getD k []) (1|||2 ^ (3+k))]
def D5 (g:List (List Int)):List Nat:=Cc g g.length
def gd (us:List Nat):List V:=us.map eU++List.replicate (63 - us.length) (eU 0)
def wC (w:AM) (us:List Nat):List V:=BI w++gd us
def Fm (g:List (List Int)): ∀k,(Cc g k).length=3+k
 | 0=>rfl
 | k+1=>by simp[Cc,Fm g k];omega
def cH (w:AM) {us:List Nat} (h:us.length≤63):(wC w us).length=65:=by
 simp only[wC,BI,gd,KY,KX,List.length_nil,BW,List.length_replicate];omega
def cG (w:AM) (us:List Nat) (s:Nat) (h:us.length<63):(wC w us).set (2+us.length) (eU s)=wC w (us++[s]):=by
 simp only[wC,gd];rw[List.set_append_right _ _ (by simp[BI])];congr 1;have e:2+us.length - (BI w).length=us.length:=by simp[BI]
 rw[e,List.set_append_right _ _ (by simp)];rw[BW,Nat.sub_self,Pw,TR];congr 1;rw[show 63 - us.length=(63 - (us++[s]).length)+1 by simp;omega,List.replicate_succ];rfl
def kz (w:AM) (us:List Nat) {i:Nat} (h:i<us.length):(wC w us)[2+i]? =some (eU (us.getD i 0)):=by
 simp only[wC,gd];rw[List.getElem?_append_right (by simp[BI]),show 2+i - (BI w).length=i by simp[BI],kY (by simpa using h),QK,Et h,E2,Et h];rfl
def sW (us:List Nat):Prop:= ∀u∈us,u<18446744073709551616
def R3 {us:List Nat} (h:sW us) (i:Nat):us.getD i 0<18446744073709551616:=by
 rw[E2];cases hx:us[i]? with
 | none=>simp
 | some x=>exact h x (Ck hx)
def SY {us:List Nat} (h:sW us): ∀(l:List Int) (s:Nat),s<18446744073709551616→Vw us l s<18446744073709551616
 | [],_,hs=>hs
 | c::r,s,hs=>SY h r _ (Kk hs (R3 h _))
def LG (g:List (List Int)): ∀k,k≤60→sW (Cc g k)
 | 0,_=>by intro u hu;simp[Cc]at hu;omega
 | k+1,hk=>by
   intro u hu;simp only[Cc,FJ,Nz]at hu;rcases hu with hu|rfl
   ·exact LG g k (by omega) u hu
   ·exact SY (LG g k (by omega)) _ _ (Kk (by decide) (J0 (by omega)))
def nY (w:AM) (us:List Nat) (c:Int) {n:Nat} (hM:w.parents.length≤60):By Tryz.prog 247 [.p n 0,eI c] [.box n (wC w us)] fun r post=>r= .ret (.b (decide (3≤c)&&decide (c<3+(w.parents.length:Int))))∧post= [.box n (wC w us)]:=by
 intro σ hs;have hw:IntKind.i64.wrap (3+((EX w.parents).length:Nat))=3+(w.parents.length:Int):=by rw[BW,wrap64 (by omega) (by omega)]
 refine qa kZ ?_
 conv=>whnf
 repeat'((first|apply st|(apply sq;intro K U)|(apply si;intro A B Y Z)|(apply Y;clear Z B Y A)|(apply U;clear U K)|refine⟨rfl,?_⟩|refine ld ?_|(constructor<;>intro hc<;>(try rw[hc])<;>(replace hc:=bp hc))|fail)<;>conv=>whnf)
 ·refine Aa ⟨_,⟨?_,rfl⟩,hs⟩
  rw[hw,decide_eq_true (show 3≤c by omega)];rfl
 ·refine Aa ⟨_,⟨?_,rfl⟩,hs⟩
  rw[decide_eq_false (show¬3≤c by omega)];rfl
def fZ (w:AM) (us:List Nat) (c:Int) (hM:w.parents.length≤60):Pure Tryz.prog 305 [.rp (wC w us),eI c] (.b (P5 w c)):=by
 have hw:IntKind.i64.wrap (3+((EX w.parents).length:Nat))=3+(w.parents.length:Int):=by rw[BW,wrap64 (by omega) (by omega)]
 refine pq kZ ?_;have hs:=Sn
 conv=>whnf
 repeat'((first|apply st|(apply sq;intro K U)|(apply si;intro A B Y Z)|(apply Y;clear Z B Y A)|(apply U;clear U K)|refine⟨rfl,?_⟩|(constructor<;>intro hc<;>(try rw[hc])<;>(replace hc:=bp hc))|fail)<;>conv=>whnf)
 ·refine AI ?_
  rw[hw,P5,decide_eq_true (show 0≤c by omega)];rfl
 ·refine AI ?_
  rw[P5,decide_eq_false (show¬0≤c by omega)];rfl
def iA (w:AM) (us:List Nat) (c:Int) (hM:w.owner.length≤60):Pure Tryz.prog 336 [.rp (wC w us),eI c] (.b (Il w c)):=by
 refine pQ kZ ?_;have hs:=Sn
 conv=>whnf
 repeat'((first|apply st|(apply sq;intro K U)|(apply si;intro A B Y Z)|(apply Y;clear Z B Y A)|(apply U;clear U K)|refine⟨rfl,?_⟩|(constructor<;>intro hc<;>(try rw[hc])<;>(replace hc:=bp hc))|fail)<;>conv=>whnf)
 ·refine AI ?_
  rw[Il,decide_eq_true (show 0≤c by omega),BW];rfl
 ·refine AI ?_
  rw[Il,decide_eq_false (show¬0≤c by omega)];rfl
def iX (w:AM) (us:List Nat) (l:List Int) (f:Bool) (hM:w.owner.length≤60):Pure Tryz.prog 304 [.rp (wC w us),.l (iL l) f] (.b (Ee w l)):=by
 have hall:=kQ (g:=336) (fi:=[.rp (wC w us)]) (ca:=[]) (f:=Il w) (xs:=l) f (fun y _=>iA w us y hM);refine pt kZ ?_;have hs:=Sn
 conv=>whnf
 repeat'((first|apply st|(apply sq;intro K U)|(apply si;intro A B Y Z)|(apply Y;clear Z B Y A)|(apply U;clear U K)|refine⟨rfl,?_⟩|(constructor<;>intro hc<;>(try rw[hc])<;>(replace hc:=bp hc)<;>(try simp(disch:=omega) only[BW,wrap64,AN]at hc))|refine Pure.use (by assumption) ?_|fail)<;>conv=>whnf)
 ·refine AI ?_
  rw[Ee,decide_eq_true (show l.length≤2 by omega),Bool.and_true];rfl
 ·refine AI ?_
  rw[Ee,decide_eq_false (show¬l.length≤2 by omega),Bool.and_false];rfl
def HK (s:Nat) (c:Int) (hs0:s<18446744073709551616) (h0:0≤c) (hc:c<64):Pure Tryz.prog 245 [eU s,eI c] (eU (s|||2 ^ c.toNat)):=by
 have:=Xv s c.toNat hs0 (by omega);rw[Int.toNat_of_nonneg h0]at this;exact this
def zQ {k:Nat} (h:k<3):([1,3,5]:List Nat).take k++[1|||2 ^ k]= [1,3,5].take (k+1):=by
 rcases k with _|_|_|k
 ·rfl
 ·rfl
 ·rfl
 ·omega
set_option maxHeartbeats 4000000 in
def ic (w : AM) (hw:FO w):Pure Tryz.prog 174 [.a (BI w)] (.t [.rp (wC w (D5 w.parents)),.b true]):=by
 obtain⟨⟨hl,hrow⟩,ho,how⟩:=hw;have hM:=Mx;refine Pure.of ?_;refine rK kZ ?_;have hs:=Sn;have hi1:((EX w.parents).length:Int)≤60:=by rw[BW];omega
 have hi2:((iL w.owner).length:Int)≤40:=by rw[BW];omega
 conv=>whnf
 repeat'((first|apply st|(apply sq;intro K U)|(apply si;intro A B Y Z)|(apply Y;clear Z B Y A)|(apply U;clear U K)|refine⟨rfl,?_⟩|refine⟨kZ,?_⟩|(constructor<;>intro hc<;>(try rw[hc])<;>(replace hc:=bp hc)<;>(try simp(disch:=omega) only[BW,wrap64,AN]at hc)<;>try(exfalso;omega))|(intro nn hnn;generalize hg:Az _ nn _=σ;refine CN hg fun hs=>?_;clear hg)|fail)<;>conv=>whnf)
 generalize nn=n0 at *;refine CD 3 (fun k (_:Unit)=>[(24,eI (BM k))]) (fun k _=>[.box n0 (wC w ([1,3,5].take k))]) (fun k _=>True) () rfl trivial hs ?_;clear hs;rintro k - σ hk - hs;have hck:BM k=k:=AN (by omega);have hlen:(([1,3,5]:List Nat).take k).length=k:=by simp;omega
 by_cases hlt:k<3
 ·have hst:=cG w ([1,3,5].take k) (1|||2 ^ k) (by omega)
  rw[hlen,zQ hlt]at hst
  conv=>whnf
  repeat'((first|apply st|(apply sq;intro K U)|(apply si;intro A B Y Z)|(apply Y;clear Z B Y A)|(apply U;clear U K)|apply dr|refine⟨rfl,?_⟩|refine mJ ?_|refine Pure.use (HK 1 _ (by decide) (by omega) (by omega)) ?_|(constructor<;>intro hc<;>(try rw[hc])<;>(replace hc:=bp hc)<;>(try simp(disch:=omega) only[BW,wrap64,AN]at hc)<;>try(exfalso;omega))|fail)<;>conv=>whnf)
  refine K2 hs 0 rfl rfl (by rw[cH w (by omega)];omega) fun σ hs=>?_
  conv=>whnf
  repeat'((first|(apply si;intro A B Y Z)|(apply Y;clear Z B Y A)|(apply U;clear U K)|apply dr|refine⟨rfl,?_⟩|clear U K)<;>conv=>whnf)
  refine⟨hlt,(),rfl,trivial,?_⟩;rw[hck,Lm,Nat.mul_one,G2]at hs;simp only[List.set_cons_zero]at hs;rw[hst]at hs;exact hs
 ·have hke:k=3:=by omega
  subst hke;clear hk hck hlen hlt
  conv=>whnf
  repeat'((first|apply st|(apply sq;intro K U)|(apply si;intro A B Y Z)|(apply Y;clear Z B Y A)|(apply U;clear U K)|refine⟨rfl,?_⟩|(constructor<;>intro hc<;>(try rw[hc])<;>(replace hc:=bp hc)<;>(try simp(disch:=omega) only[BW,wrap64,AN]at hc)<;>try(exfalso;omega))|clear U K)<;>conv=>whnf)
  refine CD w.parents.length (fun k (_:Unit)=>[(38,eI (BM k))]) (fun k _=>[.box n0 (wC w (Cc w.parents k))]) (fun k _=>True) () rfl trivial hs ?_;clear hs;rintro k - σ hk - hs;have hck:BM k=k:=AN (by omega);have hul:=Fm w.parents k;have huo:=LG w.parents k (by omega);have hw3:IntKind.i64.wrap (3+(k:Int))=3+(k:Int):=wrap64 (by omega) (by omega);rcases BS w.parents hk with⟨row,hr,hlt⟩|hke
  ·obtain⟨r1,r2,r3⟩:=hrow k row hr
   rw[←hck]at hw3
   conv=>whnf
   repeat'((first|apply st|(apply sq;intro K U)|(apply si;intro A B Y Z)|(apply Y;clear Z B Y A)|(apply U;clear U K)|refine⟨rfl,?_⟩|refine ix ?_|(refine C8 (fun hc=>?_)<;>(try rw[hc])<;>clear hc)|refine Pure.use (HK 1 _ (by decide) (by omega) (by omega)) ?_|fail)<;>conv=>whnf)
   have hbig:sW (Cc w.parents k):=huo;have hst0:IntKind.i64.wrap (3+BM k)=3+(k:Int):=by rw[hck];exact wrap64 (by omega) (by omega)
   have hs0lt:1|||2 ^ (3+k)<18446744073709551616:=Kk (by decide) (J0 (by omega))
   have hs0e:1|||2 ^ (IntKind.i64.wrap (3+BM k)).toNat=1|||2 ^ (3+k):=by rw[hst0,show(3+(k:Int)).toNat=3+k by omega]
   rw[hs0e];refine CD row.length (fun j (s:Nat)=>[(48,eI (BM j)),(8,eU s)]) (fun _ _=>[.box n0 (wC w (Cc w.parents k))]) (fun j s=>s=Vw (Cc w.parents k) (row.take j) (1|||2 ^ (3+k))) (1|||2 ^ (3+k)) rfl rfl hs ?_;clear hs;rintro j s σ hj hse hs;rcases BS row hj with⟨c,hcj,hjlt⟩|hje
   ·obtain⟨q1,q2⟩:=r3 c (Ck hcj)
    have hload:(wC w (Cc w.parents k))[0+2+c.toNat*1]? =some (eU ((Cc w.parents k).getD c.toNat 0)):=by
     have:=kz w (Cc w.parents k) (i:=c.toNat) (by omega);rw[←this];congr 1;omega
    have hnc:(row.take j).contains c=false:=by
     rw[←Bool.not_eq_true,List.contains_iff_mem];intro hm;obtain⟨i,hi,he⟩:=List.mem_iff_getElem.1 hm;have hi':i<j:=by rw[Mo]at hi;omega
     rw[List.getElem_take]at he;have hcj':=(Mn.1 hcj).2;exact absurd ((List.getElem_inj r2).1 (he.trans hcj'.symm)) (by omega)
    have hct: ∀b,Pure Tryz.prog 34 [.l (iL (row.take j)) b,eI c] (.b false):=fun b=>by
     have:=Dp (row.take j) b c
     rwa [hnc]at this
    conv=>whnf
    repeat'((first|apply st|(apply sq;intro K U)|(apply si;intro A B Y Z)|(apply Y;clear Z B Y A)|(apply U;clear U K)|refine⟨rfl,?_⟩|refine ix ?_|refine uf ?_|refine mJ ?_|refine ld ?_|refine G3 ?_|(refine C8 (fun hc=>?_)<;>(try rw[hc])<;>clear hc)|refine Pure.use (hct _) ?_|(rw[hload])|(constructor<;>intro hc<;>(try rw[hc])<;>(replace hc:=bp hc)<;>(try simp(disch:=omega) only[BW,wrap64,AN]at hc)<;>try(exfalso;omega))|clear U K)<;>conv=>whnf)
    refine⟨hjlt,s|||(Cc w.parents k).getD c.toNat 0,?_,?_,hs⟩
    ·have hsl:s<18446744073709551616:=by rw[hse];exact SY huo _ _ hs0lt
     rw[LC hsl (R3 huo _)];rfl
    ·rw[hse,AR hcj]
     simp only[Vw,List.foldl_append];rfl
   ·conv=>whnf
    repeat'((first|apply st|(apply sq;intro K U)|(apply si;intro A B Y Z)|(apply Y;clear Z B Y A)|(apply U;clear U K)|refine⟨rfl,?_⟩|refine mJ ?_|(refine Es (fun hc=>?_)<;>(try rw[hc])<;>clear hc)|clear U K)<;>conv=>whnf)
    refine K2 hs 0 rfl rfl (by rw[cH w (by omega),hst0];omega) fun σ hs=>?_
    conv=>whnf
    repeat'((first|(apply si;intro A B Y Z)|(apply Y;clear Z B Y A)|(apply U;clear U K)|refine⟨rfl,?_⟩|clear U K)<;>conv=>whnf)
    refine⟨hlt,(),rfl,trivial,?_⟩
    have e:Cc w.parents (k+1)=Cc w.parents k++[s]:=by
     rw[hse,Cc,E2,hr,hje,List.take_length];rfl
    have hst:=cG w (Cc w.parents k) s (by omega);rw[e,←hst];have e2:0+2+(IntKind.i64.wrap (3+BM k)).toNat*1=2+(Cc w.parents k).length:=by rw[hst0,hul];omega
    rw[e2]at hs;exact hs
  ·have hown:=dY 247 [.p n0 0] [] (fun _=>[.box n0 (wC w (Cc w.parents k))]) (T0 fun c=>decide (3≤c)&&decide (c<3+(w.parents.length:Int))) (fun _ _=>True) (fun y s _ σ hs=>Bs (A8.mono (nY w (Cc w.parents k) y (by omega) σ hs) (by
    rintro r σ' ⟨post,⟨h1,h2⟩,h3⟩;subst h2
    exact⟨h1,h3⟩))) w.owner false () (L2 fun _ _ _=>trivial)
   rw[JU]at hown
   have hall:(w.owner.all fun c=>decide (3≤c)&&decide (c<3+(w.parents.length:Int)))=true:=by
    rw[GP];intro o hoo;have:=how o hoo;simp only[BU,DZ];exact this
   rw[hall]at hown
   conv=>whnf
   repeat'((first|apply st|(apply sq;intro K U)|(apply si;intro A B Y Z)|(apply Y;clear Z B Y A)|(apply U;clear U K)|refine⟨rfl,?_⟩|(refine Es (fun hc=>?_)<;>(try rw[hc])<;>clear hc)|clear U K)<;>conv=>whnf)
   refine hown.use (rest:=[]) hs ?_;rintro r post σ ⟨rfl,rfl⟩ hs
   conv=>whnf
   repeat'((first|apply st|(apply Y;clear Z B Y A)|(apply U;clear U K)|fail)<;>conv=>whnf)
   rw[hke]at hs;exact Hu (σ2:=emp) (fun n o ho=>by cases ho) (.t (.cons (hs.vH 0 rfl (.refl _ _ _)) (.cons (.refl _) .nil))) rfl
def L5 (w:AM) (f:Fact):Bool:=decide (0≤f.arg)&&(decide (f.arg<3)&&(Ee w f.path&&(if f.op=2 then f.n==0&&P5 w f.cls else f.cls==0&&(decide (-1000000000≤f.n)&&decide (f.n≤1000000000)))))
def ER (w:AM) (f:Fact):Int→Int→Bool×Int:=f.Ff fun f l left deep=>
 if IntKind.i64.wrap (left - 1)<0∨deep=0∨f.op<1∨7<f.op∨f.kids.length≠Bw f.op then(false,IntKind.i64.wrap (left - 1))else
 if Bt f then(L5 w f,IntKind.i64.wrap (left - 1))else
 if f.arg≠0∨0<f.path.length∨f.cls≠0∨f.n≠0 then(false,IntKind.i64.wrap (left - 1))else
 Cd (fun(k:Int→Int→Bool×Int) s=>k s (deep - 1)) l (IntKind.i64.wrap (left - 1))
def LV {α β S:Type} (g:α→β) (stp:β→S→Bool×S): ∀(l:List α) (s:S),Cd stp (l.map g) s=Cd (fun a s=>stp (g a) s) l s
 | [],_=>rfl
 | a::r,s=>by simp only[C0,Cd,LV g stp r]
def HO (w:AM) (f:Fact) (left deep:Int):ER w f left deep =
    if IntKind.i64.wrap (left - 1)<0∨deep=0∨f.op<1∨7<f.op∨f.kids.length≠Bw f.op then(false,IntKind.i64.wrap (left - 1))else
    if Bt f then(L5 w f,IntKind.i64.wrap (left - 1))else
    if f.arg≠0∨0<f.path.length∨f.cls≠0∨f.n≠0 then(false,IntKind.i64.wrap (left - 1))else
    Cd (fun k s=>ER w k s (deep - 1)) f.kids (IntKind.i64.wrap (left - 1)):=by
 rw[ER,Fact.Cm,LV];rfl
def Xf {w:AM} {f:Fact} {left deep L1:Int} {b:Bool} {nL:Nat} {σ:AH} (hs:Sat σ [.box nL [eI L1]]) (h:ER w f left deep=(b,L1)):Ap σ (.b b) fun r σ'=> ∃post:List At,(r=R.ret (.b (ER w f left deep).1)∧post= [.box nL [eI (ER w f left deep).2]])∧Sat σ' post:=by
 rw[h];exact Aa ⟨_,⟨rfl,rfl⟩,hs⟩
set_option maxHeartbeats 4000000 in
def iu (w:AM) (us:List Nat) (hw1:w.parents.length≤60) (hw2:w.owner.length≤60) (nL:Nat) (f:Fact): ∀(left deep:Int),0≤deep→deep≤12→
    By Tryz.prog 250 [.rp (wC w us),.a (xF f),.p nL 0,eI deep] [.box nL [eI left]] fun r post=>r= .ret (.b (ER w f left deep).1)∧post= [.box nL [eI (ER w f left deep).2]]:=by
 induction f using Fact.ind with
 | h f ih=>
   intro left deep hd0 hd1 σ hs;refine A8.fit (by kernel_rfl) fun hf=>?_
   have⟨h2,h3,h4⟩:=HG hf.2.1;have hM:=Mx;have hdw:IntKind.i64.wrap (deep - 1)=deep - 1:=wrap64 (by omega) (by omega);refine qX kZ ?_
   have hstep:Cy Tryz.prog (.f (.func 306) [] [.rp [.rp (wC w us)],.rp [.p nL 0],.rp [eI deep]]) (fun y=> .a (xF y)) (fun s=>[.box nL [eI s]]) (fun k s=>ER w k s (deep - 1)) (fun y _=>y∈f.kids∧deep≠0):=by
    rintro y s ⟨hy,hdn⟩ σ hs;refine Bs ?_;show A8 Tryz.prog 306 ([]++[.a (xF y)]++[.rp [.rp (wC w us)],.rp [.p nL 0],.rp [eI deep]]) σ _;refine po kZ ?_
    conv=>whnf
    repeat'((first|apply st|(apply sq;intro K U)|(apply si;intro A B Y Z)|(apply Y;clear Z B Y A)|(apply U;clear U K)|refine⟨rfl,?_⟩|refine⟨kZ,?_⟩|fail)<;>conv=>whnf)
    rw[hdw];refine(ih y hy s (deep - 1) (by omega) (by omega)).use (rest:=[]) hs ?_;rintro r post σ ⟨rfl,rfl⟩ hs
    conv=>whnf
    repeat'((first|apply st|(apply Y;clear Z B Y A)|(apply U;clear U K)|fail)<;>conv=>whnf)
    exact Aa ⟨rfl,hs⟩
   conv=>whnf
   repeat'((first|apply st|(apply sq;intro K U)|(apply si;intro A B Y Z)|(apply Y;clear Z B Y A)|(apply U;clear U K)|apply dr|refine rk ?_ ?_|exact fun s e=>by cases e;rfl|refine⟨rfl,?_⟩|refine⟨kZ,?_⟩|refine ld ?_|refine IA fun σ hs=>?_|refine Pure.use (Sm _) ?_|refine Pure.use (jM _) ?_|refine Pure.use (fZ w us _ hw1) ?_|refine Pure.use (iX w us _ _ hw2) ?_|(constructor<;>intro hc<;>(try rw[hc])<;>(replace hc:=bp hc)<;>(try simp(disch:=omega) only[BW,wrap64,AN]at hc))|clear U K)<;>conv=>whnf)
   all_goals first
    | (refine Xf hs ?_;rw[HO,if_pos (by omega)];done)
    | (refine Xf hs ?_;rw[HO,if_neg (by omega),if_pos (by assumption)];simp[L5, *];done)
    | (refine Xf hs ?_;rw[HO,if_neg (by omega),if_pos (by assumption)];simp[L5, *];intros;omega)
    | (refine Xf hs ?_;rw[HO,if_neg (by omega),if_neg (by simp[*]),if_pos (by omega)];done)
    | skip
   refine(dX 306 [] _ _ _ _ hstep f.kids false (IntKind.i64.wrap (left - 1)) h2 (L2 fun y hy _=>⟨hy,by omega⟩)).use (rest:=[]) hs ?_;have hE:=HO w f left deep;rw[if_neg (by omega),if_neg (by simp[*]),if_neg (by omega)]at hE;rw[←hE];rintro r post σ ⟨rfl,rfl⟩ hs
   conv=>whnf
   repeat'((first|apply st|(apply Y;clear Z B Y A)|(apply U;clear U K)|fail)<;>conv=>whnf)
   exact Aa ⟨_,⟨rfl,rfl⟩,hs⟩
def Kp (w:AM) (f:Fact):Bool:=(ER w f 24 12).1
def aG (w:AM) (us:List Nat) (hw1:w.parents.length≤60) (hw2:w.owner.length≤60) (f:Fact):Pure Tryz.prog 249 [.a (xF f),.rp [.rp (wC w us)]] (.b (Kp w f)):=by
 refine Pure.of ?_;refine qY kZ ?_;have hs:=Sn
 conv=>whnf
 repeat'((first|apply st|(apply sq;intro K U)|(apply si;intro A B Y Z)|(apply Y;clear Z B Y A)|(apply U;clear U K)|refine⟨kZ,?_⟩|refine IA fun σ hs=>?_|(intro nn hnn;generalize hg:Az _ nn _=σ;refine CN hg fun hs=>?_;clear hg)|fail)<;>conv=>whnf)
 refine(iu w us hw1 hw2 _ f 24 12 (by omega) (by omega)).use (rest:=[]) hs ?_;rintro r post σ ⟨rfl,rfl⟩ hs
 conv=>whnf
 repeat'((first|apply st|(apply Y;clear Z B Y A)|(apply U;clear U K)|fail)<;>conv=>whnf)
 exact Aa rfl
def kP {g:FuncId} {fi ca:List V} {f:Fact→Bool} {xs:List Fact} (b:Bool) (hl:xs.length≤Aj) (h: ∀y∈xs,Pure Tryz.prog g (fi++[.a (xF y)]++ca) (.b (f y))):Pure Tryz.prog 248 [.l (facts xs) b,.f (.func g) fi ca] (.b (xs.all f)):=by
 have:=dX g fi ca (fun _=>[]) (fun y (_:Unit)=>(f y,())) (fun y _=>y∈xs) (fun y s hy σ hs=>Bs (A8.mono ((h y hy).use (k:=fun v σ'=>v= .b (f y)∧Sat σ' []) (kp:=fun _ _=>False) ⟨rfl,Sat.nil⟩) (by
  rintro(v|v) σ' hq
  ·obtain⟨rfl,h⟩:=hq
   exact⟨rfl,h⟩
  ·exact hq.elim))) xs b () hl (L2 fun y hy _=>hy)
 rw[JU]at this;exact Pure.of (A8.mono (this emp Sat.nil) fun r σ' ⟨post,⟨h1,h2⟩,h3⟩=>h1)
def aI (w:AM) (us:List Nat) (hw1:w.parents.length≤60) (hw2:w.owner.length≤60) (l:List Fact) (b:Bool) (hl:l.length≤60):Pure Tryz.prog 175 [.rp (wC w us),.l (facts l) b] (.b (l.all (Kp w))):=by
 have hall:=kP (g:=249) (fi:=[]) (ca:=[.rp [.rp (wC w us)]]) (f:=Kp w) (xs:=l) b (by simp only[Aj];omega) fun y _=>aG w us hw1 hw2 y
 refine rJ kZ ?_;have hs:=Sn
 conv=>whnf
 repeat'((first|apply st|(apply sq;intro K U)|(apply si;intro A B Y Z)|(apply Y;clear Z B Y A)|(apply U;clear U K)|refine Pure.use (by assumption) ?_|fail)<;>conv=>whnf)
 exact AI rfl
def X7 (w:AM) (hw:FO w) (l:List Fact) (b:Bool) (hl:l.length≤60):Pure Tryz.prog 118 [.a (BI w),.l (facts l) b] (.t [.rp (wC w (D5 w.parents)),.b (l.all (Kp w))]):=by
 have hfo:=aI w (D5 w.parents) (by have:=hw.1.1;omega) (by have:=hw.2.1;omega) l b hl;refine ri kZ ?_;have hs:=Sn
 conv=>whnf
 repeat'((first|apply st|(apply sq;intro K U)|(apply si;intro A B Y Z)|(apply Y;clear Z B Y A)|(apply U;clear U K)|refine⟨kZ,?_⟩|refine Pure.use (ic w hw) ?_|refine hfo.use ?_|fail)<;>conv=>whnf)
 all_goals exact AI rfl
def aw (w:AM) (hw:FO w) (f:Fact):Pure Tryz.prog 146 [.a (BI w),.a (xF f)] (eI (if Kp w f then 0 else 2)):=by
 have hfo: ∀b,Pure Tryz.prog 118 [.a (BI w),.l [Ef f] b] (.t [.rp (wC w (D5 w.parents)),.b (Kp w f)]):=fun b=>by
  have:=X7 w hw [f] b (by simp);simpa using this
 refine rX kZ ?_;have hs:=Sn
 conv=>whnf
 repeat'((first|apply st|(apply sq;intro K U)|(apply si;intro A B Y Z)|(apply Y;clear Z B Y A)|(apply U;clear U K)|refine⟨kZ,?_⟩|fail)<;>conv=>whnf)
 rw[BC]at hfo;refine(hfo _).use ?_
 conv=>whnf
 repeat'((first|apply st|(apply sq;intro K U)|(apply si;intro A B Y Z)|(apply Y;clear Z B Y A)|(apply U;clear U K)|refine Pure.use (Ws _) ?_|fail)<;>conv=>whnf)
 exact AI rfl
end Go.Gl
namespace Go.Gl
def La {most:Int}: ∀(l:List Fact) (n:Int),(∀k∈l,∀m:Int,(B0 k:Int)≤m→Bh k m=B0 k)→n+(l.map B0).sum≤most→Cv (l.map Bh) n most=n+(l.map B0).sum
 | [],n,_,_=>by simp[Cv]
 | k::r,n,h,h1=>by
   simp only[C0,List.sum_cons,Cv]at *;rw[if_pos (by omega),h k (.head _) (most - n) (by omega),La r _ (fun k' hk'=>h k' (.tail _ hk')) (by omega)];omega
def TC (f:Fact): ∀m:Int,(B0 f:Int)≤m→Bh f m=B0 f:=by
 induction f using Fact.ind with
 | h f ih=>
   intro m hm;rw[HW];rw[D3]at *;rw[La f.kids 1 ih (by omega)];omega
def Zt (f:Fact) {m:Int} (h0:0≤m):Bh f m≤m↔(B0 f:Int)≤m:=
 ⟨fun h=>by rw[←Hz f m h0 h];exact h,fun h=>by rw[TC f m h];exact h⟩
def kE (f:Fact):1≤B0 f:=by rw[D3];omega
def GL {m:Int}: ∀(l:List Int) (a:Int),l.foldl JY a≤m↔a≤m∧ ∀x∈l,x≤m
 | [],a=>by simp
 | x ::r,a=>by
   rw[List.foldl_cons,GL r];unfold JY;constructor
   ·rintro⟨h1,h2⟩
    refine⟨by split at h1<;>omega,fun y hy=>?_⟩;rcases G5.1 hy with rfl|hy
    ·split at h1<;>omega
    ·exact h2 y hy
   ·rintro⟨h1,h2⟩
    have hx:=h2 x (.head _);exact⟨by split<;>omega,fun y hy=>h2 y (.tail _ hy)⟩
def fU (f:Fact) {m:Int}:D2 f≤m↔1≤m∧ ∀k∈f.kids,D2 k≤m - 1:=by
 rw[Ha];constructor
 ·intro h
  have:=(GL (m:=m - 1) (f.kids.map D2) 0).1 (by omega);exact⟨by omega,fun k hk=>this.2 _ (List.mem_map_of_mem hk)⟩
 ·rintro⟨h1,h2⟩
  have:=(GL (m:=m - 1) (f.kids.map D2) 0).2 ⟨by omega,fun x hx=>by
   obtain⟨k,hk,rfl⟩:=NP.1 hx
   exact h2 k hk⟩
  omega
def bu (w:AM) (f:Fact) (left deep:Int):Prop:=(B0 f:Int)≤left∧D2 f≤deep∧A9 w f=true
def RP (w:AM) {deep:Int}: ∀(l:List Fact) (left:Int),0≤left→left≤24→(∀k∈l,∀left:Int,0≤left→left≤24→((ER w k left deep).1=true↔bu w k left deep)∧((ER w k left deep).1=true→(ER w k left deep).2=left - B0 k))→
    ((Cd (fun k s=>ER w k s deep) l left).1=true↔((l.map B0).sum:Int)≤left∧ ∀k∈l,D2 k≤deep∧A9 w k=true)∧((Cd (fun k s=>ER w k s deep) l left).1=true→(Cd (fun k s=>ER w k s deep) l left).2=left - ((l.map B0).sum:Nat))
 | [],left,h0,h1,_=>by simp[Cd];exact h0
 | k ::r,left,h0,h1,h=>by
   obtain⟨ha,hb⟩:=h k (.head _) left h0 h1;simp only[Cd,C0,List.sum_cons];cases hk:(ER w k left deep).1
   ·simp only[Mp,if_false,false_iff,false_implies,and_true]
    rintro⟨h2,h3⟩;have:=ha.2 ⟨by omega,(h3 k (.head _)).1,(h3 k (.head _)).2⟩;rw[hk]at this;cases this
   ·obtain⟨g1,g2,g3⟩:=ha.1 hk
    have hc:=kE k;rw[if_pos rfl,hb hk];obtain⟨i1,i2⟩:=RP w r (left - B0 k) (by omega) (by omega) fun k' hk'=>h k' (.tail _ hk')
    refine⟨i1.trans ⟨fun⟨e1,e2⟩=>⟨by omega,fun x hx=>?_⟩,fun⟨e1,e2⟩=>⟨by omega,fun x hx=>e2 x (.tail _ hx)⟩⟩,fun h=>by rw[i2 h];omega⟩;rcases G5.1 hx with rfl|hx
    ·exact⟨g2,g3⟩
    ·exact e2 x hx
def ir (w : AM) (f:Fact): ∀left deep:Int,0≤left→left≤24→0≤deep→((ER w f left deep).1=true↔bu w f left deep)∧((ER w f left deep).1=true→(ER w f left deep).2=left - B0 f):=by
 induction f using Fact.ind with
 | h f ih=>
   intro left deep h0 h1 hd;have hw:IntKind.i64.wrap (left - 1)=left - 1:=wrap64 (by omega) (by omega);rw[HO,hw];have hc:=D3 f;have hn:=CM w f;have hdl:=fU f (m:=deep)
   have hko:Cq w f=true→f.kids.length=Bw f.op:=fun h=>by
    simp only[Cq,BU,D4]at h;exact h.2.1
   have hop:Cq w f=true→1≤f.op∧f.op≤7:=fun h=>by
    simp only[Cq,BU]at h;have h1:=h.1;unfold RY at h1;split at h1
    ·omega
    split at h1
    ·omega
    simp at h1;omega
   by_cases hbad:left - 1<0∨deep=0∨f.op<1∨7<f.op∨f.kids.length≠Bw f.op
   ·rw[if_pos hbad]
    simp only[Mp,false_iff,false_implies,and_true];rintro⟨g1,g2,g3⟩;rw[hn,BU]at g3;have g4:=hko g3.1;have g5:=hop g3.1;have g6:=(hdl.1 g2).1;omega
   rw[if_neg hbad];by_cases hl:Bt f=true
   ·rw [if_pos hl]
    have hl':f.op=2∨f.op=3∨f.op=4:=by
     simp only[Bt,Gj,D4]at hl;omega
    have hk0:f.kids= []:=by
     have:f.kids.length=Bw f.op:=by omega
     rw[Bw,if_neg (by omega),if_neg (by omega)]at this;exact Vt.1 this
    have hd1:D2 f=1:=by rw[Ha,hk0];rfl
    have hc1:B0 f=1:=by rw[hc,hk0];rfl
    have hh:Cq w f=L5 w f:=by
     unfold Cq RY L5;rw[hl,hk0];have e:Bw f.op=0:=by rw[Bw,if_neg (by omega),if_neg (by omega)]
     rw[e];simp only[List.length_nil,beq_self_eq_true,I8,Bool.true_or,Bool.and_true];rcases hl' with e|e|e
     ·rw[if_pos e,if_pos e]
      cases(f.n==0&&P5 w f.cls)<;>simp
     ·rw[if_neg (show¬f.op=2 by omega),if_neg (show¬f.op=2 by omega),if_pos (show f.op=3∨f.op=4 from .inl e)]
      cases(f.cls==0&&(decide (-1000000000≤f.n)&&decide (f.n≤1000000000)))<;>simp
     ·rw[if_neg (show¬f.op=2 by omega),if_neg (show¬f.op=2 by omega),if_pos (show f.op=3∨f.op=4 from .inr e)]
      cases(f.cls==0&&(decide (-1000000000≤f.n)&&decide (f.n≤1000000000)))<;>simp
    refine⟨⟨fun h=>⟨by omega,by omega,?_⟩,fun⟨_,_,h⟩=>?_⟩,fun _=>by dsimp only;omega⟩
    ·rw[hn,hk0,hh];simpa using h
    ·rw[hn,hk0,hh]at h;simpa using h
   ·have hl':f.op=1∨f.op=5∨f.op=6∨f.op=7:=by
     simp only[Bt,Gj,D4]at hl;omega
    have hlf:Bt f=false:=by simpa using hl
    rw[if_neg hl];by_cases hz:f.arg≠0∨0<f.path.length∨f.cls≠0∨f.n≠0
    ·rw[if_pos hz]
     simp only[Mp,false_iff,false_implies,and_true];rintro⟨g1,g2,g3⟩;rw[hn,BU]at g3;have g4:=g3.1;simp only[Cq,hlf,Bool.false_or,BU,D4]at g4;omega
    ·rw [if_neg hz]
     obtain⟨i1,i2⟩:=RP w (deep:=deep - 1) f.kids (left - 1) (by omega) (by omega) fun k hk left hl0 hl1=>ih k hk left (deep - 1) hl0 hl1 (by omega)
     have hh:Cq w f=true:=by
      have hp:f.path= []:=Vt.1 (by omega)
      have e1:RY w f=true:=by
       unfold RY;rw[if_neg (by omega),if_neg (by omega)];simp only[Gj,D4];omega
      have z1:f.arg=0:=by omega
      have z2:f.cls=0:=by omega
      have z3:f.n=0:=by omega
      have z4:f.kids.length=Bw f.op:=by omega
      simp[Cq,e1,hlf,hp,z1,z2,z3,z4,Ee]
     refine⟨i1.trans ⟨fun⟨e1,e2⟩=>⟨by omega,hdl.2 ⟨by omega,fun k hk=>(e2 k hk).1⟩,?_⟩,fun⟨g1,g2,g3⟩=>⟨by omega,fun k hk=>⟨(hdl.1 g2).2 k hk,?_⟩⟩⟩,fun h=>by rw[i2 h];omega⟩
     ·rw[hn,hh,I8,GP]
      exact fun k hk=>(e2 k hk).2
     ·rw[hn,hh,I8,GP]at g3
      exact g3 k hk
def Yc (w:AM) (f:Fact):Kp w f=Co w f:=by
 have:=(ir w f 24 12 (by omega) (by omega) (by omega)).1;rw[Kp,Co,JZ,this,bu];simp only[BU,DZ];rw[Zt f (by omega)]
end Go.Gl
namespace Go.Gl
open Go.Proofs
attribute [local irreducible] A8 Ap Ag AT AL Ae AS AU AK Ad AO AP Aw A2 Sat AX A0 Ai W
def LR {p:Prog} (h:BD p=true):FO (AW p)∧Bk p.AQ≤40∧p.AQ.length≤10:=by
 have h1:=h;rw[Po]at h1;simp only[BU,DZ]at h1;have h2:=h;simp only[BD,BU,DZ]at h2;have hm:=(E7 _ _ h2.2.1).1;refine⟨⟨Dm h1.2.2.2.1,?_,fun o ho=>?_⟩,by omega,h1.1⟩
 ·rw[AW,CW];omega
 ·have:=Fl ho
  simp only[AW,A3,BW];omega
def gI (s:List Int):Prop:= ∀x∈s,(-1:Int)≤x
def jZ {s:List Int} (h:gI s) (i:Nat) {x:Int} (hx:0≤x):gI (s.set i x):=fun y hy=>by
 rcases List.mem_or_eq_of_mem_set hy with hy|rfl
 ·exact h y hy
 ·omega
def Uq {f:Int→Int→List Int→Option (List Int)} (hf: ∀ {a b s s'},0≤b→f a b s=some s'→gI s→gI s') {op size:Int} (h0:0≤size): ∀(i:Nat) (l:List Int) {s s':List Int},FM f op size i l s=some s'→gI s→gI s'
 | _,[],s,s',h,hs=>by cases h;exact hs
 | i,k::r,s,s',h,hs=>by
   simp only[FM]at h;split at h
   ·cases h
   ·rename_i s1 h1
    refine Uq hf h0 (i+1) r h (hf ?_ h1 hs);split<;>omega
def LD {p:Prog} {next:Bool}: ∀(d:Nat) {n size:Int} {s s':List Int},0≤size→CJ p next d n size s=some s'→gI s→gI s'
 | 0,_,_,_,_,_,h,_=>by cases h
 | d + 1,n,size,s,s',h0,h,hs=>by
   simp only[CJ]at h;split at h
   ·cases h
   ·split at h
    ·cases h
    ·split at h
     ·exact Uq (fun hb h hs=>LD d hb h hs) h0 0 _ h (jZ hs _ h0)
     ·cases h
def ja {s:List Int} (h:gI s):(s.all fun n=>decide (0≤n))= !s.contains (-1):=by
 rw[JZ];simp only[GP,DZ,Bool.not_eq_true',←Bool.not_eq_true,List.contains_iff_mem];constructor
 ·intro h1 h2
  have:=h1 _ h2;omega
 ·intro h1 x hx
  have:=h x hx;rcases Int.lt_or_le x 0 with hlt|hle
  ·exact absurd ((show x= -1 by omega) ▸ hx) h1
  ·exact hle
def sI (p:Prog) (nO:Nat) (r:R) (σ:AH):Prop:=
 match Bg p with
 | some s=>r= .ret (.t [])∧ ∃v,Sat σ [.box nO [v],.own v 1 (iL s)]
 | none=>r= .Bf Dj∧ ∃v s,Sat σ [.box nO [v],.own v 1 (iL s)]
def ZA {p:Prog} {nO:Nat} {σ:AH} {v:V} {s:List Int} {l:List At} (h:Bg p=none) (hs:Sat σ l) (hsub: [At.box nO [v],.own v 1 (iL s)].Sublist l):Ag σ Dj (sI p nO):=DE (by
 rw[sI,h]
 exact⟨rfl,v,s,hs.less hsub⟩)
def zR {p:Prog} {nO:Nat} {σ:AH} {v:V} {s:List Int} {l:List At} (h:Bg p=some s) (hs:Sat σ l) (hsub: [At.box nO [v],.own v 1 (iL s)].Sublist l):Ap σ (.t []) (sI p nO):=Aa (by
 rw[sI,h]
 exact⟨rfl,v,hs.less hsub⟩)
def R9 {p:Prog} (h:C3 p=false):Bg p=none:=by unfold Bg;rw[h];rfl
def kL {w:AM} {f:Fact} (h:Co w f=true):QU f=true:=PT (w:=w) f (by simp only[Co,BU]at h;exact h.2.2)
def Pf {w:AM} (hw:FO w) (f:Fact):Pure Tryz.prog 146 [.a (BI w),.a (xF f)] (eI (if Co w f then 0 else 2)):=by
 rw[←Yc];exact aw w hw f
def Zn {α:Type} (a b c:α): [a,b,c].Perm [c,b,a]:=by simpa using(List.reverse_perm [a,b,c]).symm
set_option maxHeartbeats 4000000 in
def eP (p : Prog) (nO:Nat) (σ:AH) (hs:Sat σ [.box nO [.l [] true]]):A8 Tryz.prog 281 [.rp (Ba p),.p nO 0] σ (sI p nO):=by
 refine A8.fit (by kernel_rfl) fun hf=>?_
 have hM:=Mx
 have hfp:Eu (.a (Ba p)):=by
  have:=hf.1;simp only[S0]at this;simpa only[Gt]using this
 have⟨p1,p2,p3,p4⟩:=Fx hfp;refine qN kZ ?_;have hcl:=XX p;replace hs:Sat σ [.box nO [.l [] true],.own (.l [] true) 1 (iL [])]:=Ed hs 1;cases hcB:BD p with
 | false=>
   rw[hcB]at hcl
   conv=>whnf
   repeat'((first|apply st|(apply sq;intro K U)|(apply si;intro A B Y Z)|refine⟨kZ,?_⟩|fail)<;>conv=>whnf)
   refine hcl.use (pre:=[]) (rest:=[.box nO [.l [] true],.own (.l [] true) 1 (iL [])]) hs ?_;rintro r post σ ⟨rfl,rfl⟩ hs
   conv=>whnf
   repeat'((first|(refine Z _ _ _ ?_;clear Z B Y A)|clear U K)<;>conv=>whnf)
   exact ZA (R9 (by simp[C3,hcB])) hs (.refl _)
 | true=>
   rw[hcB]at hcl;obtain⟨hgW,hmS,h10⟩:=LR hcB
   conv=>whnf
   repeat'((first|apply st|(apply sq;intro K U)|(apply si;intro A B Y Z)|refine⟨kZ,?_⟩|fail)<;>conv=>whnf)
   refine hcl.use (pre:=[]) (rest:=[.box nO [.l [] true],.own (.l [] true) 1 (iL [])]) hs ?_;clear hs;rintro r post σ ⟨rfl,rfl⟩ hs
   conv=>whnf
   repeat'((first|apply st|(apply sq;intro K U)|(apply si;intro A B Y Z)|(apply Y;clear Z B Y A)|(refine Z _ _ _ ?_;clear Z B Y A)|(apply U;clear U K)|refine⟨rfl,?_⟩|(refine Cl (fun hc=>?_) (fun hc=>?_)<;>(replace hc:=bp hc)<;>(try simp(disch:=omega) only[BW,wrap64,AN]at hc)<;>(try(cases hc;done)))|(constructor<;>intro hc<;>(try rw[hc])<;>(replace hc:=bp hc)<;>(try simp(disch:=omega) only[BW,wrap64,AN]at hc))|clear U K)<;>conv=>whnf)
   rotate_left
   all_goals first
    | exact ZA (R9 (by simp[C3, *];intros;omega)) hs (.refl _)
    | skip
   have a1:p.Dc.length≤8:=by omega
   have a2:p.methods.length≤16:=by omega
   have a3:1≤p.nodes.length:=by omega
   have a4:p.nodes.length≤120:=by omega
   have hg:C3 p=p.Dc.all fun g=>decide (1≤g)&&decide (g≤3):=by
    simp only[C3,a1,a2,a3,a4,decide_true,I8];simp[*]
   refine CD p.Dc.length (fun k (_:Unit)=>[(36,eI (BM k))]) (fun _ _=>[.box nO [.l [] true],.own (.l [] true) 1 (iL [])]) (fun k _=>C3 p=(p.Dc.drop k).all fun g=>decide (1≤g)&&decide (g≤3)) () rfl (by simpa using hg) hs ?_;clear hs hg;rintro k - σ hk hn hs;rcases BS p.Dc hk with⟨g,hgk,hlt⟩|hke
   ·rw[drop_cons hgk,NN]at hn
    conv=>whnf
    repeat'((first|apply st|(apply sq;intro K U)|(apply si;intro A B Y Z)|(apply Y;clear Z B Y A)|(refine Z _ _ _ ?_;clear Z B Y A)|(apply U;clear U K)|refine⟨rfl,?_⟩|refine ix ?_|(refine C8 (fun hc=>?_)<;>(try rw[hc])<;>clear hc)|(refine Cl (fun hc=>?_) (fun hc=>?_)<;>(replace hc:=bp hc)<;>(try simp(disch:=omega) only[BW,wrap64,AN]at hc)<;>(try(cases hc;done)))|(constructor<;>intro hc<;>(try rw[hc])<;>(replace hc:=bp hc))|clear U K)<;>conv=>whnf)
    ·exact⟨hlt,(),rfl,by rw[hn];simp[*],hs⟩
    ·exact ZA (R9 (by rw[hn,decide_eq_false (show¬g≤3 by omega)];simp)) hs (.refl _)
    ·exact ZA (R9 (by rw[hn,decide_eq_false (show¬1≤g by omega)];simp)) hs (.refl _)
   ·have hh : C3 p=true:=by rw[hn,Al hke];rfl
    have hL:=YR hh;clear hn
    conv=>whnf
    repeat'((first|apply st|(apply sq;intro K U)|(apply si;intro A B Y Z)|(apply Y;clear Z B Y A)|(apply U;clear U K)|refine⟨rfl,?_⟩|(refine Es (fun hc=>?_)<;>(try rw[hc])<;>clear hc)|clear U K)<;>conv=>whnf)
    rw[BW];refine(Zg p.nodes.length a3 a4).use (pre:=[]) (rest:=[.box nO [.l [] true],.own (.l [] true) 1 (iL [])]) hs ?_;clear hs;rintro r post σ ⟨v,rfl,rfl,hv⟩ hs
    conv=>whnf
    repeat'((first|apply st|(apply sq;intro K U)|(apply si;intro A B Y Z)|(apply Y;clear Z B Y A)|(apply U;clear U K)|refine⟨kZ,?_⟩|refine IA fun σ hs=>?_|refine CX fun σ hs=>?_|refine Pure.use (UH p (by omega) (by omega)) ?_|(intro nn hnn;generalize hg:Az _ nn _=σ;refine CN hg fun hs=>?_;clear hg)|fail)<;>conv=>whnf)
    rename_i nw hnw _ hs;generalize nn=n5 at *;replace hs:=hs.less (show [At.box n5 (BI (AW p)),.own v 1 (iL (List.replicate p.nodes.length (-1))),.box nO [v]].Sublist _ from .cons₂ _ (.cons₂ _ (.cons₂ _ (.cons _ .slnil))));refine CD p.methods.length (fun k (s:List Int)=>[(59,eI (BM k))]) (fun _ s=>[.box nO [v],.own v 1 (iL s),.box n5 (BI (AW p))]) (fun k s=>s.length=p.nodes.length∧gI s∧Bg p=Jh p (runM p (p.methods.drop k) s)) (List.replicate p.nodes.length (-1)) rfl ⟨by simp,fun x hx=>by rw[List.eq_of_mem_replicate hx];omega,hL⟩ (hs.perm (Zn _ _ _)) ?_;clear hs hnw hnn;rintro k s σ hk ⟨hl,hge,hn⟩ hs;rcases BS p.methods hk with⟨m,hm,hlt⟩|hke
    ·have hF:=Pf hgW m.fact
     cases hfB:Co (AW p) m.fact with
     | false=>
       rw[hfB,if_neg Bool.false_ne_true]at hF;have hno:=DN hm hn (by simp[P1,hfB])
       conv=>whnf
       repeat'((first|apply st|(apply sq;intro K U)|(apply si;intro A B Y Z)|(apply Y;clear Z B Y A)|(refine Z _ _ _ ?_;clear Z B Y A)|(refine Z _ _ fun σ hsub=>?_;clear Z B Y A)|(apply U;clear U K)|apply dr|refine rk ?_ ?_|exact fun s e=>by cases e;rfl|refine⟨rfl,?_⟩|refine⟨kZ,?_⟩|refine ix ?_|refine ld ?_|refine CX fun σ hs=>?_|(refine C8 (fun hc=>?_)<;>(try rw[hc])<;>clear hc)|(refine Cl (fun hc=>?_) (fun hc=>?_)<;>(replace hc:=bp hc)<;>(try simp(disch:=omega) only[BW,wrap64,AN]at hc)<;>(try(cases hc;done)))|refine hF.use ?_|(constructor<;>intro hc<;>(try rw[hc])<;>(replace hc:=bp hc)<;>try(exfalso;omega))|(intro nn hnn;generalize hg:Az _ nn _=σ;refine CN hg fun hs=>?_;clear hg)|clear U K)<;>conv=>whnf)
       all_goals first
        | (refine ZA (v:=v) (s:=s) hno hs ?_;(repeat first|exact QI _|apply List.Sublist.cons₂|apply List.Sublist.cons);done)
        | (refine ZA (v:=v) (s:=s) hno (hs.up (by assumption)) ?_;(repeat first|exact QI _|apply List.Sublist.cons₂|apply List.Sublist.cons);done)
        | skip
     | true=>
       rw[hfB,if_pos rfl]at hF;have hsp:=Zc _ (kL hfB)
       conv=>whnf
       repeat'((first|apply st|(apply sq;intro K U)|(apply si;intro A B Y Z)|(apply Y;clear Z B Y A)|(refine Z _ _ _ ?_;clear Z B Y A)|(refine Z _ _ fun σ hsub=>?_;clear Z B Y A)|(apply U;clear U K)|apply dr|refine rk ?_ ?_|exact fun s e=>by cases e;rfl|refine⟨rfl,?_⟩|refine⟨kZ,?_⟩|refine ix ?_|refine TX ?_|refine iq fun x hx=>?_|refine ld ?_|refine CX fun σ hs=>?_|(refine C8 (fun hc=>?_)<;>(try rw[hc])<;>clear hc)|(refine Cl (fun hc=>?_) (fun hc=>?_)<;>(replace hc:=bp hc)<;>(try simp(disch:=omega) only[BW,wrap64,AN]at hc)<;>(try(cases hc;done)))|refine hF.use ?_|refine hsp.use ?_|(constructor<;>intro hc<;>(try rw[hc])<;>(replace hc:=bp hc)<;>(try simp(disch:=omega) only[BW,wrap64,AN]at hc)<;>try(exfalso;omega))|(intro nn hnn;generalize hg:Az _ nn _=σ;refine CN hg fun hs=>?_;clear hg)|clear U K)<;>conv=>whnf)
       all_goals first
        | (refine ZA (v:=v) (s:=s) (DN hm hn ?_) hs ?_;(simp[P1, *];intros;omega);(repeat first|exact QI _|apply List.Sublist.cons₂|apply List.Sublist.cons);done)
        | (refine ZA (v:=v) (s:=s) (DN hm hn ?_) (hs.up (by assumption)) ?_;(simp[P1, *];intros;omega);(repeat first|exact QI _|apply List.Sublist.cons₂|apply List.Sublist.cons);done)
        | skip
       rotate_left 2
       ·refine ZA (v:=v) (s:=s) (DN hm hn ?_) (hs.up (by assumption)) ?_
        ·simp only[P1,show p.Dc.getD m.gen.toNat 0=x by rw[E2,hx];rfl,decide_eq_false (show¬Gn m.fact≤x by omega),Bool.and_false]
        ·repeat first|exact QI _|apply List.Sublist.cons₂|apply List.Sublist.cons
       all_goals
        have hx13:=Q1 hh hx;have hgd:p.Dc.getD m.gen.toNat 0=x:=by rw[E2,hx];rfl
        have hok:P1 p m=true:=by simp only[P1,hgd,BU,DZ];exact⟨by omega,by omega,by omega,by omega,hfB,by assumption⟩
        have hgo:=fun s'=>X3 (s':=s') hm hn hok
        have hno:=Qh hm hn hok;rw[hgd]at hgo hno
       ·have hnb:Jf m.kind=(m.kind==4):=by simp[Jf, *]
        rw[hnb]at hgo hno;refine Bs ((S6 p (m.kind==4) hv m.node x s (by omega) (by omega) hl [.box n5 (BI (AW p))] σ (hs.less (.cons _ (.refl _)))).mono ?_);cases hw:CJ p (m.kind==4) 12 m.node x s with
        | none=>
          clear hs;rintro r σ' ⟨rfl,s',hl',hs⟩
          conv=>whnf
          repeat'((first|(refine Z _ _ fun σ hsub=>?_;clear Z B Y A)|clear U K)<;>conv=>whnf)
          exact ZA (v:=v) (s:=s') (hno hw) (hs.up (by assumption)) (.cons₂ _ (.cons₂ _ (QI _)))
        | some s2=>
          clear hs;rintro r σ' ⟨rfl,hs⟩
          conv=>whnf
          repeat'((first|(apply si;intro A B Y Z)|(apply Y;clear Z B Y A)|(apply U;clear U K)|apply dr|refine⟨rfl,?_⟩|clear U K)<;>conv=>whnf)
          exact⟨hlt,s2,rfl,⟨(JL _ hw).trans hl,LD _ (by omega) hw hge,hgo s2 hw⟩,hs⟩
       ·have hnb:Jf m.kind=true:=by simp[Jf, *]
        rw[hnb]at hgo hno;refine Bs ((S6 p true hv m.node x s (by omega) (by omega) hl [.box n5 (BI (AW p))] σ (hs.less (.cons _ (.refl _)))).mono ?_);cases hw:CJ p true 12 m.node x s with
        | none=>
          clear hs;rintro r σ' ⟨rfl,s',hl',hs⟩
          conv=>whnf
          repeat'((first|(refine Z _ _ fun σ hsub=>?_;clear Z B Y A)|clear U K)<;>conv=>whnf)
          exact ZA (v:=v) (s:=s') (hno hw) (hs.up (by assumption)) (.cons₂ _ (.cons₂ _ (QI _)))
        | some s2=>
          clear hs;rintro r σ' ⟨rfl,hs⟩
          conv=>whnf
          repeat'((first|(apply si;intro A B Y Z)|(apply Y;clear Z B Y A)|(apply U;clear U K)|apply dr|refine⟨rfl,?_⟩|clear U K)<;>conv=>whnf)
          exact⟨hlt,s2,rfl,⟨(JL _ hw).trans hl,LD _ (by omega) hw hge,hgo s2 hw⟩,hs⟩
    ·subst hke
     rw[List.drop_length,runM]at hn
     conv=>whnf
     repeat'((first|apply st|(apply sq;intro K U)|(apply si;intro A B Y Z)|(apply Y;clear Z B Y A)|(apply U;clear U K)|refine⟨rfl,?_⟩|refine⟨kZ,?_⟩|refine ix ?_|refine ld ?_|refine CX fun σ hs=>?_|(refine fc (fun x hx hlt hc=>?_) (fun hk hc=>?_)<;>(try rw[hc])<;>clear hc)|(constructor<;>intro hc<;>(try rw[hc])<;>(replace hc:=bp hc)<;>try(exfalso;omega))|(intro nn hnn;generalize hg:Az _ nn _=σ;refine CN hg fun hs=>?_;clear hg)|clear U K)<;>conv=>whnf)
     rw[Jh]at hn;refine Bs ((S6 p false hv p.main 0 s (by omega) (by omega) hl [.box n5 (BI (AW p))] σ hs).mono ?_);cases hw:CJ p false 12 p.main 0 s with
     | none=>
       rw[hw]at hn;clear hs;rintro r σ' ⟨rfl,s',hl',hs⟩
       conv=>whnf
       repeat'((first|(refine Z _ _ _ ?_;clear Z B Y A)|clear U K)<;>conv=>whnf)
       exact ZA (v:=v) (s:=s') hn hs (.cons₂ _ (.cons₂ _ (QI _)))
     | some s2=>
       rw[hw]at hn;have hge2:=LD _ (by omega) hw hge;simp only[ja hge2]at hn;clear hs;rintro r σ' ⟨rfl,hs⟩;have hct:=fun f=>Dp s2 f (-1)
       cases hyes:s2.contains (-1)with
       | true=>
         rw[hyes]at hct hn
         conv=>whnf
         repeat'((first|(apply si;intro A B Y Z)|(apply Y;clear Z B Y A)|(apply U;clear U K)|refine ld ?_|fail)<;>conv=>whnf)
         refine Pure.ZM (hct false) (.cons (hs.G7 1 rfl) (.cons (.refl _) .nil)) rfl ?_
         conv=>whnf
         repeat'((first|(refine Z _ _ _ ?_;clear Z B Y A)|(refine Cl (fun hc=>?_) (fun hc=>?_)<;>(replace hc:=bp hc)<;>(try simp(disch:=omega) only[BW,wrap64,AN]at hc)<;>(try(cases hc;done)))|fail)<;>conv=>whnf)
         all_goals exact ZA (v:=v) (s:=s2) hn (by first|exact hs|exact hs.up (by assumption)) (.cons₂ _ (.cons₂ _ (QI _)))
       | false=>
         rw[hyes]at hct hn
         conv=>whnf
         repeat'((first|(apply si;intro A B Y Z)|(apply Y;clear Z B Y A)|(apply U;clear U K)|refine ld ?_|fail)<;>conv=>whnf)
         refine Pure.ZM (hct false) (.cons (hs.G7 1 rfl) (.cons (.refl _) .nil)) rfl ?_
         conv=>whnf
         repeat'((first|(apply Y;clear Z B Y A)|(refine Cl (fun hc=>?_) (fun hc=>?_)<;>(replace hc:=bp hc)<;>(try simp(disch:=omega) only[BW,wrap64,AN]at hc)<;>(try(cases hc;done)))|fail)<;>conv=>whnf)
         all_goals exact zR (v:=v) hn hs (.cons₂ _ (.cons₂ _ (QI _)))
end Go.Gl
namespace Go.Gl
variable {P:Program} {σ:AH}
def az {v:V} {Q Q':R→AH→Prop} (h:Ap σ v Q) (hq: ∀r σ,Q r σ→Q' r σ):Ap σ v Q':=by
 obtain⟨vf,s2,h1,h2,h3⟩:=h;exact⟨vf,s2,h1,h2,hq _ _ h3⟩
def Cy.more {α S:Type} {g:FuncId} {fi ca:List V} {ea:α→V} {H:S→List At} {stp:α→S→Bool×S} {D:α→S→Prop} (h:Cy P (.f (.func g) fi ca) ea H stp D) (pre:List At):Cy P (.f (.func g) fi ca) ea (fun s=>pre++H s) stp D:=fun y s hd σ hs=>by
 have h1:By P g (fi++[ea y]++ca) (H s) fun r post=>r= .ret (.b (stp y s).1)∧post=H (stp y s).2:=fun σ hs=>A8.mono (h y s hd σ hs) fun r σ' ⟨e,h2⟩=>⟨_,⟨e,rfl⟩,h2⟩
 refine Bs (h1.use (rest:=pre) (hs.perm TO) ?_);rintro r post σ' ⟨rfl,rfl⟩ hs';exact⟨rfl,hs'.perm TO⟩
def M0 {α S:Type} (P:Program) (x:V) (ea:α→V) (H:S→List At) (f:α→Bool) (J:S→Prop) (D:α→Prop):Prop:=
 ∀y s,D y→J s→ ∀σ,Sat σ (H s)→Aw P x [ea y] σ fun r σ'=>r= .ret (.b (f y))∧ ∃s',J s'∧Sat σ' (H s')
def M0.use {α S:Type} {x:V} {ea:α→V} {H:S→List At} {f:α→Bool} {J:S→Prop} {D:α→Prop} (h:M0 P x ea H f J D) {y:α} {s:S} (hd:D y) (hj:J s) (hs:Sat σ (H s)) {k kp:V→AH→Prop} (hk: ∀s' σ',J s'→Sat σ' (H s')→k (.b (f y)) σ'):Aw P x [ea y] σ (qk k kp):=
 (h y s hd hj σ hs).mono fun r σ' ⟨e,s',hj',h'⟩=>by rw[e];exact hk s' σ' hj' h'
def My {α:Type} (f:α→Bool):List α→Nat→Int
 | [],_=> -1
 | y::r,k=>if f y then(k:Int)else My f r (k+1)
def U0 {α:Type} (f:α→Bool): ∀(xs:List α) (k:Nat),decide (My f xs k≥0)=xs.any f
 | [],_=>rfl
 | y::r,k=>by
   rw[My,QH];cases f y
   ·exact U0 f r (k+1)
   ·simp
end Go.Gl
namespace Go.Gl
structure Kn where
 low:Int
 high:Int
 no:List Int
 B2:Nat
 GQ:Nat
 whole:Bool
 A6:Bool
 AJ:List Int
def k0:Kn:=⟨-1000000000,1000000000,[],0,0,false,false,[]⟩
def Is (l:List Int) (s:Int):List Int:=if l.contains s then l else(l++[s]).mergeSort N1
def Cn (k:Kn) (f:Fact) (b:Bool):Kn:=
 if f.op=2 then(if b then {k with GQ:=k.GQ|||2 ^ f.cls.toNat}else {k with B2:=k.B2|||2 ^ f.cls.toNat})
 else if f.op=3 then(if b then {k with low:=if f.n > k.low then f.n else k.low}else {k with high:=if f.n - 1<k.high then f.n - 1 else k.high,whole:=true})
 else if b then {k with no:=k.no++[f.n]}else {k with low:=if f.n > k.low then f.n else k.low,high:=if f.n<k.high then f.n else k.high,whole:=true}
def Dd (k:Kn) (b:Bool):Kn:={k with A6:=k.A6|| !b}
def gG (k:Kn) (s:Int):Kn:={k with AJ:=Is k.AJ s}
def DA (a:Int) (p:List Int) (k:Kn) (l:Fact):Kn:=
 if(BN l).1.arg=a∧Bv (BN l).1.path p=true then
  (if(BN l).1.path=p then Cn (Dd k (BN l).2) (BN l).1 (BN l).2 else gG (Dd k (BN l).2) ((BN l).1.path.getD p.length 0))
 else k
def kn (ls:List Fact) (a:Int) (p:List Int):Kn:=ls.foldl (DA a p) k0
def XZ (k:Kn) (f:Fact) (b:Bool):(Cn k f b).A6=k.A6:=by
 unfold Cn
 (repeat' split)<;>rfl
def RJ (k:Kn) (f:Fact) (b:Bool):(Cn k f b).AJ=k.AJ:=by
 unfold Cn
 (repeat' split)<;>rfl
def TE (a:Int) (p:List Int) (k:Kn) (l:Fact):(DA a p k l).A6=(k.A6|| !((BN l).2|| !((BN l).1.arg==a&&Bv (BN l).1.path p))):=by
 unfold DA;split
 ·rename_i h
  have e:((BN l).1.arg==a)=true:=by simpa using h.1
  rw[e,h.2];split
  ·rw[XZ];simp[Dd]
  ·simp[gG,Dd]
 ·rename_i h
  have:((BN l).1.arg==a&&Bv (BN l).1.path p)=false:=by
   cases hb:((BN l).1.arg==a&&Bv (BN l).1.path p)with
   | false=>rfl
   | true=>rw[BU]at hb;exact absurd ⟨by simpa using hb.1,hb.2⟩ h
  rw[this];simp
def Lg (a:Int) (p:List Int): ∀(ls:List Fact) (k:Kn),(ls.foldl (DA a p) k).A6=(k.A6|| !GX ls a p)
 | [],k=>by simp[GX]
 | l::r,k=>by
   rw[List.foldl_cons,Lg a p r,TE];simp only[GX,NN];generalize (r.all _)=x;generalize ((BN l).2||_)=y;cases k.A6<;>cases x<;>cases y<;>rfl
def MV (ls:List Fact) (a:Int) (p:List Int):(kn ls a p).A6= !GX ls a p:=by rw[kn,Lg];rfl
def ar (l:List Int) (s x:Int):x∈Is l s↔x∈l∨x=s:=by
 unfold Is;split
 ·rename_i h
  rw[List.contains_iff_mem]at h;constructor
  ·exact .inl
  ·rintro(h'|rfl)
   ·exact h'
   ·exact h
 ·rw[(List.mergeSort_perm _ N1).mem_iff];simp
def TN {l:List Int} (s:Int) (h:l.Pairwise (· < ·)):(Is l s).Pairwise (· < ·):=by
 unfold Is;split
 ·exact h
 ·rename_i hc
  have hc':s∉l:=by simpa using hc
  have hp:=List.mergeSort_perm (l++[s]) N1;have h1:((l++[s]).mergeSort N1).Pairwise (fun a b=>N1 a b=true):=List.pairwise_mergeSort (fun a b c=>by simp only[N1,DZ];omega) (fun a b=>by simp only[N1,Gj,DZ];omega) _
  have h2:((l++[s]).mergeSort N1).Nodup:=hp.nodup_iff.2 (by
   rw[List.nodup_append];refine⟨h.imp fun hab=>by omega,by simp,fun a ha b hb=>?_⟩;simp only[Nz]at hb;rintro rfl
   exact hc' (hb ▸ ha))
  exact(h1.and h2).imp fun⟨h3,h4⟩=>by
   simp only[N1,DZ]at h3;omega
def PF: ∀ {l m:List Int},l.Pairwise (· < ·)→m.Pairwise (· < ·)→(∀x,x∈l↔x∈m)→l=m
 | [],[],_,_,_=>rfl
 | [],y::m,_,_,h=>absurd ((h y).2 (.head _)) (by simp)
 | x::l,[],_,_,h=>absurd ((h x).1 (.head _)) (by simp)
 | x ::l,y::m,h1,h2,h=>by
   rw[List.pairwise_cons]at h1 h2
   have hxy:x=y:=by
    rcases G5.1 ((h x).1 (.head _))with e|hx
    ·exact e
    ·rcases G5.1 ((h y).2 (.head _))with e|hy
     ·exact e.symm
     ·have:=h1.1 y hy
      have:=h2.1 x hx;omega
   subst hxy;congr 1;refine PF h1.2 h2.2 fun z=>?_
   constructor
   ·intro hz
    rcases G5.1 ((h z).1 (.tail _ hz))with e|hz'
    ·have:=h1.1 z hz;omega
    ·exact hz'
   ·intro hz
    rcases G5.1 ((h z).2 (.tail _ hz))with e|hz'
    ·have:=h2.1 z hz;omega
    ·exact hz'
def Dn {path pre:List Int}:Bv path pre=true↔ ∃t,path=pre++t:=by
 simp only[Bv,BU,DZ,D4];constructor
 ·rintro⟨_,h⟩
  exact⟨path.drop pre.length,by conv=>lhs;rw[←List.take_append_drop pre.length path,h]⟩
 ·rintro⟨t,rfl⟩
  simp
def Vm {path p:List Int} {s:Int}:Bv path (p++[s])=true↔Bv path p=true∧path≠p∧path.getD p.length 0=s:=by
 rw[Dn,Dn];constructor
 ·rintro⟨t,rfl⟩
  refine⟨⟨s::t,by simp⟩,fun e=>?_,by simp⟩;have:=congrArg List.length e;simp at this
 ·rintro⟨⟨t,rfl⟩,hne,hs⟩
  cases t with
  | nil=>simp at hne
  | cons y t=>simp at hs;subst hs;exact⟨t,by simp⟩
def YY {a:Int} {p:List Int} {s:Int} {l:Fact}:bE a p s l=true↔(BN l).1.arg=a∧Bv (BN l).1.path p=true∧(BN l).1.path≠p∧(BN l).1.path.getD p.length 0=s:=by
 rw[bE,BU,Vm,D4]
def VZ (a:Int) (p:List Int) (k:Kn) (l:Fact):(DA a p k l).AJ=if(BN l).1.arg=a∧Bv (BN l).1.path p=true∧(BN l).1.path≠p then Is k.AJ ((BN l).1.path.getD p.length 0)else k.AJ:=by
 unfold DA;by_cases h1:(BN l).1.arg=a∧Bv (BN l).1.path p=true
 ·rw[if_pos h1]
  by_cases h2:(BN l).1.path=p
  ·rw[if_pos h2,if_neg (fun h=>h.2.2 h2),RJ];rfl
  ·rw[if_neg h2,if_pos ⟨h1.1,h1.2,h2⟩];rfl
 ·rw[if_neg h1,if_neg (fun h=>h1 ⟨h.1,h.2.1⟩)]
def Ph (a:Int) (p:List Int): ∀(ls:List Fact) (k:Kn),k.AJ.Pairwise (· < ·)→(ls.foldl (DA a p) k).AJ.Pairwise (· < ·)∧ ∀s,s∈(ls.foldl (DA a p) k).AJ↔s∈k.AJ∨ls.any (bE a p s)=true
 | [],k,h=>⟨h,fun s=>by simp⟩
 | l ::r,k,h=>by
   rw[List.foldl_cons];have e:=VZ a p k l
   have h1:(DA a p k l).AJ.Pairwise (· < ·):=by
    rw[e];split
    ·exact TN _ h
    ·exact h
   obtain⟨i1,i2⟩:=Ph a p r _ h1;refine⟨i1,fun s=>?_⟩;rw[i2,e,QH,Gj,YY];split
   ·rename_i hc
    rw[ar];constructor
    ·rintro((h|rfl)|h)
     ·exact .inl h
     ·exact .inr (.inl ⟨hc.1,hc.2.1,hc.2.2,rfl⟩)
     ·exact .inr (.inr h)
    ·rintro(h|⟨-,-,-,h⟩|h)
     ·exact .inl (.inl h)
     ·exact .inl (.inr h.symm)
     ·exact .inr h
   ·rename_i hc
    constructor
    ·rintro(h|h)
     ·exact .inl h
     ·exact .inr (.inr h)
    ·rintro(h|⟨q1,q2,q3,-⟩|h)
     ·exact .inl h
     ·exact absurd ⟨q1,q2,q3⟩ hc
     ·exact .inr h
def Hl (n:Nat) (ls:List Fact):Prop:= ∀l∈ls,∀s∈(BN l).1.path,(0:Int)≤s∧s<n
def PK {n:Nat} {s:Int}:s∈Ca n↔0≤s∧s<n:=by
 simp only[Ca,NP,List.mem_range];constructor
 ·rintro⟨m,hm,rfl⟩
  exact⟨Int.natCast_nonneg m,by simpa using hm⟩
 ·rintro⟨h0,h1⟩
  exact⟨s.toNat,by omega,by simp;omega⟩
def QD (n:Nat):(Ca n).Pairwise (· < ·):=by
 rw[Ca,List.pairwise_map];exact List.pairwise_lt_range.imp fun h=>by simpa using h
def oV {n:Nat} {ls:List Fact} (h:Hl n ls) {a:Int} {p:List Int} {s:Int} {l:Fact} (hl:l∈ls) (hg:bE a p s l=true):0≤s∧s<n:=by
 rw[YY]at hg;obtain⟨-,h2,h3,h4⟩:=hg;obtain⟨t,ht⟩:=Dn.1 h2;refine h l hl s ?_;rw[ht]at h3 h4 ⊢;cases t with
 | nil=>simp at h3
 | cons y t=>simp at h4;subst h4;simp
def LO {n:Nat} {ls:List Fact} (h:Hl n ls) (a:Int) (p:List Int):(kn ls a p).AJ=CR n ls a p:=by
 obtain⟨h1,h2⟩:=Ph a p ls k0 .nil;refine PF h1 ((QD n).filter _) fun s=>?_
 show s∈(ls.foldl (DA a p) k0).AJ↔_;rw[h2,CR,Pz,PK];constructor
 ·rintro(h|hs)
  ·cases h
  ·obtain⟨l,hl,hg⟩:=NO.1 hs
   exact⟨oV h hl hg,hs⟩
 ·exact fun hs=> .inr hs.2
def Eb (os:List Fact) (k:Kn):Kn:=os.foldl (fun k l=>Cn k (BN l).1 (BN l).2) k
abbrev E0 (k:Kn):Int×Int×List Int×Nat×Nat×Bool:=(k.low,k.high,k.no,k.B2,k.GQ,k.whole)
def U4 {k k':Kn} (h:E0 k=E0 k') (f:Fact) (b:Bool):E0 (Cn k f b)=E0 (Cn k' f b):=by
 cases k;cases k';simp only[E0,Prod.mk.injEq]at h;obtain⟨rfl,rfl,rfl,rfl,rfl,rfl⟩:=h;unfold Cn
 (repeat' split)<;>rfl
def NL (p:List Int):Bv p p=true:=Dn.2 ⟨[],by simp⟩
def aZ (a:Int) (p:List Int) (k:Kn) (l:Fact):E0 (DA a p k l)=if IW a p l then E0 (Cn k (BN l).1 (BN l).2)else E0 k:=by
 unfold DA IW;by_cases h1:(BN l).1.arg=a
 ·by_cases h2:(BN l).1.path=p
  ·have e:((BN l).1.arg==a&&(BN l).1.path==p)=true:=by simp[h1,h2]
   rw[if_pos ⟨h1,by rw[h2];exact NL p⟩,if_pos h2,e,if_pos rfl];exact U4 (k:=Dd k (BN l).2) (k':=k) rfl _ _
  ·have e:((BN l).1.arg==a&&(BN l).1.path==p)=false:=by simp[h2]
   rw[if_neg h2,e,if_neg Bool.false_ne_true];split<;>rfl
 ·have e:((BN l).1.arg==a&&(BN l).1.path==p)=false:=by simp[h1]
  rw[if_neg (fun h=>h1 h.1),e,if_neg Bool.false_ne_true]
def Me (a:Int) (p:List Int): ∀(ls:List Fact) (k k':Kn),E0 k=E0 k'→E0 (ls.foldl (DA a p) k)=E0 (Eb (ls.filter (IW a p)) k')
 | [],k,k',h=>h
 | l ::r,k,k',h=>by
   rw[List.foldl_cons,List.filter_cons];have e:=aZ a p k l;split
   ·rename_i ho
    rw[if_pos ho]at e;exact Me a p r _ _ (e.trans (U4 h _ _))
   ·rename_i ho
    rw[if_neg (by simpa using ho)]at e;exact Me a p r _ _ (e.trans h)
def Np (ls:List Fact) (a:Int) (p:List Int):E0 (kn ls a p)=E0 (Eb (ls.filter (IW a p)) k0):=Me a p ls k0 k0 rfl
def mH (x:Fact×Bool):Bool:= !(x.1.op==2)||(decide (x.1.cls > 1)==x.2)
def Zb (x:Fact×Bool) (k:Kn):Ik x (k.low,k.high,k.no)=if mH x then some ((Cn k x.1 x.2).low,(Cn k x.1 x.2).high,(Cn k x.1 x.2).no)else none:=by
 unfold Ik mH Cn;by_cases h2:x.1.op=2
 ·rw[if_pos h2,if_pos h2]
  cases x.2<;>cases decide (x.1.cls > 1)<;>simp[h2]
 ·rw[if_neg h2,if_neg h2]
  by_cases h3:x.1.op=3
  ·rw[if_pos h3,if_pos h3]
   cases x.2<;>simp[h2]
  ·rw[if_neg h3,if_neg h3]
   cases x.2<;>simp[h2]
def Q7: ∀(os:List Fact) (k:Kn),foldI os (k.low,k.high,k.no)=if os.all (fun l=>mH (BN l))then some ((Eb os k).low,(Eb os k).high,(Eb os k).no)else none
 | [],k=>rfl
 | l ::r,k=>by
   rw[foldI,Zb,NN];cases hb:mH (BN l)with
   | false=>rfl
   | true=>
     rw[if_pos rfl,Option.bind_some,Q7 r,I8];rfl
def fu (k:Kn) (f:Fact) (c:Bool) (b:Nat):(Cn k f c).B2.testBit b=(k.B2.testBit b||(f.op==2&& !c&&f.cls.toNat==b)):=by
 unfold Cn;by_cases h2:f.op=2
 ·rw[if_pos h2]
  cases c<;>simp[h2,Nat.testBit_or,Nat.testBit_two_pow,Bool.beq_eq_decide_eq]
 ·rw[if_neg h2]
  have:(f.op==2)=false:=by simpa using h2
  rw[this]
  repeat' split
  all_goals simp
def kK (k:Kn) (f:Fact) (c:Bool) (b:Nat):(Cn k f c).GQ.testBit b=(k.GQ.testBit b||(f.op==2&&c&&f.cls.toNat==b)):=by
 unfold Cn;by_cases h2:f.op=2
 ·rw[if_pos h2]
  cases c<;>simp[h2,Nat.testBit_or,Nat.testBit_two_pow,Bool.beq_eq_decide_eq]
 ·rw[if_neg h2]
  have:(f.op==2)=false:=by simpa using h2
  rw[this]
  repeat' split
  all_goals simp
def an (k:Kn) (f:Fact) (c:Bool):(Cn k f c).whole=(k.whole||(!c&& !(f.op==2))):=by
 unfold Cn;by_cases h2:f.op=2
 ·rw[if_pos h2]
  cases c<;>simp[h2]
 ·rw[if_neg h2]
  have:(f.op==2)=false:=by simpa using h2
  rw[this];cases c<;>(repeat' split)<;>simp_all
def Mj: ∀(os:List Fact) (k:Kn) (b:Nat),(Eb os k).B2.testBit b=(k.B2.testBit b||os.any fun l=>(BN l).1.op==2&& !(BN l).2&&(BN l).1.cls.toNat==b)
 | [],k,b=>by simp[Eb]
 | l::r,k,b=>by
   have:=Mj r (Cn k (BN l).1 (BN l).2) b;rw[fu]at this;rw[QH,←Bool.or_assoc,←this];rfl
def O3: ∀(os:List Fact) (k:Kn) (b:Nat),(Eb os k).GQ.testBit b=(k.GQ.testBit b||os.any fun l=>(BN l).1.op==2&&(BN l).2&&(BN l).1.cls.toNat==b)
 | [],k,b=>by simp[Eb]
 | l::r,k,b=>by
   have:=O3 r (Cn k (BN l).1 (BN l).2) b;rw[kK]at this;rw[QH,←Bool.or_assoc,←this];rfl
def KT: ∀(os:List Fact) (k:Kn),(Eb os k).whole=(k.whole||os.any fun l=> !(BN l).2&& !((BN l).1.op==2))
 | [],k=>by simp[Eb]
 | l::r,k=>by
   have:=KT r (Cn k (BN l).1 (BN l).2);rw[an]at this;rw[QH,←Bool.or_assoc,←this];rfl
def P2 (m up:Nat):Bool:=(List.range 64).all fun b=> !m.testBit b||up.testBit b
def Of {m up:Nat} (hm:m<2 ^ 64):P2 m up=true↔ ∀b,m.testBit b=true→up.testBit b=true:=by
 simp only[P2,GP,List.mem_range,Gj,Bool.not_eq_true'];constructor
 ·intro h b hb
  have hlt:b<64:=by
   rcases Nat.lt_or_ge b 64 with h'|h'
   ·exact h'
   ·rw[Nat.testBit_lt_two_pow (Nat.lt_of_lt_of_le hm (Nat.pow_le_pow_right (by decide) h'))]at hb;cases hb
  rcases h b hlt with h'|h'
  ·rw[hb]at h';cases h'
  ·exact h'
 ·intro h b _
  cases hb:m.testBit b with
  | false=>exact .inl rfl
  | true=>exact .inr (h b hb)
def O1 {m n:Nat}:(m&&&n==0)=true↔ ∀b,m.testBit b=true→n.testBit b=true→False:=by
 rw[D4];constructor
 ·intro h b h1 h2
  have:=congrArg (fun x=>x.testBit b) h;simp[Nat.testBit_and,h1,h2]at this
 ·intro h
  refine Nat.eq_of_testBit_eq fun b=>?_
  rw[Nat.testBit_and,Nat.zero_testBit];cases h1:m.testBit b with
  | false=>rfl
  | true=>
    cases h2:n.testBit b with
    | false=>rfl
    | true=>exact(h b h1 h2).elim
def SM (c b:Nat):(1|||2 ^ c).testBit b=(b==0||b==c):=by
 rw[Nat.testBit_or,Nat.testBit_two_pow,show(1:Nat)=2 ^ 0 from rfl,Nat.testBit_two_pow];rw[JZ];simp only[Gj,DZ,D4];omega
def Ic (n:Nat) (ls:List Fact):Prop:= ∀l∈ls,(BN l).1.op=2→0≤(BN l).1.cls∧(BN l).1.cls<n
def PZ {m n:Nat} (h: ∀b,m.testBit b=true→b<n):m<2 ^ n:=by
 refine Nat.lt_pow_two_of_testBit _ fun i hi=>?_
 cases hb:m.testBit i with
 | false=>rfl
 | true=>have:=h i hb;omega
def Si {os:List Fact} {n:Nat} (h:Ic n os):(Eb os k0).B2<2 ^ n:=PZ fun b hb=>by
 rw[Mj]at hb;simp only[k0,Nat.zero_testBit,Bool.false_or,NO,BU,D4]at hb;obtain⟨l,hl,⟨h2,-⟩,rfl⟩:=hb;have:=h l hl h2;omega
def nh {os:List Fact} {n:Nat} (h:Ic n os):(Eb os k0).GQ<2 ^ n:=PZ fun b hb=>by
 rw[O3]at hb;simp only[k0,Nat.zero_testBit,Bool.false_or,NO,BU,D4]at hb;obtain⟨l,hl,⟨h2,-⟩,rfl⟩:=hb;have:=h l hl h2;omega
def LM {os:List Fact} {b:Nat}:(Eb os k0).B2.testBit b=true↔ ∃l∈os,(BN l).1.op=2∧(BN l).2=false∧(BN l).1.cls.toNat=b:=by
 rw[Mj];simp only[k0,Nat.zero_testBit,Bool.false_or,NO,BU,D4,Bool.not_eq_true',and_assoc]
def YM {os:List Fact} {b:Nat}:(Eb os k0).GQ.testBit b=true↔ ∃l∈os,(BN l).1.op=2∧(BN l).2=true∧(BN l).1.cls.toNat=b:=by
 rw[O3];simp only[k0,Nat.zero_testBit,Bool.false_or,NO,BU,D4,and_assoc]
def Zm {os:List Fact} {n:Nat} (hn:n≤64) (h:Ic n os):(P2 (Eb os k0).B2 (1|||2 ^ 1)&&((Eb os k0).GQ&&&(1|||2 ^ 1)==0))=os.all fun l=>mH (BN l):=by
 rw[JZ,BU,Of (Nat.lt_of_lt_of_le (Si h) (Nat.pow_le_pow_right (by decide) hn)),O1];simp only[LM,YM,SM,GP,mH,Gj,Bool.not_eq_true',beq_eq_false_iff_ne,D4,ne_eq];constructor
 ·rintro⟨h1,h2⟩ l hl
  by_cases ho:(BN l).1.op=2
  ·right
   have hc:=h l hl ho;cases hb:(BN l).2 with
   | false=>
     have:=h1 _ ⟨l,hl,ho,hb,rfl⟩;rw[decide_eq_false_iff_not];omega
   | true=>
     rw[DZ];rcases Int.lt_or_le 1 (BN l).1.cls with hlt|hle
     ·exact hlt
     ·exact(h2 _ ⟨l,hl,ho,hb,rfl⟩ (by omega)).elim
  ·exact .inl ho
 ·intro h1
  constructor
  ·rintro b ⟨l,hl,ho,hb,rfl⟩
   rcases h1 l hl with h'|h'
   ·exact absurd ho h'
   ·have hc:=h l hl ho
    rw[hb,decide_eq_false_iff_not]at h';omega
  ·rintro b ⟨l,hl,ho,hb,rfl⟩ hu
   rcases h1 l hl with h'|h'
   ·exact absurd ho h'
   ·have hc:=h l hl ho
    rw[hb,DZ]at h';omega
def Za (x:Fact×Bool):(!Jb x)=true↔(x.2=false→x.1.op=2∧(x.1.cls=0∨x.1.cls=2))∧(x.2=true→ ¬(x.1.op=2∧(x.1.cls=0∨x.1.cls=2))):=by
 have e:(x.1.op==2&&(x.1.cls==0||x.1.cls==2))=true↔x.1.op=2∧(x.1.cls=0∨x.1.cls=2):=by
  simp only[BU,Gj,D4]
 rw[←e,Jb];generalize (x.1.op==2&&(x.1.cls==0||x.1.cls==2))=y;cases x.2<;>cases y<;>simp
def ZW {os:List Fact}:(!(Eb os k0).whole)=true↔ ∀l∈os,(BN l).2=false→(BN l).1.op=2:=by
 rw[KT,Bool.not_eq_true',←Bool.not_eq_true];simp only[k0,Bool.false_or,NO,BU,Bool.not_eq_true',beq_eq_false_iff_ne];constructor
 ·intro h l hl hb
  rcases Classical.em ((BN l).1.op=2)with e|e
  ·exact e
  ·exact absurd ⟨l,hl,hb,e⟩ h
 ·rintro h ⟨l,hl,hb,e⟩
  exact e (h l hl hb)
def Wz {os:List Fact} {n:Nat} (hn:n≤64) (h:Ic n os):(!(Eb os k0).whole&&(P2 (Eb os k0).B2 (1|||2 ^ 2)&&((Eb os k0).GQ&&&(1|||2 ^ 2)==0)))=os.all fun l=> !Jb (BN l):=by
 rw[JZ,BU,BU,Of (Nat.lt_of_lt_of_le (Si h) (Nat.pow_le_pow_right (by decide) hn)),O1,ZW,GP];simp only[LM,YM,SM,Gj,D4,Za];constructor
 ·rintro⟨h0,h1,h2⟩ l hl
  refine⟨fun hb=>?_,fun hb ⟨ho,hc⟩=>h2 _ ⟨l,hl,ho,hb,rfl⟩ (by omega)⟩;have ho:=h0 l hl hb;have hc:=h l hl ho;have:=h1 _ ⟨l,hl,ho,hb,rfl⟩;exact⟨ho,by omega⟩
 ·intro h1
  refine⟨fun l hl hb=>((h1 l hl).1 hb).1,?_,?_⟩
  ·rintro b ⟨l,hl,ho,hb,rfl⟩
   have:=((h1 l hl).1 hb).2;omega
  ·rintro b ⟨l,hl,ho,hb,rfl⟩ hu
   have hc:=h l hl ho;exact(h1 l hl).2 hb ⟨ho,by omega⟩
def Qb {no:List Int}: ∀(k:Nat) (m:Int),(Rh no k m).isSome=true↔ ∃j:Nat,j<k∧m+j∉no
 | 0,m=>by simp[Rh]
 | k + 1,m=>by
   rw[Rh];split
   ·rename_i h
    simp only[Option.isSome_some,true_iff];refine⟨0,by omega,fun hm=>?_⟩;rw[GP]at h;have:=h _ hm;simp at this
   ·rename_i h
    rw[Qb k]
    have hm:m∈no:=by
     rcases Classical.em (m∈no)with h'|h'
     ·exact h'
     ·refine absurd (GP.2 fun x hx=>?_) h
      rw[bne_iff_ne];rintro rfl;exact h' hx
    constructor
    ·rintro⟨j,hj,h'⟩
     exact⟨j+1,by omega,by rw[show m+((j+1:Nat):Int)=m+1+j by omega];exact h'⟩
    ·rintro⟨j,hj,h'⟩
     cases j with
     | zero=>simp at h';exact absurd hm h'
     | succ j=>exact⟨j,by omega,by rw[show m+1+(j:Int)=m+((j+1:Nat):Int) by omega];exact h'⟩
def eL {low high n:Int} {no:List Int} (h0:low≤n) (h1:n∉no) (h2: ∀m,low≤m→m<n→m∈no):(Ty (low,high,no)).isSome=decide (n≤high):=by
 rw[JZ,Ty,Qb,DZ];constructor
 ·rintro⟨j,hj,h⟩
  rcases Int.lt_or_le (low+j) n with hlt|hle
  ·exact absurd (h2 _ (by omega) hlt) h
  ·simp only at hj;omega
 ·intro h
  refine⟨(n - low).toNat,by simp only;omega,?_⟩;rw[show low+((n - low).toNat:Int)=n by omega];exact h1
end Go.Gl
