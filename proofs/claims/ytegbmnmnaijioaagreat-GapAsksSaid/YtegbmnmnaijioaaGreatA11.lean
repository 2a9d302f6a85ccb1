import Derived.Test.YtegbmnmnaijioaaGreatA10
set_option linter.all false
set_option linter.defProp false
noncomputable section
namespace Go.Gl
open Go.Proofs
attribute [local irreducible] BC Aw Ai AV AM Ah AU AW AN Ag AQ AS A3 BA Sat Ab A8 Ak W
def FG (p:Prog) (next:Bool) (n size depth:Int) (s:List Int):Option (List Int):=
 if n<0∨(p.nodes.length:Int)≤n∨0≤s.getD n.toNat 0∨12<depth then none else
 match p.nodes[n.toNat]? with
 | none=>none
 | some x=>if EB p next size x then some (s.set n.toNat size)else none
def dU {S:Type}:Option S→Rd S
 | some s=> .go s
 | none=> .Bi Dw
abbrev x3 (y:Int×Int×Int):List V:=[eI y.1,.a [eI y.2.1,eI y.2.2]]
abbrev hOut (nO:Nat) (v:V) (s:List Int):List At:=[.box nO [v],.own v 1 (iL s)]
abbrev dP (p:Prog) (y:Int×Int×Int) (s:List Int):Prop:=0≤y.2.1∧y.2.1≤100∧1≤y.2.2∧y.2.2≤13∧s.length=p.nodes.length
abbrev Wz (p:Prog) (L nW:Nat):V:= .f (.func 328) [] [.rp [.f (.yield L) [] []],.rp (BR p),.p nW 0]
def XT {p:Prog} {next:Bool} {n size depth:Int} {s s':List Int} (h:FG p next n size depth s=some s'):0≤n∧n<(p.nodes.length:Int)∧s.getD n.toNat 0<0∧depth≤12∧ ∃x,p.nodes[n.toNat]? =some x∧EB p next size x=true∧s'=s.set n.toNat size:=by
 unfold FG at h;split at h
 ·cases h
 ·rename_i hc
  split at h
  ·cases h
  ·rename_i x hx
   split at h
   ·rename_i hok
    simp only[IT]at h;exact⟨by omega,by omega,by omega,by omega,x,hx,hok,h.symm⟩
   ·cases h
def XS {p:Prog} {next:Bool} {d:Nat} {n size depth:Int} {s:List Int} (hd:depth=13 - (d+1:Nat)) (hd1:1≤depth):CR p next (d+1) n size s=match FG p next n size depth s with
    | none=>none
    | some s'=>match p.nodes[n.toNat]? with
      | none=>none
      | some x=>FY (CR p next d) x.op size 0 x.kids s':=by
 unfold FG;simp only[CR];by_cases h:n<0∨(p.nodes.length:Int)≤n∨0≤s.getD n.toNat 0
 ·rw[if_pos h,if_pos (by omega)]
 ·rw[if_neg h,if_neg (by omega)]
  cases hx:p.nodes[n.toNat]? with
  | none=>rfl
  | some x=>
    simp only;split
    ·rfl
    ·rfl
def XU {p:Prog} {next:Bool} {n size depth:Int} {s:List Int} (hd:12<depth):FG p next n size depth s=none:=by
 unfold FG;rw[if_pos (by omega)]
def Ry {f:Int→Int→List Int→Option (List Int)} (hf: ∀ {a b s s'},f a b s=some s'→s'.length=s.length) {op size:Int}: ∀(i:Nat) (l:List Int) {s s':List Int},FY f op size i l s=some s'→s'.length=s.length
 | _,[],s,s',h=>by cases h;rfl
 | i,k::r,s,s',h=>by
   simp only[FY]at h;split at h
   ·cases h
   ·rename_i s1 h1
    exact(Ry hf (i+1) r h).trans (hf h1)
def Jg {p:Prog} {next:Bool}: ∀(d:Nat) {n size:Int} {s s':List Int},CR p next d n size s=some s'→s'.length=s.length
 | 0,_,_,_,_,h=>by cases h
 | d + 1,n,size,s,s',h=>by
   simp only[CR]at h;split at h
   ·cases h
   ·split at h
    ·cases h
    ·split at h
     ·exact(Ry (fun h=>Jg d h) 0 _ h).trans (by simp)
     ·cases h
set_option maxHeartbeats 4000000 in
def kG (p : Prog) (next:Bool) {L:Nat} {E:Env} {ok:FuncId→Array Tmp→Code→Code→Nat→Prop} {v:V} {nO:Nat}
    (hY:Mr Tryz.prog L E ok x3 (hOut nO v) (fun s=>s.length=p.nodes.length) (fun y s=>dU (FG p next y.1 y.2.1 y.2.2 s)) (dP p)) :
    ∀ d : Nat,d≤12→ ∀(n size depth:Int) (s:List Int),depth=13 - d→0≤size→size+d≤100→s.length=p.nodes.length→ ∀(nW:Nat) (rest:List At) (σ:AH),
      Sat σ (.obj L (.loop .ready E ok)::(hOut nO v s++(.box nW [Wz p L nW]::rest)))→
      BC Tryz.prog 328 [eI n,.a [eI size,eI depth],.rp [.f (.yield L) [] []],.rp (BR p),.p nW 0] σ
       (jk L E ok (hOut nO v) (fun s=>s.length=p.nodes.length) (.box nW [Wz p L nW]::rest) (.b true) (.b false) (dU (CR p next d n size s))):=by
 intro d
 induction d with
 | zero=>
   intro _ n size depth s hd h0 h1 hl nW rest σ hs;refine fO kZ ?_
   conv=>whnf
   repeat'((first|apply st|(apply sq;intro K U)|(apply si;intro A B Y Z)|(apply Y;clear Z B Y A)|(apply U;clear U K)|refine⟨kZ,?_⟩|fail)<;>conv=>whnf)
   refine hY.use (y:=(n,size,depth)) (s:=s) ⟨h0,(by dsimp only;omega),(by dsimp only;omega),(by dsimp only;omega),hl⟩ hs ?_;rw[XU (by dsimp only;omega)];rintro r σ' ⟨rfl,s',hj,hs'⟩
   conv=>whnf
   repeat'((first|(refine Z _ _ _ ?_;clear Z B Y A)|clear U K)<;>conv=>whnf)
   exact DN ⟨rfl,s',hj,hs'⟩
 | succ d ih =>
   intro hd12 n size depth s hd h0 h1 hl nW rest σ hs;refine BC.fit (by kernel_rfl) fun hf=>?_
   have hM:=Mx
   have hfp:E4 (.a (BR p)):=by
    have:=hf.2.2.2.1;simp only[Tj]at this;simpa only[G3]using this
   have⟨p1,p2,p3,p4⟩:=Er hfp;refine fO kZ ?_
   conv=>whnf
   repeat'((first|apply st|(apply sq;intro K U)|(apply si;intro A B Y Z)|(apply Y;clear Z B Y A)|(apply U;clear U K)|refine⟨kZ,?_⟩|fail)<;>conv=>whnf)
   refine hY.use (y:=(n,size,depth)) (s:=s) ⟨h0,(by dsimp only;omega),(by dsimp only;omega),(by dsimp only;omega),hl⟩ hs ?_;have hw:=XS (p:=p) (next:=next) (n:=n) (size:=size) (s:=s) hd (by omega);cases hv:FG p next n size depth s with
   | none=>
     rw[hv]at hw;rintro r σ' ⟨rfl,s',hj,hs'⟩
     conv=>whnf
     repeat'((first|(refine Z _ _ _ ?_;clear Z B Y A)|clear U K)<;>conv=>whnf)
     refine DN ?_;rw[hw];exact⟨rfl,s',hj,hs'⟩
   | some s1 =>
     obtain⟨g0,g1,g2,g3,x,hx,hok,hs1⟩:=XT hv;rw[hv]at hw;simp only[hx]at hw;have hl1:s1.length=p.nodes.length:=by rw[hs1];simpa using hl
     have hkm:=fH hfp (B9 hx);clear hv hs1;rintro r σ1 ⟨rfl,hs⟩
     conv=>whnf
     repeat'((first|apply st|(apply sq;intro K U)|(apply si;intro A B Y Z)|(apply Y;clear Z B Y A)|(apply U;clear U K)|refine HI ?_|refine FP ?_|fail)<;>conv=>whnf)
     refine CA x.kids.length (fun k (_:List Int)=>[(23,eI (BG k))]) (fun _ s'=> .obj L (.loop .ready E ok)::(hOut nO v s'++(.box nW [Wz p L nW]::rest))) (fun k s'=>s'.length=p.nodes.length∧CR p next (d+1) n size s=FY (CR p next d) x.op size k (x.kids.drop k) s') s1 rfl ⟨hl1,by simpa using hw⟩ hs ?_;clear hs hw;rintro k s' σ hk ⟨hl',hkids⟩ hs;rcases BI x.kids hk with⟨kid,hkid,hlt⟩|hke
     ·have hck:BG k=k:=AK (by omega)
      rw[drop_cons hkid,FY]at hkids;have e0:IntKind.i64.wrap (depth+1)=depth+1:=wrap64 (by omega) (by omega);have e1:IntKind.i64.wrap (size+1)=size+1:=wrap64 (by omega) (by omega)
      have hrec: ∀(sz:Int) (σ:AH) (l:List At),0≤sz→sz+d≤100→Sat σ (l++(.obj L (.loop .ready E ok)::(hOut nO v s'++(.box nW [Wz p L nW]::rest))))→A3 Tryz.prog (Wz p L nW) [eI kid,.a [eI sz,eI (depth+1)]] σ
       (jk L E ok (hOut nO v) (fun s=>s.length=p.nodes.length) (.box nW [Wz p L nW]::rest) (.b true) (.b false) (dU (CR p next d kid sz s'))):=fun sz σ l h0 h1 hs=>
       B2 (ih (by omega) kid sz (depth+1) s' (by omega) h0 h1 hl' nW rest σ (hs.less (List.sublist_append_right _ _)))
      conv=>whnf
      repeat'((first|apply st|(apply sq;intro K U)|(apply si;intro A B Y Z)|(apply Y;clear Z B Y A)|(apply U;clear U K)|refine⟨rfl,?_⟩|refine⟨kZ,?_⟩|refine ix ?_|refine HI ?_|refine ld ?_|refine GV fun σ hs=>?_|refine Cw fun σ hs=>?_|(refine CU (fun hc=>?_)<;>(try rw[hc])<;>clear hc)|(constructor<;>intro hc<;>(try rw[hc])<;>(replace hc:=bp hc)<;>(try simp(disch:=omega) only[A9,wrap64,AK]at hc))|(intro nn hnn;generalize hg:A0 _ nn _=σ;refine CZ hg fun hs=>?_;clear hg)|fail)<;>conv=>whnf)
      all_goals
       simp only[e0,e1]
       first
        | rw[if_pos (by omega)]at hkids
          refine(hrec (size+1) _ [_] (by omega) (by omega) hs).mono ?_
        | rw[if_neg (by omega)]at hkids
          refine(hrec size _ [_] (by omega) (by omega) hs).mono ?_
       cases hw:CR p next d kid _ s' with
       | none=>
         rw[hw]at hkids;rintro r σ' ⟨rfl,s',hj,hs'⟩
         conv=>whnf
         repeat'((first|(refine Z _ _ _ ?_;clear Z B Y A)|clear U K)<;>conv=>whnf)
         refine DN ?_;rw[hkids];exact⟨rfl,s',hj,hs'⟩
       | some s2=>
         rw[hw]at hkids;rintro r σ' ⟨rfl,hs'⟩
         conv=>whnf
         repeat'((first|apply st|(apply si;intro A B Y Z)|(apply Y;clear Z B Y A)|(apply U;clear U K)|refine⟨rfl,?_⟩|refine FP ?_|clear U K)<;>conv=>whnf)
         exact⟨hlt,s2,rfl,⟨(Jg _ hw).trans hl',hkids⟩,hs'⟩
     ·rw[As hke,FY]at hkids
      conv=>whnf
      repeat'((first|apply st|(apply sq;intro K U)|(apply si;intro A B Y Z)|(apply Y;clear Z B Y A)|(apply U;clear U K)|refine⟨rfl,?_⟩|(refine Dl (fun hc=>?_)<;>(try rw[hc])<;>clear hc)|clear U K)<;>conv=>whnf)
      refine AX ?_;rw[hkids];exact⟨rfl,hs⟩
def oe {a b:Nat} {A B:Prop} (e:a=b) (h:A):(a=b→A)∧(a≠b→B):=⟨fun _=>h,fun n=>absurd e n⟩
def yB {a b:Nat} {A B:Prop} (e:a≠b) (h:B):(a=b→A)∧(a≠b→B):=⟨fun n=>absurd n e,fun _=>h⟩
def gE {P:Program} {σ:AH} {tab:List (TypeId×FuncId)} {t:TypeId} {f:FuncId} {v:V} {args:List V} {Q:R→AH→Prop} (h:look t tab=some f) (hc:BC P f (v::args) σ Q):BA P tab (.E2 t v) args σ Q:=by
 unfold BA;simp only[h];exact hc
def jC (p:Prog) (n size depth:Int):Pure Tryz.prog 285 [.a (BR p),eI n,.a [eI size,eI depth]] (.f (.func 327) [] [.rp (BR p),.rp [eI n],.rp [eI size,eI depth]]):=by
 refine sd kZ ?_;have hs:=Sn
 conv=>whnf
 repeat'((first|apply st|(apply sq;intro K U)|(apply si;intro A B Y Z)|(apply Y;clear Z B Y A)|(apply U;clear U K)|fail)<;>conv=>whnf)
 all_goals exact AI rfl
set_option maxHeartbeats 4000000 in
def qq (p:Prog) (next:Bool) {L:Nat} {E:Env} {ok:FuncId→Array Tmp→Code→Code→Nat→Prop} {v:V} {nO:Nat}
    (hY:Mr Tryz.prog L E ok x3 (hOut nO v) (fun s=>s.length=p.nodes.length) (fun y s=>dU (FG p next y.1 y.2.1 y.2.2 s)) (dP p)) (n size:Int) (s:List Int) (h0:0≤size) (h1:size≤20) (hl:s.length=p.nodes.length) (rest:List At) (σ:AH)
    (hs : Sat σ (.obj L (.loop .ready E ok)::(hOut nO v s++rest))) :
     BC Tryz.prog 327 [.f (.yield L) [] [],.rp (BR p),.rp [eI n],.rp [eI size,eI 1]] σ
      (jk L E ok (hOut nO v) (fun s=>s.length=p.nodes.length) rest (.t []) (.t []) (dU (CR p next 12 n size s))):=by
 refine ry kZ ?_
 conv=>whnf
 repeat'((first|apply st|(apply sq;intro K U)|(apply si;intro A B Y Z)|(apply Y;clear Z B Y A)|(apply U;clear U K)|refine⟨kZ,?_⟩|refine ld ?_|refine GV fun σ hs=>?_|(intro nn hnn;generalize hg:A0 _ nn _=σ;refine CZ hg fun hs=>?_;clear hg)|fail)<;>conv=>whnf)
 have hp:Sat σ (.obj L (.loop .ready E ok)::(hOut nO v s++(.box nn [Wz p L nn]::rest))):=hs.perm (by
  refine(List.Perm.swap _ _ _).trans (.cons _ ?_)
  exact(List.perm_middle (l₁:=hOut nO v s)).symm)
 refine B2 ((kG p next hY 12 (Iu _) n size 1 s rfl h0 (by omega) hl nn rest σ hp).mono ?_);cases hw:CR p next 12 n size s with
 | none=>
   rintro r σ' ⟨rfl,s',hj,hs'⟩
   conv=>whnf
   repeat'((first|(refine Z _ _ _ ?_;clear Z B Y A)|fail)<;>conv=>whnf)
   refine DN ?_;rw[hw];exact⟨rfl,s',hj,hs'.less (List.Sublist.append_left (Jz _ _) _)⟩
 | some s2=>
   rintro r σ' ⟨rfl,hs'⟩
   conv=>whnf
   repeat'((first|(apply Y;clear Z B Y A)|fail)<;>conv=>whnf)
   refine AX ?_;rw[hw];exact⟨rfl,hs'.less (.cons₂ _ (List.Sublist.append_left (Jz _ _) _))⟩
def WI (p:Prog) (x:Node):(x.op=5∧Q9 x.op= .E2 360 (.a []))∨(x.op≠5∧ ∃m:Int,Q9 x.op= .E2 359 (eI m)∧I7 p x=m)∨(Q9 x.op= .Dm∧I7 p x= -1):=by
 unfold Q9 I7;by_cases h5:x.op=5
 ·exact .inl ⟨h5,by rw[if_pos h5]⟩
 ·rw[if_neg h5]
  split
  ·exact .inr (.inl ⟨h5,_,rfl,rfl⟩)
  split
  ·exact .inr (.inl ⟨h5,_,rfl,rfl⟩)
  split
  ·exact .inr (.inl ⟨h5,_,rfl,rfl⟩)
  split
  ·exact .inr (.inl ⟨h5,_,rfl,rfl⟩)
  ·exact .inr (.inr ⟨rfl,by rw[if_neg (by rintro⟨h,_⟩;exact h5 h)]⟩)
def Td {p:Prog} {x:Node} (h:x.op=5) {size:Int} (hn:MV p x size=true):0≤x.n∧x.n<p.Dj.length∧I7 p x=p.Dj.getD x.n.toNat 0:=by
 have h2:0≤x.n∧x.n<p.Dj.length:=by
  simp only[MV,h]at hn;simpa using hn
 refine⟨h2.1,h2.2,?_⟩;unfold I7;rw[h,if_neg (by decide),if_neg (by decide),if_neg (by decide),if_neg (by decide),if_pos ⟨rfl,h2.1,h2.2⟩]
def gM {p:Prog} {next:Bool} {n size depth:Int} {s:List Int} (h:n<0∨(p.nodes.length:Int)≤n∨0≤s.getD n.toNat 0∨12<depth):FG p next n size depth s=none:=by
 unfold FG;rw[if_pos h]
def gN {p:Prog} {next:Bool} {n size depth:Int} {s:List Int} {y:Int} {x:Node} (h0:0≤n) (h1:n<(p.nodes.length:Int)) (hy:s[n.toNat]? =some y) (hy0:y<0) (hd:depth≤12) (hx:p.nodes[n.toNat]? =some x):FG p next n size depth s=if EB p next size x then some (s.set n.toNat size)else none:=by
 have e:s.getD n.toNat 0=y:=by rw[DZ,hy];rfl
 unfold FG;rw[if_neg (by rw[e];omega),hx]
def xJ (p:Prog) (nO:Nat) (v:V) (rest:List At) (o:Option (List Int)) (r:R) (σ:AH):Prop:=
 match o with
 | some s=>r= .ret (.t [])∧Sat σ (hOut nO v s++rest)
 | none=>r= .Bi Dw∧ ∃s:List Int,s.length=p.nodes.length∧Sat σ (hOut nO v s++rest)
set_option maxHeartbeats 4000000 in
def To (p:Prog) (next:Bool) {v:V} {nO:Nat} (hv:(B5 v).isSome=true) (n size:Int) (s:List Int) (h0:0≤size) (h1:size≤20) (hl:s.length=p.nodes.length) (rest:List At) (σ:AH) (hs:Sat σ (hOut nO v s++rest)) :
    BC Tryz.prog 284 [eI n,eI size,.b next,.rp (BR p),.p nO 0] σ (xJ p nO v rest (CR p next 12 n size s)):=by
 refine BC.fit (by kernel_rfl) fun hf=>?_
 have hM:=Mx
 have hfp:E4 (.a (BR p)):=by
  have:=hf.2.2.2.1;simp only[Tj]at this;simpa only[G3]using this
 have⟨p1,p2,p3,p4⟩:=Er hfp;refine se kZ ?_
 conv=>whnf
 repeat'((first|apply st|(apply sq;intro K U)|(apply si;intro A B Y Z)|(apply Y;clear Z B Y A)|(apply U;clear U K)|refine⟨kZ,?_⟩|refine Pure.use (jC _ _ _ _) ?_|(intro nn hnn;generalize hg:A0 _ nn _=σ;refine CZ hg fun hs=>?_;clear hg)|fail)<;>conv=>whnf)
 refine BC.mono (qq p next (L:=nn) (v:=v) (nO:=nO) ?_ n size s h0 h1 hl rest σ hs) ?_
 ·refine Nn (fun y=>rfl) ?_
  clear hs hnn hl h0 h1;rintro⟨k,sz,dp⟩ s ⟨d0,d1,d2,d3,hl⟩ rest σ hs;dsimp only at d0 d1 d2 d3 hl;dsimp only;rw[show x3 (k,sz,dp)= [eI k,.a [eI sz,eI dp]] from rfl]
  conv=>whnf
  repeat'((first|apply st|(apply sq;intro K U)|(apply si;intro A B Y Z)|(apply Y;clear Z B Y A)|(refine Z _ _ _ ?_;clear Z B Y A)|(refine Z _ _ fun σ hsub=>?_;clear Z B Y A)|(apply U;clear U K)|apply dr|refine rk ?_ ?_|exact fun s e=>by cases e;rfl|refine⟨rfl,?_⟩|refine⟨kZ,?_⟩|refine iq fun x hx=>?_|refine ld ?_|refine Cw fun σ hs=>?_|refine oi ?_|refine ol fun x hx=>?_|refine oset fun σ hs=>?_|refine HK ?_|refine FP ?_|(refine Ct (fun hc=>?_) (fun hc=>?_)<;>(replace hc:=bp hc)<;>(try simp(disch:=omega) only[A9,wrap64,AK]at hc)<;>(try(cases hc;done)))|refine Pure.use (bH _ _ _) ?_|refine Pure.use (bV _) ?_|(rcases WI p (by assumption)with⟨e5,ek⟩|⟨e5,m,ek,hm⟩|⟨ek,hm⟩<;>rw[ek]<;>clear ek)|refine oe rfl ?_|refine yB (by decide) ?_|refine gE rfl (Pure.use (wD _ _ _) ?_)|refine gE rfl (Pure.use (mo _ _ (Td (by assumption) (by assumption)).1 (Td (by assumption) (by assumption)).2.1) ?_)|(constructor<;>intro hc<;>(try rw[hc])<;>(replace hc:=bp hc)<;>(try simp(disch:=omega) only[A9,wrap64,AK]at hc))|(intro nn hnn;generalize hg:A0 _ nn _=σ;refine CZ hg fun hs=>?_;clear hg)|clear U K)<;>conv=>whnf)
  all_goals first
   | (intro hn;refine Ri (s:=s) (by rw[gM (by first|omega|(rw[DZ,‹s[k.toNat]? =some _›];simp only[Option.getD_some];omega))];rfl) hl (hs.less (by repeat first|exact List.Sublist.refl _|apply List.Sublist.cons)) hn)
   | skip
  all_goals
   have hva:=gN (next:=next) (size:=sz) (depth:=dp) (show 0≤k by omega) (show k<(p.nodes.length:Int) by omega) ‹s[k.toNat]? =some _› (by assumption) (by omega) ‹p.nodes[k.toNat]? =some _›
   rename Node=>x
   have hk5:x.op=5→MV p x sz=true→I7 p x=p.Dj.getD x.n.toNat 0:=fun h hn=>(Td h hn).2.2
   intro hn
  all_goals first
   | (rw[if_neg (by first|(intro h;rw[EB,hk5 (by assumption) (by assumption)]at h;simp only[BJ,D9]at h;exact absurd h.1 (by assumption))|(simp[EB, *];done)|(simp[EB, *];omega)|(rw[EB,hk5 (by assumption) (by assumption)];simp[*];done)|(simp[EB, *];intros;omega))]at hva
      refine Ri (s:=s.set k.toNat sz) (by rw[hva];rfl) (by simpa using hl) ?_ hn
      first
       | exact hs.less (by repeat first|exact List.Sublist.refl _|apply List.Sublist.cons)
       | exact(hs.less (by repeat first|exact List.Sublist.refl _|apply List.Sublist.cons)).up (by assumption))
   | (rw[if_pos (by first|(simp[EB, *];done)|(rw[EB,hk5 (by assumption) (by assumption)];simp[*];done))]at hva
      exact VE (s:=s.set k.toNat sz) (by rw[hva];rfl) (hs.less (by repeat first|exact List.Sublist.refl _|apply List.Sublist.cons)) hn)
 ·cases hw:CR p next 12 n size s with
  | none=>
    rintro r σ' ⟨rfl,s',hj,hs'⟩
    conv=>whnf
    exact DN ⟨rfl,s',hj,hs'⟩
  | some s2=>
    rintro r σ' ⟨rfl,hs'⟩;refine PK hs' fun σ2 hs2=>?_
    conv=>whnf
    exact AX ⟨rfl,hs2⟩
def D7 (w:AL):Prop:=Ib w.parents∧w.owner.length≤40∧ ∀o∈w.owner,(3:Int)≤o∧o<3+(w.parents.length:Int)
def Wl (us:List Nat) (l:List Int) (s:Nat):Nat:=l.foldl (fun s c=>s|||us.getD c.toNat 0) s
def Cl (g:List (List Int)):Nat→List Nat
 | 0=>[1,3,5]
 | k+1=>Cl g k++[Wl (Cl g k) (g.getD k []) (1|||2 ^ (3+k))]
def En (g:List (List Int)):List Nat:=Cl g g.length
def js (us:List Nat):List V:=us.map eU++List.replicate (63 - us.length) (eU 0)
def wC (w:AL) (us:List Nat):List V:=A7 w++js us
def Fx (g:List (List Int)): ∀k,(Cl g k).length=3+k
 | 0=>rfl
 | k+1=>by simp[Cl,Fx g k];omega
def eK (w:AL) {us:List Nat} (h:us.length≤63):(wC w us).length=65:=by
 simp only[wC,A7,js,Qv,K2,List.length_nil,A9,List.length_replicate];omega
def eJ (w:AL) (us:List Nat) (s:Nat) (h:us.length<63):(wC w us).set (2+us.length) (eU s)=wC w (us++[s]):=by
 simp only[wC,js];rw[List.set_append_right _ _ (by simp[A7])];congr 1;have e:2+us.length - (A7 w).length=us.length:=by simp[A7]
 rw[e,List.set_append_right _ _ (by simp)];rw[A9,Nat.sub_self,Sd,Wd];congr 1;rw[show 63 - us.length=(63 - (us++[s]).length)+1 by simp;omega,List.replicate_succ];rfl
def nJ (w:AL) (us:List Nat) {i:Nat} (h:i<us.length):(wC w us)[2+i]? =some (eU (us.getD i 0)):=by
 simp only[wC,js];rw[List.getElem?_append_right (by simp[A7]),show 2+i - (A7 w).length=i by simp[A7],jS (by simpa using h),MP,C7 h,DZ,C7 h];rfl
def vK (us:List Nat):Prop:= ∀u∈us,u<18446744073709551616
def S2 {us:List Nat} (h:vK us) (i:Nat):us.getD i 0<18446744073709551616:=by
 rw[DZ];cases hx:us[i]? with
 | none=>simp
 | some x=>exact h x (B9 hx)
def TP {us:List Nat} (h:vK us): ∀(l:List Int) (s:Nat),s<18446744073709551616→Wl us l s<18446744073709551616
 | [],_,hs=>hs
 | c::r,s,hs=>TP h r _ (LG hs (S2 h _))
def Lh (g:List (List Int)): ∀k,k≤60→vK (Cl g k)
 | 0,_=>by intro u hu;simp[Cl]at hu;omega
 | k+1,hk=>by
   intro u hu;simp only[Cl,E7,Kz]at hu;rcases hu with hu|rfl
   ·exact Lh g k (by omega) u hu
   ·exact TP (Lh g k (by omega)) _ _ (LG (by decide) (KQ (by omega)))
def pz (w:AL) (us:List Nat) (c:Int) {n:Nat} (hM:w.parents.length≤60):Bj Tryz.prog 247 [.p n 0,eI c] [.box n (wC w us)] fun r post=>r= .ret (.b (decide (3≤c)&&decide (c<3+(w.parents.length:Int))))∧post= [.box n (wC w us)]:=by
 intro σ hs;have hw:IntKind.i64.wrap (3+((Eh w.parents).length:Nat))=3+(w.parents.length:Int):=by rw[A9,wrap64 (by omega) (by omega)]
 refine tG kZ ?_
 conv=>whnf
 repeat'((first|apply st|(apply sq;intro K U)|(apply si;intro A B Y Z)|(apply Y;clear Z B Y A)|(apply U;clear U K)|refine⟨rfl,?_⟩|refine ld ?_|(constructor<;>intro hc<;>(try rw[hc])<;>(replace hc:=bp hc))|fail)<;>conv=>whnf)
 ·refine AX ⟨_,⟨?_,rfl⟩,hs⟩
  rw[hw,decide_eq_true (show 3≤c by omega)];rfl
 ·refine AX ⟨_,⟨?_,rfl⟩,hs⟩
  rw[decide_eq_false (show¬3≤c by omega)];rfl
def iu (w:AL) (us:List Nat) (c:Int) (hM:w.parents.length≤60):Pure Tryz.prog 305 [.rp (wC w us),eI c] (.b (Qh w c)):=by
 have hw:IntKind.i64.wrap (3+((Eh w.parents).length:Nat))=3+(w.parents.length:Int):=by rw[A9,wrap64 (by omega) (by omega)]
 refine sN kZ ?_;have hs:=Sn
 conv=>whnf
 repeat'((first|apply st|(apply sq;intro K U)|(apply si;intro A B Y Z)|(apply Y;clear Z B Y A)|(apply U;clear U K)|refine⟨rfl,?_⟩|(constructor<;>intro hc<;>(try rw[hc])<;>(replace hc:=bp hc))|fail)<;>conv=>whnf)
 ·refine AI ?_
  rw[hw,Qh,decide_eq_true (show 0≤c by omega)];rfl
 ·refine AI ?_
  rw[Qh,decide_eq_false (show¬0≤c by omega)];rfl
def kO (w:AL) (us:List Nat) (c:Int) (hM:w.owner.length≤60):Pure Tryz.prog 336 [.rp (wC w us),eI c] (.b (IX w c)):=by
 refine rh kZ ?_;have hs:=Sn
 conv=>whnf
 repeat'((first|apply st|(apply sq;intro K U)|(apply si;intro A B Y Z)|(apply Y;clear Z B Y A)|(apply U;clear U K)|refine⟨rfl,?_⟩|(constructor<;>intro hc<;>(try rw[hc])<;>(replace hc:=bp hc))|fail)<;>conv=>whnf)
 ·refine AI ?_
  rw[IX,decide_eq_true (show 0≤c by omega),A9];rfl
 ·refine AI ?_
  rw[IX,decide_eq_false (show¬0≤c by omega)];rfl
def kx (w:AL) (us:List Nat) (l:List Int) (f:Bool) (hM:w.owner.length≤60):Pure Tryz.prog 304 [.rp (wC w us),.l (iL l) f] (.b (E8 w l)):=by
 have hall:=mw (g:=336) (fi:=[.rp (wC w us)]) (ca:=[]) (f:=IX w) (xs:=l) f (fun y _=>kO w us y hM);refine sO kZ ?_;have hs:=Sn
 conv=>whnf
 repeat'((first|apply st|(apply sq;intro K U)|(apply si;intro A B Y Z)|(apply Y;clear Z B Y A)|(apply U;clear U K)|refine⟨rfl,?_⟩|(constructor<;>intro hc<;>(try rw[hc])<;>(replace hc:=bp hc)<;>(try simp(disch:=omega) only[A9,wrap64,AK]at hc))|refine Pure.use (by assumption) ?_|fail)<;>conv=>whnf)
 ·refine AI ?_
  rw[E8,decide_eq_true (show l.length≤2 by omega),Bool.and_true];rfl
 ·refine AI ?_
  rw[E8,decide_eq_false (show¬l.length≤2 by omega),Bool.and_false];rfl
def HX (s:Nat) (c:Int) (hs0:s<18446744073709551616) (h0:0≤c) (hc:c<64):Pure Tryz.prog 245 [eU s,eI c] (eU (s|||2 ^ c.toNat)):=by
 have:=Yi s c.toNat hs0 (by omega);rw[Int.toNat_of_nonneg h0]at this;exact this
def up3 {k:Nat} (h:k<3):([1,3,5]:List Nat).take k++[1|||2 ^ k]= [1,3,5].take (k+1):=by
 rcases k with _|_|_|k
 ·rfl
 ·rfl
 ·rfl
 ·omega
set_option maxHeartbeats 4000000 in
def lA (w : AL) (hw:D7 w):Pure Tryz.prog 174 [.a (A7 w)] (.t [.rp (wC w (En w.parents)),.b true]):=by
 obtain⟨⟨hl,hrow⟩,ho,how⟩:=hw;have hM:=Mx;refine Pure.of ?_;refine tv kZ ?_;have hs:=Sn;have hi1:((Eh w.parents).length:Int)≤60:=by rw[A9];omega
 have hi2:((iL w.owner).length:Int)≤40:=by rw[A9];omega
 conv=>whnf
 repeat'((first|apply st|(apply sq;intro K U)|(apply si;intro A B Y Z)|(apply Y;clear Z B Y A)|(apply U;clear U K)|refine⟨rfl,?_⟩|refine⟨kZ,?_⟩|(constructor<;>intro hc<;>(try rw[hc])<;>(replace hc:=bp hc)<;>(try simp(disch:=omega) only[A9,wrap64,AK]at hc)<;>try(exfalso;omega))|(intro nn hnn;generalize hg:A0 _ nn _=σ;refine CZ hg fun hs=>?_;clear hg)|fail)<;>conv=>whnf)
 generalize nn=n0 at *;refine CA 3 (fun k (_:Unit)=>[(24,eI (BG k))]) (fun k _=>[.box n0 (wC w ([1,3,5].take k))]) (fun k _=>True) () rfl trivial hs ?_;clear hs;rintro k - σ hk - hs;have hck:BG k=k:=AK (by omega);have hlen:(([1,3,5]:List Nat).take k).length=k:=by simp;omega
 by_cases hlt:k<3
 ·have hst:=eJ w ([1,3,5].take k) (1|||2 ^ k) (by omega)
  rw[hlen,up3 hlt]at hst
  conv=>whnf
  repeat'((first|apply st|(apply sq;intro K U)|(apply si;intro A B Y Z)|(apply Y;clear Z B Y A)|(apply U;clear U K)|apply dr|refine⟨rfl,?_⟩|refine Wf ?_|refine Pure.use (HX 1 _ (by decide) (by omega) (by omega)) ?_|(constructor<;>intro hc<;>(try rw[hc])<;>(replace hc:=bp hc)<;>(try simp(disch:=omega) only[A9,wrap64,AK]at hc)<;>try(exfalso;omega))|fail)<;>conv=>whnf)
  refine LV hs 0 rfl rfl (by rw[eK w (by omega)];omega) fun σ hs=>?_
  conv=>whnf
  repeat'((first|(apply si;intro A B Y Z)|(apply Y;clear Z B Y A)|(apply U;clear U K)|apply dr|refine⟨rfl,?_⟩|clear U K)<;>conv=>whnf)
  refine⟨hlt,(),rfl,trivial,?_⟩;rw[hck,Iv,Nat.mul_one,HD]at hs;simp only[List.set_cons_zero]at hs;rw[hst]at hs;exact hs
 ·have hke:k=3:=by omega
  subst hke;clear hk hck hlen hlt
  conv=>whnf
  repeat'((first|apply st|(apply sq;intro K U)|(apply si;intro A B Y Z)|(apply Y;clear Z B Y A)|(apply U;clear U K)|refine⟨rfl,?_⟩|(constructor<;>intro hc<;>(try rw[hc])<;>(replace hc:=bp hc)<;>(try simp(disch:=omega) only[A9,wrap64,AK]at hc)<;>try(exfalso;omega))|clear U K)<;>conv=>whnf)
  refine CA w.parents.length (fun k (_:Unit)=>[(38,eI (BG k))]) (fun k _=>[.box n0 (wC w (Cl w.parents k))]) (fun k _=>True) () rfl trivial hs ?_;clear hs;rintro k - σ hk - hs;have hck:BG k=k:=AK (by omega);have hul:=Fx w.parents k;have huo:=Lh w.parents k (by omega);have hw3:IntKind.i64.wrap (3+(k:Int))=3+(k:Int):=wrap64 (by omega) (by omega);rcases BI w.parents hk with⟨row,hr,hlt⟩|hke
  ·obtain⟨r1,r2,r3⟩:=hrow k row hr
   rw[←hck]at hw3
   conv=>whnf
   repeat'((first|apply st|(apply sq;intro K U)|(apply si;intro A B Y Z)|(apply Y;clear Z B Y A)|(apply U;clear U K)|refine⟨rfl,?_⟩|refine ix ?_|(refine CU (fun hc=>?_)<;>(try rw[hc])<;>clear hc)|refine Pure.use (HX 1 _ (by decide) (by omega) (by omega)) ?_|fail)<;>conv=>whnf)
   have hbig:vK (Cl w.parents k):=huo;have hst0:IntKind.i64.wrap (3+BG k)=3+(k:Int):=by rw[hck];exact wrap64 (by omega) (by omega)
   have hs0lt:1|||2 ^ (3+k)<18446744073709551616:=LG (by decide) (KQ (by omega))
   have hs0e:1|||2 ^ (IntKind.i64.wrap (3+BG k)).toNat=1|||2 ^ (3+k):=by rw[hst0,show(3+(k:Int)).toNat=3+k by omega]
   rw[hs0e];refine CA row.length (fun j (s:Nat)=>[(48,eI (BG j)),(8,eU s)]) (fun _ _=>[.box n0 (wC w (Cl w.parents k))]) (fun j s=>s=Wl (Cl w.parents k) (row.take j) (1|||2 ^ (3+k))) (1|||2 ^ (3+k)) rfl rfl hs ?_;clear hs;rintro j s σ hj hse hs;rcases BI row hj with⟨c,hcj,hjlt⟩|hje
   ·obtain⟨q1,q2⟩:=r3 c (B9 hcj)
    have hload:(wC w (Cl w.parents k))[0+2+c.toNat*1]? =some (eU ((Cl w.parents k).getD c.toNat 0)):=by
     have:=nJ w (Cl w.parents k) (i:=c.toNat) (by omega);rw[←this];congr 1;omega
    have hnc:(row.take j).contains c=false:=by
     rw[←Bool.not_eq_true,List.contains_iff_mem];intro hm;obtain⟨i,hi,he⟩:=List.mem_iff_getElem.1 hm;have hi':i<j:=by rw[K1]at hi;omega
     rw[List.getElem_take]at he;have hcj':=(IS.1 hcj).2;exact absurd ((List.getElem_inj r2).1 (he.trans hcj'.symm)) (by omega)
    have hct: ∀b,Pure Tryz.prog 34 [.l (iL (row.take j)) b,eI c] (.b false):=fun b=>by
     have:=C1 (row.take j) b c
     rwa [hnc]at this
    conv=>whnf
    repeat'((first|apply st|(apply sq;intro K U)|(apply si;intro A B Y Z)|(apply Y;clear Z B Y A)|(apply U;clear U K)|refine⟨rfl,?_⟩|refine ix ?_|refine xp ?_|refine Wf ?_|refine ld ?_|refine FP ?_|(refine CU (fun hc=>?_)<;>(try rw[hc])<;>clear hc)|refine Pure.use (hct _) ?_|(rw[hload])|(constructor<;>intro hc<;>(try rw[hc])<;>(replace hc:=bp hc)<;>(try simp(disch:=omega) only[A9,wrap64,AK]at hc)<;>try(exfalso;omega))|clear U K)<;>conv=>whnf)
    refine⟨hjlt,s|||(Cl w.parents k).getD c.toNat 0,?_,?_,hs⟩
    ·have hsl:s<18446744073709551616:=by rw[hse];exact TP huo _ _ hs0lt
     rw[Le hsl (S2 huo _)];rfl
    ·rw[hse,AO hcj]
     simp only[Wl,List.foldl_append];rfl
   ·conv=>whnf
    repeat'((first|apply st|(apply sq;intro K U)|(apply si;intro A B Y Z)|(apply Y;clear Z B Y A)|(apply U;clear U K)|refine⟨rfl,?_⟩|refine Wf ?_|(refine Dl (fun hc=>?_)<;>(try rw[hc])<;>clear hc)|clear U K)<;>conv=>whnf)
    refine LV hs 0 rfl rfl (by rw[eK w (by omega),hst0];omega) fun σ hs=>?_
    conv=>whnf
    repeat'((first|(apply si;intro A B Y Z)|(apply Y;clear Z B Y A)|(apply U;clear U K)|refine⟨rfl,?_⟩|clear U K)<;>conv=>whnf)
    refine⟨hlt,(),rfl,trivial,?_⟩
    have e:Cl w.parents (k+1)=Cl w.parents k++[s]:=by
     rw[hse,Cl,DZ,hr,hje,List.take_length];rfl
    have hst:=eJ w (Cl w.parents k) s (by omega);rw[e,←hst];have e2:0+2+(IntKind.i64.wrap (3+BG k)).toNat*1=2+(Cl w.parents k).length:=by rw[hst0,hul];omega
    rw[e2]at hs;exact hs
  ·have hown:=fl 247 [.p n0 0] [] (fun _=>[.box n0 (wC w (Cl w.parents k))]) (Ue fun c=>decide (3≤c)&&decide (c<3+(w.parents.length:Int))) (fun _ _=>True) (fun y s _ σ hs=>B2 (BC.mono (pz w (Cl w.parents k) y (by omega) σ hs) (by
    rintro r σ' ⟨post,⟨h1,h2⟩,h3⟩;subst h2
    exact⟨h1,h3⟩))) w.owner false () (G0 fun _ _ _=>trivial)
   rw[Js]at hown
   have hall:(w.owner.all fun c=>decide (3≤c)&&decide (c<3+(w.parents.length:Int)))=true:=by
    rw[Em];intro o hoo;have:=how o hoo;simp only[BJ,Cn];exact this
   rw[hall]at hown
   conv=>whnf
   repeat'((first|apply st|(apply sq;intro K U)|(apply si;intro A B Y Z)|(apply Y;clear Z B Y A)|(apply U;clear U K)|refine⟨rfl,?_⟩|(refine Dl (fun hc=>?_)<;>(try rw[hc])<;>clear hc)|clear U K)<;>conv=>whnf)
   refine hown.use (rest:=[]) hs ?_;rintro r post σ ⟨rfl,rfl⟩ hs
   conv=>whnf
   repeat'((first|apply st|(apply Y;clear Z B Y A)|(apply U;clear U K)|fail)<;>conv=>whnf)
   rw[hke]at hs;exact Gp (σ2:=emp) (fun n o ho=>by cases ho) (.t (.cons (hs.yK 0 rfl (.refl _ _ _)) (.cons (.refl _) .nil))) rfl
def Mh (w:AL) (f:Fact):Bool:=decide (0≤f.arg)&&(decide (f.arg<3)&&(E8 w f.path&&(if f.op=2 then f.n==0&&Qh w f.cls else f.cls==0&&(decide (-1000000000≤f.n)&&decide (f.n≤1000000000)))))
def Ec (w:AL) (f:Fact):Int→Int→Bool×Int:=f.Ht fun f l left deep=>
 if IntKind.i64.wrap (left - 1)<0∨deep=0∨f.op<1∨7<f.op∨f.kids.length≠CK f.op then(false,IntKind.i64.wrap (left - 1))else
 if CH f then(Mh w f,IntKind.i64.wrap (left - 1))else
 if f.arg≠0∨0<f.path.length∨f.cls≠0∨f.n≠0 then(false,IntKind.i64.wrap (left - 1))else
 Co (fun(k:Int→Int→Bool×Int) s=>k s (deep - 1)) l (IntKind.i64.wrap (left - 1))
def L4 {α β S:Type} (g:α→β) (stp:β→S→Bool×S): ∀(l:List α) (s:S),Co stp (l.map g) s=Co (fun a s=>stp (g a) s) l s
 | [],_=>rfl
 | a::r,s=>by simp only[E3,Co,L4 g stp r]
def Hb (w:AL) (f:Fact) (left deep:Int):Ec w f left deep =
    if IntKind.i64.wrap (left - 1)<0∨deep=0∨f.op<1∨7<f.op∨f.kids.length≠CK f.op then(false,IntKind.i64.wrap (left - 1))else
    if CH f then(Mh w f,IntKind.i64.wrap (left - 1))else
    if f.arg≠0∨0<f.path.length∨f.cls≠0∨f.n≠0 then(false,IntKind.i64.wrap (left - 1))else
    Co (fun k s=>Ec w k s (deep - 1)) f.kids (IntKind.i64.wrap (left - 1)):=by
 rw[Ec,Fact.D4,L4];rfl
def YU {w:AL} {f:Fact} {left deep L1:Int} {b:Bool} {nL:Nat} {σ:AH} (hs:Sat σ [.box nL [eI L1]]) (h:Ec w f left deep=(b,L1)):Aw σ (.b b) fun r σ'=> ∃post:List At,(r=R.ret (.b (Ec w f left deep).1)∧post= [.box nL [eI (Ec w f left deep).2]])∧Sat σ' post:=by
 rw[h];exact AX ⟨_,⟨rfl,rfl⟩,hs⟩
set_option maxHeartbeats 4000000 in
def lG (w:AL) (us:List Nat) (hw1:w.parents.length≤60) (hw2:w.owner.length≤60) (nL:Nat) (f:Fact): ∀(left deep:Int),0≤deep→deep≤12→
    Bj Tryz.prog 250 [.rp (wC w us),.a (xF f),.p nL 0,eI deep] [.box nL [eI left]] fun r post=>r= .ret (.b (Ec w f left deep).1)∧post= [.box nL [eI (Ec w f left deep).2]]:=by
 induction f using Fact.ind with
 | h f ih=>
   intro left deep hd0 hd1 σ hs;refine BC.fit (by kernel_rfl) fun hf=>?_
   have⟨h2,h3,h4⟩:=J6 hf.2.1;have hM:=Mx;have hdw:IntKind.i64.wrap (deep - 1)=deep - 1:=wrap64 (by omega) (by omega);refine tD kZ ?_
   have hstep:DB Tryz.prog (.f (.func 306) [] [.rp [.rp (wC w us)],.rp [.p nL 0],.rp [eI deep]]) (fun y=> .a (xF y)) (fun s=>[.box nL [eI s]]) (fun k s=>Ec w k s (deep - 1)) (fun y _=>y∈f.kids∧deep≠0):=by
    rintro y s ⟨hy,hdn⟩ σ hs;refine B2 ?_;show BC Tryz.prog 306 ([]++[.a (xF y)]++[.rp [.rp (wC w us)],.rp [.p nL 0],.rp [eI deep]]) σ _;refine sM kZ ?_
    conv=>whnf
    repeat'((first|apply st|(apply sq;intro K U)|(apply si;intro A B Y Z)|(apply Y;clear Z B Y A)|(apply U;clear U K)|refine⟨rfl,?_⟩|refine⟨kZ,?_⟩|fail)<;>conv=>whnf)
    rw[hdw];refine(ih y hy s (deep - 1) (by omega) (by omega)).use (rest:=[]) hs ?_;rintro r post σ ⟨rfl,rfl⟩ hs
    conv=>whnf
    repeat'((first|apply st|(apply Y;clear Z B Y A)|(apply U;clear U K)|fail)<;>conv=>whnf)
    exact AX ⟨rfl,hs⟩
   conv=>whnf
   repeat'((first|apply st|(apply sq;intro K U)|(apply si;intro A B Y Z)|(apply Y;clear Z B Y A)|(apply U;clear U K)|apply dr|refine rk ?_ ?_|exact fun s e=>by cases e;rfl|refine⟨rfl,?_⟩|refine⟨kZ,?_⟩|refine ld ?_|refine GV fun σ hs=>?_|refine Pure.use (TZ _) ?_|refine Pure.use (lW _) ?_|refine Pure.use (iu w us _ hw1) ?_|refine Pure.use (kx w us _ _ hw2) ?_|(constructor<;>intro hc<;>(try rw[hc])<;>(replace hc:=bp hc)<;>(try simp(disch:=omega) only[A9,wrap64,AK]at hc))|clear U K)<;>conv=>whnf)
   all_goals first
    | (refine YU hs ?_;rw[Hb,if_pos (by omega)];done)
    | (refine YU hs ?_;rw[Hb,if_neg (by omega),if_pos (by assumption)];simp[Mh, *];done)
    | (refine YU hs ?_;rw[Hb,if_neg (by omega),if_pos (by assumption)];simp[Mh, *];intros;omega)
    | (refine YU hs ?_;rw[Hb,if_neg (by omega),if_neg (by simp[*]),if_pos (by omega)];done)
    | skip
   refine(fk 306 [] _ _ _ _ hstep f.kids false (IntKind.i64.wrap (left - 1)) h2 (G0 fun y hy _=>⟨hy,by omega⟩)).use (rest:=[]) hs ?_;have hE:=Hb w f left deep;rw[if_neg (by omega),if_neg (by simp[*]),if_neg (by omega)]at hE;rw[←hE];rintro r post σ ⟨rfl,rfl⟩ hs
   conv=>whnf
   repeat'((first|apply st|(apply Y;clear Z B Y A)|(apply U;clear U K)|fail)<;>conv=>whnf)
   exact AX ⟨_,⟨rfl,rfl⟩,hs⟩
def LJ (w:AL) (f:Fact):Bool:=(Ec w f 24 12).1
def bw (w:AL) (us:List Nat) (hw1:w.parents.length≤60) (hw2:w.owner.length≤60) (f:Fact):Pure Tryz.prog 249 [.a (xF f),.rp [.rp (wC w us)]] (.b (LJ w f)):=by
 refine Pure.of ?_;refine tE kZ ?_;have hs:=Sn
 conv=>whnf
 repeat'((first|apply st|(apply sq;intro K U)|(apply si;intro A B Y Z)|(apply Y;clear Z B Y A)|(apply U;clear U K)|refine⟨kZ,?_⟩|refine GV fun σ hs=>?_|(intro nn hnn;generalize hg:A0 _ nn _=σ;refine CZ hg fun hs=>?_;clear hg)|fail)<;>conv=>whnf)
 refine(lG w us hw1 hw2 _ f 24 12 (by omega) (by omega)).use (rest:=[]) hs ?_;rintro r post σ ⟨rfl,rfl⟩ hs
 conv=>whnf
 repeat'((first|apply st|(apply Y;clear Z B Y A)|(apply U;clear U K)|fail)<;>conv=>whnf)
 exact AX rfl
def mu {g:FuncId} {fi ca:List V} {f:Fact→Bool} {xs:List Fact} (b:Bool) (hl:xs.length≤Ad) (h: ∀y∈xs,Pure Tryz.prog g (fi++[.a (xF y)]++ca) (.b (f y))):Pure Tryz.prog 248 [.l (facts xs) b,.f (.func g) fi ca] (.b (xs.all f)):=by
 have:=fk g fi ca (fun _=>[]) (fun y (_:Unit)=>(f y,())) (fun y _=>y∈xs) (fun y s hy σ hs=>B2 (BC.mono ((h y hy).use (k:=fun v σ'=>v= .b (f y)∧Sat σ' []) (kp:=fun _ _=>False) ⟨rfl,Sat.nil⟩) (by
  rintro(v|v) σ' hq
  ·obtain⟨rfl,h⟩:=hq
   exact⟨rfl,h⟩
  ·exact hq.elim))) xs b () hl (G0 fun y hy _=>hy)
 rw[Js]at this;exact Pure.of (BC.mono (this emp Sat.nil) fun r σ' ⟨post,⟨h1,h2⟩,h3⟩=>h1)
def b6 (w:AL) (us:List Nat) (hw1:w.parents.length≤60) (hw2:w.owner.length≤60) (l:List Fact) (b:Bool) (hl:l.length≤60):Pure Tryz.prog 175 [.rp (wC w us),.l (facts l) b] (.b (l.all (LJ w))):=by
 have hall:=mu (g:=249) (fi:=[]) (ca:=[.rp [.rp (wC w us)]]) (f:=LJ w) (xs:=l) b (by simp only[Ad];omega) fun y _=>bw w us hw1 hw2 y
 refine tu kZ ?_;have hs:=Sn
 conv=>whnf
 repeat'((first|apply st|(apply sq;intro K U)|(apply si;intro A B Y Z)|(apply Y;clear Z B Y A)|(apply U;clear U K)|refine Pure.use (by assumption) ?_|fail)<;>conv=>whnf)
 exact AI rfl
def Yx (w:AL) (hw:D7 w) (l:List Fact) (b:Bool) (hl:l.length≤60):Pure Tryz.prog 118 [.a (A7 w),.l (facts l) b] (.t [.rp (wC w (En w.parents)),.b (l.all (LJ w))]):=by
 have hfo:=b6 w (En w.parents) (by have:=hw.1.1;omega) (by have:=hw.2.1;omega) l b hl;refine uT kZ ?_;have hs:=Sn
 conv=>whnf
 repeat'((first|apply st|(apply sq;intro K U)|(apply si;intro A B Y Z)|(apply Y;clear Z B Y A)|(apply U;clear U K)|refine⟨kZ,?_⟩|refine Pure.use (lA w hw) ?_|refine hfo.use ?_|fail)<;>conv=>whnf)
 all_goals exact AI rfl
def cw (w:AL) (hw:D7 w) (f:Fact):Pure Tryz.prog 146 [.a (A7 w),.a (xF f)] (eI (if LJ w f then 0 else 2)):=by
 have hfo: ∀b,Pure Tryz.prog 118 [.a (A7 w),.l [Ge f] b] (.t [.rp (wC w (En w.parents)),.b (LJ w f)]):=fun b=>by
  have:=Yx w hw [f] b (by simp);simpa using this
 refine uI kZ ?_;have hs:=Sn
 conv=>whnf
 repeat'((first|apply st|(apply sq;intro K U)|(apply si;intro A B Y Z)|(apply Y;clear Z B Y A)|(apply U;clear U K)|refine⟨kZ,?_⟩|fail)<;>conv=>whnf)
 rw[BL]at hfo;refine(hfo _).use ?_
 conv=>whnf
 repeat'((first|apply st|(apply sq;intro K U)|(apply si;intro A B Y Z)|(apply Y;clear Z B Y A)|(apply U;clear U K)|refine Pure.use (Xb _) ?_|fail)<;>conv=>whnf)
 exact AI rfl
end Go.Gl
namespace Go.Gl
def L9 {most:Int}: ∀(l:List Fact) (n:Int),(∀k∈l,∀m:Int,(MQ k:Int)≤m→Cb k m=MQ k)→n+(l.map MQ).sum≤most→Da (l.map Cb) n most=n+(l.map MQ).sum
 | [],n,_,_=>by simp[Da]
 | k::r,n,h,h1=>by
   simp only[E3,List.sum_cons,Da]at *;rw[if_pos (by omega),h k (.head _) (most - n) (by omega),L9 r _ (fun k' hk'=>h k' (.tail _ hk')) (by omega)];omega
def Tv (f:Fact): ∀m:Int,(MQ f:Int)≤m→Cb f m=MQ f:=by
 induction f using Fact.ind with
 | h f ih=>
   intro m hm;rw[Jn];rw[KZ]at *;rw[L9 f.kids 1 ih (by omega)];omega
def bK (f:Fact) {m:Int} (h0:0≤m):Cb f m≤m↔(MQ f:Int)≤m:=
 ⟨fun h=>by rw[←Kp f m h0 h];exact h,fun h=>by rw[Tv f m h];exact h⟩
def mZ (f:Fact):1≤MQ f:=by rw[KZ];omega
def GR {m:Int}: ∀(l:List Int) (a:Int),l.foldl Jx a≤m↔a≤m∧ ∀x∈l,x≤m
 | [],a=>by simp
 | x ::r,a=>by
   rw[List.foldl_cons,GR r];unfold Jx;constructor
   ·rintro⟨h1,h2⟩
    refine⟨by split at h1<;>omega,fun y hy=>?_⟩;rcases F6.1 hy with rfl|hy
    ·split at h1<;>omega
    ·exact h2 y hy
   ·rintro⟨h1,h2⟩
    have hx:=h2 x (.head _);exact⟨by split<;>omega,fun y hy=>h2 y (.tail _ hy)⟩
def ij (f:Fact) {m:Int}:EE f≤m↔1≤m∧ ∀k∈f.kids,EE k≤m - 1:=by
 rw[Ho];constructor
 ·intro h
  have:=(GR (m:=m - 1) (f.kids.map EE) 0).1 (by omega);exact⟨by omega,fun k hk=>this.2 _ (List.mem_map_of_mem hk)⟩
 ·rintro⟨h1,h2⟩
  have:=(GR (m:=m - 1) (f.kids.map EE) 0).2 ⟨by omega,fun x hx=>by
   obtain⟨k,hk,rfl⟩:=MN.1 hx
   exact h2 k hk⟩
  omega
def dt (w:AL) (f:Fact) (left deep:Int):Prop:=(MQ f:Int)≤left∧EE f≤deep∧Bo w f=true
def SY (w:AL) {deep:Int}: ∀(l:List Fact) (left:Int),0≤left→left≤24→(∀k∈l,∀left:Int,0≤left→left≤24→((Ec w k left deep).1=true↔dt w k left deep)∧((Ec w k left deep).1=true→(Ec w k left deep).2=left - MQ k))→
    ((Co (fun k s=>Ec w k s deep) l left).1=true↔((l.map MQ).sum:Int)≤left∧ ∀k∈l,EE k≤deep∧Bo w k=true)∧((Co (fun k s=>Ec w k s deep) l left).1=true→(Co (fun k s=>Ec w k s deep) l left).2=left - ((l.map MQ).sum:Nat))
 | [],left,h0,h1,_=>by simp[Co];exact h0
 | k ::r,left,h0,h1,h=>by
   obtain⟨ha,hb⟩:=h k (.head _) left h0 h1;simp only[Co,E3,List.sum_cons];cases hk:(Ec w k left deep).1
   ·simp only[MO,if_false,false_iff,false_implies,and_true]
    rintro⟨h2,h3⟩;have:=ha.2 ⟨by omega,(h3 k (.head _)).1,(h3 k (.head _)).2⟩;rw[hk]at this;cases this
   ·obtain⟨g1,g2,g3⟩:=ha.1 hk
    have hc:=mZ k;rw[if_pos rfl,hb hk];obtain⟨i1,i2⟩:=SY w r (left - MQ k) (by omega) (by omega) fun k' hk'=>h k' (.tail _ hk')
    refine⟨i1.trans ⟨fun⟨e1,e2⟩=>⟨by omega,fun x hx=>?_⟩,fun⟨e1,e2⟩=>⟨by omega,fun x hx=>e2 x (.tail _ hx)⟩⟩,fun h=>by rw[i2 h];omega⟩;rcases F6.1 hx with rfl|hx
    ·exact⟨g2,g3⟩
    ·exact e2 x hx
def lF (w : AL) (f:Fact): ∀left deep:Int,0≤left→left≤24→0≤deep→((Ec w f left deep).1=true↔dt w f left deep)∧((Ec w f left deep).1=true→(Ec w f left deep).2=left - MQ f):=by
 induction f using Fact.ind with
 | h f ih=>
   intro left deep h0 h1 hd;have hw:IntKind.i64.wrap (left - 1)=left - 1:=wrap64 (by omega) (by omega);rw[Hb,hw];have hc:=KZ f;have hn:=Cz w f;have hdl:=ij f (m:=deep)
   have hko:DI w f=true→f.kids.length=CK f.op:=fun h=>by
    simp only[DI,BJ,D9]at h;exact h.2.1
   have hop:DI w f=true→1≤f.op∧f.op≤7:=fun h=>by
    simp only[DI,BJ]at h;have h1:=h.1;unfold Wj at h1;split at h1
    ·omega
    split at h1
    ·omega
    simp at h1;omega
   by_cases hbad:left - 1<0∨deep=0∨f.op<1∨7<f.op∨f.kids.length≠CK f.op
   ·rw[if_pos hbad]
    simp only[MO,false_iff,false_implies,and_true];rintro⟨g1,g2,g3⟩;rw[hn,BJ]at g3;have g4:=hko g3.1;have g5:=hop g3.1;have g6:=(hdl.1 g2).1;omega
   rw[if_neg hbad];by_cases hl:CH f=true
   ·rw [if_pos hl]
    have hl':f.op=2∨f.op=3∨f.op=4:=by
     simp only[CH,Fo,D9]at hl;omega
    have hk0:f.kids= []:=by
     have:f.kids.length=CK f.op:=by omega
     rw[CK,if_neg (by omega),if_neg (by omega)]at this;exact YL.1 this
    have hd1:EE f=1:=by rw[Ho,hk0];rfl
    have hc1:MQ f=1:=by rw[hc,hk0];rfl
    have hh:DI w f=Mh w f:=by
     unfold DI Wj Mh;rw[hl,hk0];have e:CK f.op=0:=by rw[CK,if_neg (by omega),if_neg (by omega)]
     rw[e];simp only[List.length_nil,beq_self_eq_true,Il,Bool.true_or,Bool.and_true];rcases hl' with e|e|e
     ·rw[if_pos e,if_pos e]
      cases(f.n==0&&Qh w f.cls)<;>simp
     ·rw[if_neg (show¬f.op=2 by omega),if_neg (show¬f.op=2 by omega),if_pos (show f.op=3∨f.op=4 from .inl e)]
      cases(f.cls==0&&(decide (-1000000000≤f.n)&&decide (f.n≤1000000000)))<;>simp
     ·rw[if_neg (show¬f.op=2 by omega),if_neg (show¬f.op=2 by omega),if_pos (show f.op=3∨f.op=4 from .inr e)]
      cases(f.cls==0&&(decide (-1000000000≤f.n)&&decide (f.n≤1000000000)))<;>simp
    refine⟨⟨fun h=>⟨by omega,by omega,?_⟩,fun⟨_,_,h⟩=>?_⟩,fun _=>by dsimp only;omega⟩
    ·rw[hn,hk0,hh];simpa using h
    ·rw[hn,hk0,hh]at h;simpa using h
   ·have hl':f.op=1∨f.op=5∨f.op=6∨f.op=7:=by
     simp only[CH,Fo,D9]at hl;omega
    have hlf:CH f=false:=by simpa using hl
    rw[if_neg hl];by_cases hz:f.arg≠0∨0<f.path.length∨f.cls≠0∨f.n≠0
    ·rw[if_pos hz]
     simp only[MO,false_iff,false_implies,and_true];rintro⟨g1,g2,g3⟩;rw[hn,BJ]at g3;have g4:=g3.1;simp only[DI,hlf,Bool.false_or,BJ,D9]at g4;omega
    ·rw [if_neg hz]
     obtain⟨i1,i2⟩:=SY w (deep:=deep - 1) f.kids (left - 1) (by omega) (by omega) fun k hk left hl0 hl1=>ih k hk left (deep - 1) hl0 hl1 (by omega)
     have hh:DI w f=true:=by
      have hp:f.path= []:=YL.1 (by omega)
      have e1:Wj w f=true:=by
       unfold Wj;rw[if_neg (by omega),if_neg (by omega)];simp only[Fo,D9];omega
      have z1:f.arg=0:=by omega
      have z2:f.cls=0:=by omega
      have z3:f.n=0:=by omega
      have z4:f.kids.length=CK f.op:=by omega
      simp[DI,e1,hlf,hp,z1,z2,z3,z4,E8]
     refine⟨i1.trans ⟨fun⟨e1,e2⟩=>⟨by omega,hdl.2 ⟨by omega,fun k hk=>(e2 k hk).1⟩,?_⟩,fun⟨g1,g2,g3⟩=>⟨by omega,fun k hk=>⟨(hdl.1 g2).2 k hk,?_⟩⟩⟩,fun h=>by rw[i2 h];omega⟩
     ·rw[hn,hh,Il,Em]
      exact fun k hk=>(e2 k hk).2
     ·rw[hn,hh,Il,Em]at g3
      exact g3 k hk
def ZW (w:AL) (f:Fact):LJ w f=CS w f:=by
 have:=(lF w f 24 12 (by omega) (by omega) (by omega)).1;rw[LJ,CS,JU,this,dt];simp only[BJ,Cn];rw[bK f (by omega)]
end Go.Gl
namespace Go.Gl
open Go.Proofs
attribute [local irreducible] BC Aw Ai AV AM Ah AU AW AN Ag AQ AS A3 BA Sat Ab A8 Ak W
def Ly {p:Prog} (h:BE p=true):D7 (AR p)∧Bp p.AP≤40∧p.AP.length≤10:=by
 have h1:=h;rw[QS]at h1;simp only[BJ,Cn]at h1;have h2:=h;simp only[BE,BJ,Cn]at h2;have hm:=(FK _ _ h2.2.1).1;refine⟨⟨Dy h1.2.2.2.1,?_,fun o ho=>?_⟩,by omega,h1.1⟩
 ·rw[AR,Ce];omega
 ·have:=Fu ho
  simp only[AR,A4,A9];omega
def jW (s:List Int):Prop:= ∀x∈s,(-1:Int)≤x
def ly {s:List Int} (h:jW s) (i:Nat) {x:Int} (hx:0≤x):jW (s.set i x):=fun y hy=>by
 rcases List.mem_or_eq_of_mem_set hy with hy|rfl
 ·exact h y hy
 ·omega
def VQ {f:Int→Int→List Int→Option (List Int)} (hf: ∀ {a b s s'},0≤b→f a b s=some s'→jW s→jW s') {op size:Int} (h0:0≤size): ∀(i:Nat) (l:List Int) {s s':List Int},FY f op size i l s=some s'→jW s→jW s'
 | _,[],s,s',h,hs=>by cases h;exact hs
 | i,k::r,s,s',h,hs=>by
   simp only[FY]at h;split at h
   ·cases h
   ·rename_i s1 h1
    refine VQ hf h0 (i+1) r h (hf ?_ h1 hs);split<;>omega
def Lf {p:Prog} {next:Bool}: ∀(d:Nat) {n size:Int} {s s':List Int},0≤size→CR p next d n size s=some s'→jW s→jW s'
 | 0,_,_,_,_,_,h,_=>by cases h
 | d + 1,n,size,s,s',h0,h,hs=>by
   simp only[CR]at h;split at h
   ·cases h
   ·split at h
    ·cases h
    ·split at h
     ·exact VQ (fun hb h hs=>Lf d hb h hs) h0 0 _ h (ly hs _ h0)
     ·cases h
def lz {s:List Int} (h:jW s):(s.all fun n=>decide (0≤n))= !s.contains (-1):=by
 rw[JU];simp only[Em,Cn,Bool.not_eq_true',←Bool.not_eq_true,List.contains_iff_mem];constructor
 ·intro h1 h2
  have:=h1 _ h2;omega
 ·intro h1 x hx
  have:=h x hx;rcases Int.lt_or_le x 0 with hlt|hle
  ·exact absurd ((show x= -1 by omega) ▸ hx) h1
  ·exact hle
def uv (p:Prog) (nO:Nat) (r:R) (σ:AH):Prop:=
 match Bb p with
 | some s=>r= .ret (.t [])∧ ∃v,Sat σ [.box nO [v],.own v 1 (iL s)]
 | none=>r= .Bi Dw∧ ∃v s,Sat σ [.box nO [v],.own v 1 (iL s)]
def Z5 {p:Prog} {nO:Nat} {σ:AH} {v:V} {s:List Int} {l:List At} (h:Bb p=none) (hs:Sat σ l) (hsub: [At.box nO [v],.own v 1 (iL s)].Sublist l):Ai σ Dw (uv p nO):=DN (by
 rw[uv,h]
 exact⟨rfl,v,s,hs.less hsub⟩)
def szT {p:Prog} {nO:Nat} {σ:AH} {v:V} {s:List Int} {l:List At} (h:Bb p=some s) (hs:Sat σ l) (hsub: [At.box nO [v],.own v 1 (iL s)].Sublist l):Aw σ (.t []) (uv p nO):=AX (by
 rw[uv,h]
 exact⟨rfl,v,hs.less hsub⟩)
def S5 {p:Prog} (h:C9 p=false):Bb p=none:=by unfold Bb;rw[h];rfl
def ml {w:AL} {f:Fact} (h:CS w f=true):RI f=true:=P3 (w:=w) f (by simp only[CS,BJ]at h;exact h.2.2)
def QG {w:AL} (hw:D7 w) (f:Fact):Pure Tryz.prog 146 [.a (A7 w),.a (xF f)] (eI (if CS w f then 0 else 2)):=by
 rw[←ZW];exact cw w hw f
def bE {α:Type} (a b c:α): [a,b,c].Perm [c,b,a]:=by simpa using(List.reverse_perm [a,b,c]).symm
set_option maxHeartbeats 4000000 in
def gZ (p : Prog) (nO:Nat) (σ:AH) (hs:Sat σ [.box nO [.l [] true]]):BC Tryz.prog 281 [.rp (BR p),.p nO 0] σ (uv p nO):=by
 refine BC.fit (by kernel_rfl) fun hf=>?_
 have hM:=Mx
 have hfp:E4 (.a (BR p)):=by
  have:=hf.1;simp only[Tj]at this;simpa only[G3]using this
 have⟨p1,p2,p3,p4⟩:=Er hfp;refine sg kZ ?_;have hcl:=YG p;replace hs:Sat σ [.box nO [.l [] true],.own (.l [] true) 1 (iL [])]:=EM hs 1;cases hcB:BE p with
 | false=>
   rw[hcB]at hcl
   conv=>whnf
   repeat'((first|apply st|(apply sq;intro K U)|(apply si;intro A B Y Z)|refine⟨kZ,?_⟩|fail)<;>conv=>whnf)
   refine hcl.use (pre:=[]) (rest:=[.box nO [.l [] true],.own (.l [] true) 1 (iL [])]) hs ?_;rintro r post σ ⟨rfl,rfl⟩ hs
   conv=>whnf
   repeat'((first|(refine Z _ _ _ ?_;clear Z B Y A)|clear U K)<;>conv=>whnf)
   exact Z5 (S5 (by simp[C9,hcB])) hs (.refl _)
 | true=>
   rw[hcB]at hcl;obtain⟨hgW,hmS,h10⟩:=Ly hcB
   conv=>whnf
   repeat'((first|apply st|(apply sq;intro K U)|(apply si;intro A B Y Z)|refine⟨kZ,?_⟩|fail)<;>conv=>whnf)
   refine hcl.use (pre:=[]) (rest:=[.box nO [.l [] true],.own (.l [] true) 1 (iL [])]) hs ?_;clear hs;rintro r post σ ⟨rfl,rfl⟩ hs
   conv=>whnf
   repeat'((first|apply st|(apply sq;intro K U)|(apply si;intro A B Y Z)|(apply Y;clear Z B Y A)|(refine Z _ _ _ ?_;clear Z B Y A)|(apply U;clear U K)|refine⟨rfl,?_⟩|(refine Ct (fun hc=>?_) (fun hc=>?_)<;>(replace hc:=bp hc)<;>(try simp(disch:=omega) only[A9,wrap64,AK]at hc)<;>(try(cases hc;done)))|(constructor<;>intro hc<;>(try rw[hc])<;>(replace hc:=bp hc)<;>(try simp(disch:=omega) only[A9,wrap64,AK]at hc))|clear U K)<;>conv=>whnf)
   rotate_left
   all_goals first
    | exact Z5 (S5 (by simp[C9, *];intros;omega)) hs (.refl _)
    | skip
   have a1:p.Dj.length≤8:=by omega
   have a2:p.methods.length≤16:=by omega
   have a3:1≤p.nodes.length:=by omega
   have a4:p.nodes.length≤120:=by omega
   have hg:C9 p=p.Dj.all fun g=>decide (1≤g)&&decide (g≤3):=by
    simp only[C9,a1,a2,a3,a4,decide_true,Il];simp[*]
   refine CA p.Dj.length (fun k (_:Unit)=>[(36,eI (BG k))]) (fun _ _=>[.box nO [.l [] true],.own (.l [] true) 1 (iL [])]) (fun k _=>C9 p=(p.Dj.drop k).all fun g=>decide (1≤g)&&decide (g≤3)) () rfl (by simpa using hg) hs ?_;clear hs hg;rintro k - σ hk hn hs;rcases BI p.Dj hk with⟨g,hgk,hlt⟩|hke
   ·rw[drop_cons hgk,NS]at hn
    conv=>whnf
    repeat'((first|apply st|(apply sq;intro K U)|(apply si;intro A B Y Z)|(apply Y;clear Z B Y A)|(refine Z _ _ _ ?_;clear Z B Y A)|(apply U;clear U K)|refine⟨rfl,?_⟩|refine ix ?_|(refine CU (fun hc=>?_)<;>(try rw[hc])<;>clear hc)|(refine Ct (fun hc=>?_) (fun hc=>?_)<;>(replace hc:=bp hc)<;>(try simp(disch:=omega) only[A9,wrap64,AK]at hc)<;>(try(cases hc;done)))|(constructor<;>intro hc<;>(try rw[hc])<;>(replace hc:=bp hc))|clear U K)<;>conv=>whnf)
    ·exact⟨hlt,(),rfl,by rw[hn];simp[*],hs⟩
    ·exact Z5 (S5 (by rw[hn,decide_eq_false (show¬g≤3 by omega)];simp)) hs (.refl _)
    ·exact Z5 (S5 (by rw[hn,decide_eq_false (show¬1≤g by omega)];simp)) hs (.refl _)
   ·have hh : C9 p=true:=by rw[hn,As hke];rfl
    have hL:=ZF hh;clear hn
    conv=>whnf
    repeat'((first|apply st|(apply sq;intro K U)|(apply si;intro A B Y Z)|(apply Y;clear Z B Y A)|(apply U;clear U K)|refine⟨rfl,?_⟩|(refine Dl (fun hc=>?_)<;>(try rw[hc])<;>clear hc)|clear U K)<;>conv=>whnf)
    rw[A9];refine(av p.nodes.length a3 a4).use (pre:=[]) (rest:=[.box nO [.l [] true],.own (.l [] true) 1 (iL [])]) hs ?_;clear hs;rintro r post σ ⟨v,rfl,rfl,hv⟩ hs
    conv=>whnf
    repeat'((first|apply st|(apply sq;intro K U)|(apply si;intro A B Y Z)|(apply Y;clear Z B Y A)|(apply U;clear U K)|refine⟨kZ,?_⟩|refine GV fun σ hs=>?_|refine Cw fun σ hs=>?_|refine Pure.use (Uv p (by omega) (by omega)) ?_|(intro nn hnn;generalize hg:A0 _ nn _=σ;refine CZ hg fun hs=>?_;clear hg)|fail)<;>conv=>whnf)
    rename_i nw hnw _ hs;generalize nn=n5 at *;replace hs:=hs.less (show [At.box n5 (A7 (AR p)),.own v 1 (iL (List.replicate p.nodes.length (-1))),.box nO [v]].Sublist _ from .cons₂ _ (.cons₂ _ (.cons₂ _ (.cons _ .slnil))));refine CA p.methods.length (fun k (s:List Int)=>[(59,eI (BG k))]) (fun _ s=>[.box nO [v],.own v 1 (iL s),.box n5 (A7 (AR p))]) (fun k s=>s.length=p.nodes.length∧jW s∧Bb p=J4 p (runM p (p.methods.drop k) s)) (List.replicate p.nodes.length (-1)) rfl ⟨by simp,fun x hx=>by rw[List.eq_of_mem_replicate hx];omega,hL⟩ (hs.perm (bE _ _ _)) ?_;clear hs hnw hnn;rintro k s σ hk ⟨hl,hge,hn⟩ hs;rcases BI p.methods hk with⟨m,hm,hlt⟩|hke
    ·have hF:=QG hgW m.fact
     cases hfB:CS (AR p) m.fact with
     | false=>
       rw[hfB,if_neg Bool.false_ne_true]at hF;have hno:=DV hm hn (by simp[Od,hfB])
       conv=>whnf
       repeat'((first|apply st|(apply sq;intro K U)|(apply si;intro A B Y Z)|(apply Y;clear Z B Y A)|(refine Z _ _ _ ?_;clear Z B Y A)|(refine Z _ _ fun σ hsub=>?_;clear Z B Y A)|(apply U;clear U K)|apply dr|refine rk ?_ ?_|exact fun s e=>by cases e;rfl|refine⟨rfl,?_⟩|refine⟨kZ,?_⟩|refine ix ?_|refine ld ?_|refine Cw fun σ hs=>?_|(refine CU (fun hc=>?_)<;>(try rw[hc])<;>clear hc)|(refine Ct (fun hc=>?_) (fun hc=>?_)<;>(replace hc:=bp hc)<;>(try simp(disch:=omega) only[A9,wrap64,AK]at hc)<;>(try(cases hc;done)))|refine hF.use ?_|(constructor<;>intro hc<;>(try rw[hc])<;>(replace hc:=bp hc)<;>try(exfalso;omega))|(intro nn hnn;generalize hg:A0 _ nn _=σ;refine CZ hg fun hs=>?_;clear hg)|clear U K)<;>conv=>whnf)
       all_goals first
        | (refine Z5 (v:=v) (s:=s) hno hs ?_;(repeat first|exact NT _|apply List.Sublist.cons₂|apply List.Sublist.cons);done)
        | (refine Z5 (v:=v) (s:=s) hno (hs.up (by assumption)) ?_;(repeat first|exact NT _|apply List.Sublist.cons₂|apply List.Sublist.cons);done)
        | skip
     | true=>
       rw[hfB,if_pos rfl]at hF;have hsp:=ah _ (ml hfB)
       conv=>whnf
       repeat'((first|apply st|(apply sq;intro K U)|(apply si;intro A B Y Z)|(apply Y;clear Z B Y A)|(refine Z _ _ _ ?_;clear Z B Y A)|(refine Z _ _ fun σ hsub=>?_;clear Z B Y A)|(apply U;clear U K)|apply dr|refine rk ?_ ?_|exact fun s e=>by cases e;rfl|refine⟨rfl,?_⟩|refine⟨kZ,?_⟩|refine ix ?_|refine HI ?_|refine iq fun x hx=>?_|refine ld ?_|refine Cw fun σ hs=>?_|(refine CU (fun hc=>?_)<;>(try rw[hc])<;>clear hc)|(refine Ct (fun hc=>?_) (fun hc=>?_)<;>(replace hc:=bp hc)<;>(try simp(disch:=omega) only[A9,wrap64,AK]at hc)<;>(try(cases hc;done)))|refine hF.use ?_|refine hsp.use ?_|(constructor<;>intro hc<;>(try rw[hc])<;>(replace hc:=bp hc)<;>(try simp(disch:=omega) only[A9,wrap64,AK]at hc)<;>try(exfalso;omega))|(intro nn hnn;generalize hg:A0 _ nn _=σ;refine CZ hg fun hs=>?_;clear hg)|clear U K)<;>conv=>whnf)
       all_goals first
        | (refine Z5 (v:=v) (s:=s) (DV hm hn ?_) hs ?_;(simp[Od, *];intros;omega);(repeat first|exact NT _|apply List.Sublist.cons₂|apply List.Sublist.cons);done)
        | (refine Z5 (v:=v) (s:=s) (DV hm hn ?_) (hs.up (by assumption)) ?_;(simp[Od, *];intros;omega);(repeat first|exact NT _|apply List.Sublist.cons₂|apply List.Sublist.cons);done)
        | skip
       rotate_left 2
       ·refine Z5 (v:=v) (s:=s) (DV hm hn ?_) (hs.up (by assumption)) ?_
        ·simp only[Od,show p.Dj.getD m.gen.toNat 0=x by rw[DZ,hx];rfl,decide_eq_false (show¬GC m.fact≤x by omega),Bool.and_false]
        ·repeat first|exact NT _|apply List.Sublist.cons₂|apply List.Sublist.cons
       all_goals
        have hx13:=R3 hh hx;have hgd:p.Dj.getD m.gen.toNat 0=x:=by rw[DZ,hx];rfl
        have hok:Od p m=true:=by simp only[Od,hgd,BJ,Cn];exact⟨by omega,by omega,by omega,by omega,hfB,by assumption⟩
        have hgo:=fun s'=>Yt (s':=s') hm hn hok
        have hno:=Rh hm hn hok;rw[hgd]at hgo hno
       ·have hnb:J3 m.kind=(m.kind==4):=by simp[J3, *]
        rw[hnb]at hgo hno;refine B2 ((To p (m.kind==4) hv m.node x s (by omega) (by omega) hl [.box n5 (A7 (AR p))] σ (hs.less (.cons _ (.refl _)))).mono ?_);cases hw:CR p (m.kind==4) 12 m.node x s with
        | none=>
          clear hs;rintro r σ' ⟨rfl,s',hl',hs⟩
          conv=>whnf
          repeat'((first|(refine Z _ _ fun σ hsub=>?_;clear Z B Y A)|clear U K)<;>conv=>whnf)
          exact Z5 (v:=v) (s:=s') (hno hw) (hs.up (by assumption)) (.cons₂ _ (.cons₂ _ (NT _)))
        | some s2=>
          clear hs;rintro r σ' ⟨rfl,hs⟩
          conv=>whnf
          repeat'((first|(apply si;intro A B Y Z)|(apply Y;clear Z B Y A)|(apply U;clear U K)|apply dr|refine⟨rfl,?_⟩|clear U K)<;>conv=>whnf)
          exact⟨hlt,s2,rfl,⟨(Jg _ hw).trans hl,Lf _ (by omega) hw hge,hgo s2 hw⟩,hs⟩
       ·have hnb:J3 m.kind=true:=by simp[J3, *]
        rw[hnb]at hgo hno;refine B2 ((To p true hv m.node x s (by omega) (by omega) hl [.box n5 (A7 (AR p))] σ (hs.less (.cons _ (.refl _)))).mono ?_);cases hw:CR p true 12 m.node x s with
        | none=>
          clear hs;rintro r σ' ⟨rfl,s',hl',hs⟩
          conv=>whnf
          repeat'((first|(refine Z _ _ fun σ hsub=>?_;clear Z B Y A)|clear U K)<;>conv=>whnf)
          exact Z5 (v:=v) (s:=s') (hno hw) (hs.up (by assumption)) (.cons₂ _ (.cons₂ _ (NT _)))
        | some s2=>
          clear hs;rintro r σ' ⟨rfl,hs⟩
          conv=>whnf
          repeat'((first|(apply si;intro A B Y Z)|(apply Y;clear Z B Y A)|(apply U;clear U K)|apply dr|refine⟨rfl,?_⟩|clear U K)<;>conv=>whnf)
          exact⟨hlt,s2,rfl,⟨(Jg _ hw).trans hl,Lf _ (by omega) hw hge,hgo s2 hw⟩,hs⟩
    ·subst hke
     rw[List.drop_length,runM]at hn
     conv=>whnf
     repeat'((first|apply st|(apply sq;intro K U)|(apply si;intro A B Y Z)|(apply Y;clear Z B Y A)|(apply U;clear U K)|refine⟨rfl,?_⟩|refine⟨kZ,?_⟩|refine ix ?_|refine ld ?_|refine Cw fun σ hs=>?_|(refine fc (fun x hx hlt hc=>?_) (fun hk hc=>?_)<;>(try rw[hc])<;>clear hc)|(constructor<;>intro hc<;>(try rw[hc])<;>(replace hc:=bp hc)<;>try(exfalso;omega))|(intro nn hnn;generalize hg:A0 _ nn _=σ;refine CZ hg fun hs=>?_;clear hg)|clear U K)<;>conv=>whnf)
     rw[J4]at hn;refine B2 ((To p false hv p.main 0 s (by omega) (by omega) hl [.box n5 (A7 (AR p))] σ hs).mono ?_);cases hw:CR p false 12 p.main 0 s with
     | none=>
       rw[hw]at hn;clear hs;rintro r σ' ⟨rfl,s',hl',hs⟩
       conv=>whnf
       repeat'((first|(refine Z _ _ _ ?_;clear Z B Y A)|clear U K)<;>conv=>whnf)
       exact Z5 (v:=v) (s:=s') hn hs (.cons₂ _ (.cons₂ _ (NT _)))
     | some s2=>
       rw[hw]at hn;have hge2:=Lf _ (by omega) hw hge;simp only[lz hge2]at hn;clear hs;rintro r σ' ⟨rfl,hs⟩;have hct:=fun f=>C1 s2 f (-1)
       cases hyes:s2.contains (-1)with
       | true=>
         rw[hyes]at hct hn
         conv=>whnf
         repeat'((first|(apply si;intro A B Y Z)|(apply Y;clear Z B Y A)|(apply U;clear U K)|refine ld ?_|fail)<;>conv=>whnf)
         refine Pure.aH (hct false) (.cons (hs.GX 1 rfl) (.cons (.refl _) .nil)) rfl ?_
         conv=>whnf
         repeat'((first|(refine Z _ _ _ ?_;clear Z B Y A)|(refine Ct (fun hc=>?_) (fun hc=>?_)<;>(replace hc:=bp hc)<;>(try simp(disch:=omega) only[A9,wrap64,AK]at hc)<;>(try(cases hc;done)))|fail)<;>conv=>whnf)
         all_goals exact Z5 (v:=v) (s:=s2) hn (by first|exact hs|exact hs.up (by assumption)) (.cons₂ _ (.cons₂ _ (NT _)))
       | false=>
         rw[hyes]at hct hn
         conv=>whnf
         repeat'((first|(apply si;intro A B Y Z)|(apply Y;clear Z B Y A)|(apply U;clear U K)|refine ld ?_|fail)<;>conv=>whnf)
         refine Pure.aH (hct false) (.cons (hs.GX 1 rfl) (.cons (.refl _) .nil)) rfl ?_
         conv=>whnf
         repeat'((first|(apply Y;clear Z B Y A)|(refine Ct (fun hc=>?_) (fun hc=>?_)<;>(replace hc:=bp hc)<;>(try simp(disch:=omega) only[A9,wrap64,AK]at hc)<;>(try(cases hc;done)))|fail)<;>conv=>whnf)
         all_goals exact szT (v:=v) hn hs (.cons₂ _ (.cons₂ _ (NT _)))
end Go.Gl
namespace Go.Gl
variable {P:Program} {σ:AH}
def cz {v:V} {Q Q':R→AH→Prop} (h:Aw σ v Q) (hq: ∀r σ,Q r σ→Q' r σ):Aw σ v Q':=by
 obtain⟨vf,s2,h1,h2,h3⟩:=h;exact⟨vf,s2,h1,h2,hq _ _ h3⟩
def DB.more {α S:Type} {g:FuncId} {fi ca:List V} {ea:α→V} {H:S→List At} {stp:α→S→Bool×S} {D:α→S→Prop} (h:DB P (.f (.func g) fi ca) ea H stp D) (pre:List At):DB P (.f (.func g) fi ca) ea (fun s=>pre++H s) stp D:=fun y s hd σ hs=>by
 have h1:Bj P g (fi++[ea y]++ca) (H s) fun r post=>r= .ret (.b (stp y s).1)∧post=H (stp y s).2:=fun σ hs=>BC.mono (h y s hd σ hs) fun r σ' ⟨e,h2⟩=>⟨_,⟨e,rfl⟩,h2⟩
 refine B2 (h1.use (rest:=pre) (hs.perm Qu) ?_);rintro r post σ' ⟨rfl,rfl⟩ hs';exact⟨rfl,hs'.perm Qu⟩
def Nh {α S:Type} (P:Program) (x:V) (ea:α→V) (H:S→List At) (f:α→Bool) (J:S→Prop) (D:α→Prop):Prop:=
 ∀y s,D y→J s→ ∀σ,Sat σ (H s)→A3 P x [ea y] σ fun r σ'=>r= .ret (.b (f y))∧ ∃s',J s'∧Sat σ' (H s')
def Nh.use {α S:Type} {x:V} {ea:α→V} {H:S→List At} {f:α→Bool} {J:S→Prop} {D:α→Prop} (h:Nh P x ea H f J D) {y:α} {s:S} (hd:D y) (hj:J s) (hs:Sat σ (H s)) {k kp:V→AH→Prop} (hk: ∀s' σ',J s'→Sat σ' (H s')→k (.b (f y)) σ'):A3 P x [ea y] σ (qk k kp):=
 (h y s hd hj σ hs).mono fun r σ' ⟨e,s',hj',h'⟩=>by rw[e];exact hk s' σ' hj' h'
def Nd {α:Type} (f:α→Bool):List α→Nat→Int
 | [],_=> -1
 | y::r,k=>if f y then(k:Int)else Nd f r (k+1)
def Vc {α:Type} (f:α→Bool): ∀(xs:List α) (k:Nat),decide (Nd f xs k≥0)=xs.any f
 | [],_=>rfl
 | y::r,k=>by
   rw[Nd,Qb];cases f y
   ·exact Vc f r (k+1)
   ·simp
end Go.Gl
namespace Go.Gl
structure Kn where
 low:Int
 high:Int
 no:List Int
 CE:Nat
 Ga:Nat
 whole:Bool
 A6:Bool
 AJ:List Int
def k0:Kn:=⟨-1000000000,1000000000,[],0,0,false,false,[]⟩
def JC (l:List Int) (s:Int):List Int:=if l.contains s then l else(l++[s]).mergeSort HF
def Cu (k:Kn) (f:Fact) (b:Bool):Kn:=
 if f.op=2 then(if b then {k with Ga:=k.Ga|||2 ^ f.cls.toNat}else {k with CE:=k.CE|||2 ^ f.cls.toNat})
 else if f.op=3 then(if b then {k with low:=if f.n > k.low then f.n else k.low}else {k with high:=if f.n - 1<k.high then f.n - 1 else k.high,whole:=true})
 else if b then {k with no:=k.no++[f.n]}else {k with low:=if f.n > k.low then f.n else k.low,high:=if f.n<k.high then f.n else k.high,whole:=true}
def Dp (k:Kn) (b:Bool):Kn:={k with A6:=k.A6|| !b}
def jU (k:Kn) (s:Int):Kn:={k with AJ:=JC k.AJ s}
def DH (a:Int) (p:List Int) (k:Kn) (l:Fact):Kn:=
 if(Az l).1.arg=a∧Bw (Az l).1.path p=true then
  (if(Az l).1.path=p then Cu (Dp k (Az l).2) (Az l).1 (Az l).2 else jU (Dp k (Az l).2) ((Az l).1.path.getD p.length 0))
 else k
def kn (ls:List Fact) (a:Int) (p:List Int):Kn:=ls.foldl (DH a p) k0
def YJ (k:Kn) (f:Fact) (b:Bool):(Cu k f b).A6=k.A6:=by
 unfold Cu
 (repeat' split)<;>rfl
def SU (k:Kn) (f:Fact) (b:Bool):(Cu k f b).AJ=k.AJ:=by
 unfold Cu
 (repeat' split)<;>rfl
def Tx (a:Int) (p:List Int) (k:Kn) (l:Fact):(DH a p k l).A6=(k.A6|| !((Az l).2|| !((Az l).1.arg==a&&Bw (Az l).1.path p))):=by
 unfold DH;split
 ·rename_i h
  have e:((Az l).1.arg==a)=true:=by simpa using h.1
  rw[e,h.2];split
  ·rw[YJ];simp[Dp]
  ·simp[jU,Dp]
 ·rename_i h
  have:((Az l).1.arg==a&&Bw (Az l).1.path p)=false:=by
   cases hb:((Az l).1.arg==a&&Bw (Az l).1.path p)with
   | false=>rfl
   | true=>rw[BJ]at hb;exact absurd ⟨by simpa using hb.1,hb.2⟩ h
  rw[this];simp
def MF (a:Int) (p:List Int): ∀(ls:List Fact) (k:Kn),(ls.foldl (DH a p) k).A6=(k.A6|| !EG ls a p)
 | [],k=>by simp[EG]
 | l::r,k=>by
   rw[List.foldl_cons,MF a p r,Tx];simp only[EG,NS];generalize (r.all _)=x;generalize ((Az l).2||_)=y;cases k.A6<;>cases x<;>cases y<;>rfl
def NB (ls:List Fact) (a:Int) (p:List Int):(kn ls a p).A6= !EG ls a p:=by rw[kn,MF];rfl
def cq (l:List Int) (s x:Int):x∈JC l s↔x∈l∨x=s:=by
 unfold JC;split
 ·rename_i h
  rw[List.contains_iff_mem]at h;constructor
  ·exact .inl
  ·rintro(h'|rfl)
   ·exact h'
   ·exact h
 ·rw[(List.mergeSort_perm _ HF).mem_iff];simp
def T6 {l:List Int} (s:Int) (h:l.Pairwise (· < ·)):(JC l s).Pairwise (· < ·):=by
 unfold JC;split
 ·exact h
 ·rename_i hc
  have hc':s∉l:=by simpa using hc
  have hp:=List.mergeSort_perm (l++[s]) HF;have h1:((l++[s]).mergeSort HF).Pairwise (fun a b=>HF a b=true):=List.pairwise_mergeSort (fun a b c=>by simp only[HF,Cn];omega) (fun a b=>by simp only[HF,Fo,Cn];omega) _
  have h2:((l++[s]).mergeSort HF).Nodup:=hp.nodup_iff.2 (by
   rw[List.nodup_append];refine⟨h.imp fun hab=>by omega,by simp,fun a ha b hb=>?_⟩;simp only[Kz]at hb;rintro rfl
   exact hc' (hb ▸ ha))
  exact(h1.and h2).imp fun⟨h3,h4⟩=>by
   simp only[HF,Cn]at h3;omega
def Kh: ∀ {l m:List Int},l.Pairwise (· < ·)→m.Pairwise (· < ·)→(∀x,x∈l↔x∈m)→l=m
 | [],[],_,_,_=>rfl
 | [],y::m,_,_,h=>absurd ((h y).2 (.head _)) (by simp)
 | x::l,[],_,_,h=>absurd ((h x).1 (.head _)) (by simp)
 | x ::l,y::m,h1,h2,h=>by
   rw[List.pairwise_cons]at h1 h2
   have hxy:x=y:=by
    rcases F6.1 ((h x).1 (.head _))with e|hx
    ·exact e
    ·rcases F6.1 ((h y).2 (.head _))with e|hy
     ·exact e.symm
     ·have:=h1.1 y hy
      have:=h2.1 x hx;omega
   subst hxy;congr 1;refine Kh h1.2 h2.2 fun z=>?_
   constructor
   ·intro hz
    rcases F6.1 ((h z).1 (.tail _ hz))with e|hz'
    ·have:=h1.1 z hz;omega
    ·exact hz'
   ·intro hz
    rcases F6.1 ((h z).2 (.tail _ hz))with e|hz'
    ·have:=h2.1 z hz;omega
    ·exact hz'
def Cd {path pre:List Int}:Bw path pre=true↔ ∃t,path=pre++t:=by
 simp only[Bw,BJ,Cn,D9];constructor
 ·rintro⟨_,h⟩
  exact⟨path.drop pre.length,by conv=>lhs;rw[←List.take_append_drop pre.length path,h]⟩
 ·rintro⟨t,rfl⟩
  simp
def Wa {path p:List Int} {s:Int}:Bw path (p++[s])=true↔Bw path p=true∧path≠p∧path.getD p.length 0=s:=by
 rw[Cd,Cd];constructor
 ·rintro⟨t,rfl⟩
  refine⟨⟨s::t,by simp⟩,fun e=>?_,by simp⟩;have:=congrArg List.length e;simp at this
 ·rintro⟨⟨t,rfl⟩,hne,hs⟩
  cases t with
  | nil=>simp at hne
  | cons y t=>simp at hs;subst hs;exact⟨t,by simp⟩
def ZR {a:Int} {p:List Int} {s:Int} {l:Fact}:YM a p s l=true↔(Az l).1.arg=a∧Bw (Az l).1.path p=true∧(Az l).1.path≠p∧(Az l).1.path.getD p.length 0=s:=by
 rw[YM,BJ,Wa,D9]
def WK (a:Int) (p:List Int) (k:Kn) (l:Fact):(DH a p k l).AJ=if(Az l).1.arg=a∧Bw (Az l).1.path p=true∧(Az l).1.path≠p then JC k.AJ ((Az l).1.path.getD p.length 0)else k.AJ:=by
 unfold DH;by_cases h1:(Az l).1.arg=a∧Bw (Az l).1.path p=true
 ·rw[if_pos h1]
  by_cases h2:(Az l).1.path=p
  ·rw[if_pos h2,if_neg (fun h=>h.2.2 h2),SU];rfl
  ·rw[if_neg h2,if_pos ⟨h1.1,h1.2,h2⟩];rfl
 ·rw[if_neg h1,if_neg (fun h=>h1 ⟨h.1,h.2.1⟩)]
def QI (a:Int) (p:List Int): ∀(ls:List Fact) (k:Kn),k.AJ.Pairwise (· < ·)→(ls.foldl (DH a p) k).AJ.Pairwise (· < ·)∧ ∀s,s∈(ls.foldl (DH a p) k).AJ↔s∈k.AJ∨ls.any (YM a p s)=true
 | [],k,h=>⟨h,fun s=>by simp⟩
 | l ::r,k,h=>by
   rw[List.foldl_cons];have e:=WK a p k l
   have h1:(DH a p k l).AJ.Pairwise (· < ·):=by
    rw[e];split
    ·exact T6 _ h
    ·exact h
   obtain⟨i1,i2⟩:=QI a p r _ h1;refine⟨i1,fun s=>?_⟩;rw[i2,e,Qb,Fo,ZR];split
   ·rename_i hc
    rw[cq];constructor
    ·rintro((h|rfl)|h)
     ·exact .inl h
     ·exact .inr (.inl ⟨hc.1,hc.2.1,hc.2.2,rfl⟩)
     ·exact .inr (.inr h)
    ·rintro(h|⟨-,-,-,h⟩|h)
     ·exact .inl (.inl h)
     ·exact .inl (.inr h.symm)
     ·exact .inr h
   ·rename_i hc
    constructor
    ·rintro(h|h)
     ·exact .inl h
     ·exact .inr (.inr h)
    ·rintro(h|⟨q1,q2,q3,-⟩|h)
     ·exact .inl h
     ·exact absurd ⟨q1,q2,q3⟩ hc
     ·exact .inr h
def Hw (n:Nat) (ls:List Fact):Prop:= ∀l∈ls,∀s∈(Az l).1.path,(0:Int)≤s∧s<n
def IC {n:Nat} {s:Int}:s∈Ci n↔0≤s∧s<n:=by
 simp only[Ci,MN,List.mem_range];constructor
 ·rintro⟨m,hm,rfl⟩
  exact⟨Int.natCast_nonneg m,by simpa using hm⟩
 ·rintro⟨h0,h1⟩
  exact⟨s.toNat,by omega,by simp;omega⟩
def Qq (n:Nat):(Ci n).Pairwise (· < ·):=by
 rw[Ci,List.pairwise_map];exact List.pairwise_lt_range.imp fun h=>by simpa using h
def qo {n:Nat} {ls:List Fact} (h:Hw n ls) {a:Int} {p:List Int} {s:Int} {l:Fact} (hl:l∈ls) (hg:YM a p s l=true):0≤s∧s<n:=by
 rw[ZR]at hg;obtain⟨-,h2,h3,h4⟩:=hg;obtain⟨t,ht⟩:=Cd.1 h2;refine h l hl s ?_;rw[ht]at h3 h4 ⊢;cases t with
 | nil=>simp at h3
 | cons y t=>simp at h4;subst h4;simp
def Lu {n:Nat} {ls:List Fact} (h:Hw n ls) (a:Int) (p:List Int):(kn ls a p).AJ=Bn n ls a p:=by
 obtain⟨h1,h2⟩:=QI a p ls k0 .nil;refine Kh h1 ((Qq n).filter _) fun s=>?_
 show s∈(ls.foldl (DH a p) k0).AJ↔_;rw[h2,Bn,K0,IC];constructor
 ·rintro(h|hs)
  ·cases h
  ·obtain⟨l,hl,hg⟩:=Jy.1 hs
   exact⟨qo h hl hg,hs⟩
 ·exact fun hs=> .inr hs.2
def Ek (os:List Fact) (k:Kn):Kn:=os.foldl (fun k l=>Cu k (Az l).1 (Az l).2) k
abbrev FF (k:Kn):Int×Int×List Int×Nat×Nat×Bool:=(k.low,k.high,k.no,k.CE,k.Ga,k.whole)
def Vh {k k':Kn} (h:FF k=FF k') (f:Fact) (b:Bool):FF (Cu k f b)=FF (Cu k' f b):=by
 cases k;cases k';simp only[FF,Prod.mk.injEq]at h;obtain⟨rfl,rfl,rfl,rfl,rfl,rfl⟩:=h;unfold Cu
 (repeat' split)<;>rfl
def Nz (p:List Int):Bw p p=true:=Cd.2 ⟨[],by simp⟩
def cQ (a:Int) (p:List Int) (k:Kn) (l:Fact):FF (DH a p k l)=if Gs a p l then FF (Cu k (Az l).1 (Az l).2)else FF k:=by
 unfold DH Gs;by_cases h1:(Az l).1.arg=a
 ·by_cases h2:(Az l).1.path=p
  ·have e:((Az l).1.arg==a&&(Az l).1.path==p)=true:=by simp[h1,h2]
   rw[if_pos ⟨h1,by rw[h2];exact Nz p⟩,if_pos h2,e,if_pos rfl];exact Vh (k:=Dp k (Az l).2) (k':=k) rfl _ _
  ·have e:((Az l).1.arg==a&&(Az l).1.path==p)=false:=by simp[h2]
   rw[if_neg h2,e,if_neg Bool.false_ne_true];split<;>rfl
 ·have e:((Az l).1.arg==a&&(Az l).1.path==p)=false:=by simp[h1]
  rw[if_neg (fun h=>h1 h.1),e,if_neg Bool.false_ne_true]
def NL (a:Int) (p:List Int): ∀(ls:List Fact) (k k':Kn),FF k=FF k'→FF (ls.foldl (DH a p) k)=FF (Ek (ls.filter (Gs a p)) k')
 | [],k,k',h=>h
 | l ::r,k,k',h=>by
   rw[List.foldl_cons,List.filter_cons];have e:=cQ a p k l;split
   ·rename_i ho
    rw[if_pos ho]at e;exact NL a p r _ _ (e.trans (Vh h _ _))
   ·rename_i ho
    rw[if_neg (by simpa using ho)]at e;exact NL a p r _ _ (e.trans h)
def OQ (ls:List Fact) (a:Int) (p:List Int):FF (kn ls a p)=FF (Ek (ls.filter (Gs a p)) k0):=NL a p ls k0 k0 rfl
def oX (x:Fact×Bool):Bool:= !(x.1.op==2)||(decide (x.1.cls > 1)==x.2)
def ae (x:Fact×Bool) (k:Kn):HP x (k.low,k.high,k.no)=if oX x then some ((Cu k x.1 x.2).low,(Cu k x.1 x.2).high,(Cu k x.1 x.2).no)else none:=by
 unfold HP oX Cu;by_cases h2:x.1.op=2
 ·rw[if_pos h2,if_pos h2]
  cases x.2<;>cases decide (x.1.cls > 1)<;>simp[h2]
 ·rw[if_neg h2,if_neg h2]
  by_cases h3:x.1.op=3
  ·rw[if_pos h3,if_pos h3]
   cases x.2<;>simp[h2]
  ·rw[if_neg h3,if_neg h3]
   cases x.2<;>simp[h2]
def SD: ∀(os:List Fact) (k:Kn),foldI os (k.low,k.high,k.no)=if os.all (fun l=>oX (Az l))then some ((Ek os k).low,(Ek os k).high,(Ek os k).no)else none
 | [],k=>rfl
 | l ::r,k=>by
   rw[foldI,ae,NS];cases hb:oX (Az l)with
   | false=>rfl
   | true=>
     rw[if_pos rfl,Option.bind_some,SD r,Il];rfl
def jG (k:Kn) (f:Fact) (c:Bool) (b:Nat):(Cu k f c).CE.testBit b=(k.CE.testBit b||(f.op==2&& !c&&f.cls.toNat==b)):=by
 unfold Cu;by_cases h2:f.op=2
 ·rw[if_pos h2]
  cases c<;>simp[h2,Nat.testBit_or,Nat.testBit_two_pow,Bool.beq_eq_decide_eq]
 ·rw[if_neg h2]
  have:(f.op==2)=false:=by simpa using h2
  rw[this]
  repeat' split
  all_goals simp
def mj (k:Kn) (f:Fact) (c:Bool) (b:Nat):(Cu k f c).Ga.testBit b=(k.Ga.testBit b||(f.op==2&&c&&f.cls.toNat==b)):=by
 unfold Cu;by_cases h2:f.op=2
 ·rw[if_pos h2]
  cases c<;>simp[h2,Nat.testBit_or,Nat.testBit_two_pow,Bool.beq_eq_decide_eq]
 ·rw[if_neg h2]
  have:(f.op==2)=false:=by simpa using h2
  rw[this]
  repeat' split
  all_goals simp
def cj (k:Kn) (f:Fact) (c:Bool):(Cu k f c).whole=(k.whole||(!c&& !(f.op==2))):=by
 unfold Cu;by_cases h2:f.op=2
 ·rw[if_pos h2]
  cases c<;>simp[h2]
 ·rw[if_neg h2]
  have:(f.op==2)=false:=by simpa using h2
  rw[this];cases c<;>(repeat' split)<;>simp_all
def NO: ∀(os:List Fact) (k:Kn) (b:Nat),(Ek os k).CE.testBit b=(k.CE.testBit b||os.any fun l=>(Az l).1.op==2&& !(Az l).2&&(Az l).1.cls.toNat==b)
 | [],k,b=>by simp[Ek]
 | l::r,k,b=>by
   have:=NO r (Cu k (Az l).1 (Az l).2) b;rw[jG]at this;rw[Qb,←Bool.or_assoc,←this];rfl
def Pg: ∀(os:List Fact) (k:Kn) (b:Nat),(Ek os k).Ga.testBit b=(k.Ga.testBit b||os.any fun l=>(Az l).1.op==2&&(Az l).2&&(Az l).1.cls.toNat==b)
 | [],k,b=>by simp[Ek]
 | l::r,k,b=>by
   have:=Pg r (Cu k (Az l).1 (Az l).2) b;rw[mj]at this;rw[Qb,←Bool.or_assoc,←this];rfl
def Ku: ∀(os:List Fact) (k:Kn),(Ek os k).whole=(k.whole||os.any fun l=> !(Az l).2&& !((Az l).1.op==2))
 | [],k=>by simp[Ek]
 | l::r,k=>by
   have:=Ku r (Cu k (Az l).1 (Az l).2);rw[cj]at this;rw[Qb,←Bool.or_assoc,←this];rfl
def Qc (m up:Nat):Bool:=(List.range 64).all fun b=> !m.testBit b||up.testBit b
def PI {m up:Nat} (hm:m<2 ^ 64):Qc m up=true↔ ∀b,m.testBit b=true→up.testBit b=true:=by
 simp only[Qc,Em,List.mem_range,Fo,Bool.not_eq_true'];constructor
 ·intro h b hb
  have hlt:b<64:=by
   rcases Nat.lt_or_ge b 64 with h'|h'
   ·exact h'
   ·rw[Nat.testBit_lt_two_pow (Nat.lt_of_lt_of_le hm (Nat.pow_le_pow_right (by decide) h'))]at hb;cases hb
  rcases h b hlt with h'|h'
  ·rw[hb]at h';cases h'
  ·exact h'
 ·intro h b _
  cases hb:m.testBit b with
  | false=>exact .inl rfl
  | true=>exact .inr (h b hb)
def Pe {m n:Nat}:(m&&&n==0)=true↔ ∀b,m.testBit b=true→n.testBit b=true→False:=by
 rw[D9];constructor
 ·intro h b h1 h2
  have:=congrArg (fun x=>x.testBit b) h;simp[Nat.testBit_and,h1,h2]at this
 ·intro h
  refine Nat.eq_of_testBit_eq fun b=>?_
  rw[Nat.testBit_and,Nat.zero_testBit];cases h1:m.testBit b with
  | false=>rfl
  | true=>
    cases h2:n.testBit b with
    | false=>rfl
    | true=>exact(h b h1 h2).elim
def TI (c b:Nat):(1|||2 ^ c).testBit b=(b==0||b==c):=by
 rw[Nat.testBit_or,Nat.testBit_two_pow,show(1:Nat)=2 ^ 0 from rfl,Nat.testBit_two_pow];rw[JU];simp only[Fo,Cn,D9];omega
def I0 (n:Nat) (ls:List Fact):Prop:= ∀l∈ls,(Az l).1.op=2→0≤(Az l).1.cls∧(Az l).1.cls<n
def P9 {m n:Nat} (h: ∀b,m.testBit b=true→b<n):m<2 ^ n:=by
 refine Nat.lt_pow_two_of_testBit _ fun i hi=>?_
 cases hb:m.testBit i with
 | false=>rfl
 | true=>have:=h i hb;omega
def TW {os:List Fact} {n:Nat} (h:I0 n os):(Ek os k0).CE<2 ^ n:=P9 fun b hb=>by
 rw[NO]at hb;simp only[k0,Nat.zero_testBit,Bool.false_or,Jy,BJ,D9]at hb;obtain⟨l,hl,⟨h2,-⟩,rfl⟩:=hb;have:=h l hl h2;omega
def qC {os:List Fact} {n:Nat} (h:I0 n os):(Ek os k0).Ga<2 ^ n:=P9 fun b hb=>by
 rw[Pg]at hb;simp only[k0,Nat.zero_testBit,Bool.false_or,Jy,BJ,D9]at hb;obtain⟨l,hl,⟨h2,-⟩,rfl⟩:=hb;have:=h l hl h2;omega
def Ls {os:List Fact} {b:Nat}:(Ek os k0).CE.testBit b=true↔ ∃l∈os,(Az l).1.op=2∧(Az l).2=false∧(Az l).1.cls.toNat=b:=by
 rw[NO];simp only[k0,Nat.zero_testBit,Bool.false_or,Jy,BJ,D9,Bool.not_eq_true',and_assoc]
def ZA {os:List Fact} {b:Nat}:(Ek os k0).Ga.testBit b=true↔ ∃l∈os,(Az l).1.op=2∧(Az l).2=true∧(Az l).1.cls.toNat=b:=by
 rw[Pg];simp only[k0,Nat.zero_testBit,Bool.false_or,Jy,BJ,D9,and_assoc]
def bD {os:List Fact} {n:Nat} (hn:n≤64) (h:I0 n os):(Qc (Ek os k0).CE (1|||2 ^ 1)&&((Ek os k0).Ga&&&(1|||2 ^ 1)==0))=os.all fun l=>oX (Az l):=by
 rw[JU,BJ,PI (Nat.lt_of_lt_of_le (TW h) (Nat.pow_le_pow_right (by decide) hn)),Pe];simp only[Ls,ZA,TI,Em,oX,Fo,Bool.not_eq_true',beq_eq_false_iff_ne,D9,ne_eq];constructor
 ·rintro⟨h1,h2⟩ l hl
  by_cases ho:(Az l).1.op=2
  ·right
   have hc:=h l hl ho;cases hb:(Az l).2 with
   | false=>
     have:=h1 _ ⟨l,hl,ho,hb,rfl⟩;rw[decide_eq_false_iff_not];omega
   | true=>
     rw[Cn];rcases Int.lt_or_le 1 (Az l).1.cls with hlt|hle
     ·exact hlt
     ·exact(h2 _ ⟨l,hl,ho,hb,rfl⟩ (by omega)).elim
  ·exact .inl ho
 ·intro h1
  constructor
  ·rintro b ⟨l,hl,ho,hb,rfl⟩
   rcases h1 l hl with h'|h'
   ·exact absurd ho h'
   ·have hc:=h l hl ho
    rw[hb,decide_eq_false_iff_not]at h';omega
  ·rintro b ⟨l,hl,ho,hb,rfl⟩ hu
   rcases h1 l hl with h'|h'
   ·exact absurd ho h'
   ·have hc:=h l hl ho
    rw[hb,Cn]at h';omega
def aY (x:Fact×Bool):(!IW x)=true↔(x.2=false→x.1.op=2∧(x.1.cls=0∨x.1.cls=2))∧(x.2=true→ ¬(x.1.op=2∧(x.1.cls=0∨x.1.cls=2))):=by
 have e:(x.1.op==2&&(x.1.cls==0||x.1.cls==2))=true↔x.1.op=2∧(x.1.cls=0∨x.1.cls=2):=by
  simp only[BJ,Fo,D9]
 rw[←e,IW];generalize (x.1.op==2&&(x.1.cls==0||x.1.cls==2))=y;cases x.2<;>cases y<;>simp
def aT {os:List Fact}:(!(Ek os k0).whole)=true↔ ∀l∈os,(Az l).2=false→(Az l).1.op=2:=by
 rw[Ku,Bool.not_eq_true',←Bool.not_eq_true];simp only[k0,Bool.false_or,Jy,BJ,Bool.not_eq_true',beq_eq_false_iff_ne];constructor
 ·intro h l hl hb
  rcases Classical.em ((Az l).1.op=2)with e|e
  ·exact e
  ·exact absurd ⟨l,hl,hb,e⟩ h
 ·rintro h ⟨l,hl,hb,e⟩
  exact e (h l hl hb)
def Xi {os:List Fact} {n:Nat} (hn:n≤64) (h:I0 n os):(!(Ek os k0).whole&&(Qc (Ek os k0).CE (1|||2 ^ 2)&&((Ek os k0).Ga&&&(1|||2 ^ 2)==0)))=os.all fun l=> !IW (Az l):=by
 rw[JU,BJ,BJ,PI (Nat.lt_of_lt_of_le (TW h) (Nat.pow_le_pow_right (by decide) hn)),Pe,aT,Em];simp only[Ls,ZA,TI,Fo,D9,aY];constructor
 ·rintro⟨h0,h1,h2⟩ l hl
  refine⟨fun hb=>?_,fun hb ⟨ho,hc⟩=>h2 _ ⟨l,hl,ho,hb,rfl⟩ (by omega)⟩;have ho:=h0 l hl hb;have hc:=h l hl ho;have:=h1 _ ⟨l,hl,ho,hb,rfl⟩;exact⟨ho,by omega⟩
 ·intro h1
  refine⟨fun l hl hb=>((h1 l hl).1 hb).1,?_,?_⟩
  ·rintro b ⟨l,hl,ho,hb,rfl⟩
   have:=((h1 l hl).1 hb).2;omega
  ·rintro b ⟨l,hl,ho,hb,rfl⟩ hu
   have hc:=h l hl ho;exact(h1 l hl).2 hb ⟨ho,by omega⟩
def Mz {no:List Int}: ∀(k:Nat) (m:Int),(Si no k m).isSome=true↔ ∃j:Nat,j<k∧m+j∉no
 | 0,m=>by simp[Si]
 | k + 1,m=>by
   rw[Si];split
   ·rename_i h
    simp only[Option.isSome_some,true_iff];refine⟨0,by omega,fun hm=>?_⟩;rw[Em]at h;have:=h _ hm;simp at this
   ·rename_i h
    rw[Mz k]
    have hm:m∈no:=by
     rcases Classical.em (m∈no)with h'|h'
     ·exact h'
     ·refine absurd (Em.2 fun x hx=>?_) h
      rw[xR];rintro rfl;exact h' hx
    constructor
    ·rintro⟨j,hj,h'⟩
     exact⟨j+1,by omega,by rw[show m+((j+1:Nat):Int)=m+1+j by omega];exact h'⟩
    ·rintro⟨j,hj,h'⟩
     cases j with
     | zero=>simp at h';exact absurd hm h'
     | succ j=>exact⟨j,by omega,by rw[show m+1+(j:Int)=m+((j+1:Nat):Int) by omega];exact h'⟩
def gV {low high n:Int} {no:List Int} (h0:low≤n) (h1:n∉no) (h2: ∀m,low≤m→m<n→m∈no):(Ot (low,high,no)).isSome=decide (n≤high):=by
 rw[JU,Ot,Mz,Cn];constructor
 ·rintro⟨j,hj,h⟩
  rcases Int.lt_or_le (low+j) n with hlt|hle
  ·exact absurd (h2 _ (by omega) hlt) h
  ·simp only at hj;omega
 ·intro h
  refine⟨(n - low).toNat,by simp only;omega,?_⟩;rw[show low+((n - low).toNat:Int)=n by omega];exact h1
end Go.Gl
