import Derived.Test.YtijbpgdmpejgoaaGreatW11
set_option linter.all false
set_option linter.defProp false
noncomputable section
namespace Go.Gl
open Go.Proofs
attribute [local irreducible] BD Aw Ai AU AO Ah AV AW AN Ag AS AT Ay A9 Sat Ab A4 Aj W
def E6 (p:Prog) (next:Bool) (n size depth:Int) (s:List Int):Option (List Int):=
 if n<0∨(p.nodes.length:Int)≤n∨0≤s.getD n.toNat 0∨12<depth then none else
 match p.nodes[n.toNat]? with
 | none=>none
 | some x=>if D4 p next size x then some (s.set n.toNat size)else none
def Y1 {S:Type}:Option S→Rd S
 | some s=> .go s
 | none=> .Cw Dn
abbrev tS (y:Int×Int×Int):List V:=[eI y.1,.a [eI y.2.1,eI y.2.2]]
abbrev hOut (nO:Nat) (v:V) (s:List Int):List At:=[.box nO [v],.own v 1 (iL s)]
abbrev dP (p:Prog) (y:Int×Int×Int) (s:List Int):Prop:=0≤y.2.1∧y.2.1≤100∧1≤y.2.2∧y.2.2≤13∧s.length=p.nodes.length
abbrev UF (p:Prog) (L nW:Nat):V:= .f (.func 214) [] [.rp [.f (.yield L) [] []],.rp (BN p),.p nW 0]
def Ue {p:Prog} {next:Bool} {n size depth:Int} {s s':List Int} (h:E6 p next n size depth s=some s'):0≤n∧n<(p.nodes.length:Int)∧s.getD n.toNat 0<0∧depth≤12∧ ∃x,p.nodes[n.toNat]? =some x∧D4 p next size x=true∧s'=s.set n.toNat size:=by
 unfold E6 at h;split at h
 ·cases h
 ·rename_i hc
  split at h
  ·cases h
  ·rename_i x hx
   split at h
   ·rename_i hok
    simp only[Hp]at h;exact⟨by omega,by omega,by omega,by omega,x,hx,hok,h.symm⟩
   ·cases h
def Ud {p:Prog} {next:Bool} {d:Nat} {n size depth:Int} {s:List Int} (hd:depth=13 - (d+1:Nat)) (hd1:1≤depth):CG p next (d+1) n size s=match E6 p next n size depth s with
    | none=>none
    | some s'=>match p.nodes[n.toNat]? with
      | none=>none
      | some x=>FM (CG p next d) x.op size 0 x.kids s':=by
 unfold E6;simp only[CG];by_cases h:n<0∨(p.nodes.length:Int)≤n∨0≤s.getD n.toNat 0
 ·rw[if_pos h,if_pos (by omega)]
 ·rw[if_neg h,if_neg (by omega)]
  cases hx:p.nodes[n.toNat]? with
  | none=>rfl
  | some x=>
    simp only;split
    ·rfl
    ·rfl
def Uf {p:Prog} {next:Bool} {n size depth:Int} {s:List Int} (hd:12<depth):E6 p next n size depth s=none:=by
 unfold E6;rw[if_pos (by omega)]
def Pp {f:Int→Int→List Int→Option (List Int)} (hf: ∀ {a b s s'},f a b s=some s'→s'.length=s.length) {op size:Int}: ∀(i:Nat) (l:List Int) {s s':List Int},FM f op size i l s=some s'→s'.length=s.length
 | _,[],s,s',h=>by cases h;rfl
 | i,k::r,s,s',h=>by
   simp only[FM]at h;split at h
   ·cases h
   ·rename_i s1 h1
    exact(Pp hf (i+1) r h).trans (hf h1)
def Iu {p:Prog} {next:Bool}: ∀(d:Nat) {n size:Int} {s s':List Int},CG p next d n size s=some s'→s'.length=s.length
 | 0,_,_,_,_,h=>by cases h
 | d + 1,n,size,s,s',h=>by
   simp only[CG]at h;split at h
   ·cases h
   ·split at h
    ·cases h
    ·split at h
     ·exact(Pp (fun h=>Iu d h) 0 _ h).trans (by simp)
     ·cases h
set_option maxHeartbeats 4000000 in
def dD (p : Prog) (next:Bool) {L:Nat} {E:Env} {ok:FuncId→Array Tmp→Code→Code→Nat→Prop} {v:V} {nO:Nat}
    (hY:LS Tryz.prog L E ok tS (hOut nO v) (fun s=>s.length=p.nodes.length) (fun y s=>Y1 (E6 p next y.1 y.2.1 y.2.2 s)) (dP p)) :
    ∀ d : Nat,d≤12→ ∀(n size depth:Int) (s:List Int),depth=13 - d→0≤size→size+d≤100→s.length=p.nodes.length→ ∀(nW:Nat) (rest:List At) (σ:AH),
      Sat σ (.obj L (.loop .ready E ok)::(hOut nO v s++(.box nW [UF p L nW]::rest)))→
      BD Tryz.prog 214 [eI n,.a [eI size,eI depth],.rp [.f (.yield L) [] []],.rp (BN p),.p nW 0] σ
       (cn L E ok (hOut nO v) (fun s=>s.length=p.nodes.length) (.box nW [UF p L nW]::rest) (.b true) (.b false) (Y1 (CG p next d n size s))):=by
 intro d
 induction d with
 | zero=>
   intro _ n size depth s hd h0 h1 hl nW rest σ hs;refine Zs kZ ?_
   conv=>whnf
   repeat'((first|apply st|(apply sq;intro K U)|(apply si;intro A B Y Z)|(apply Y;clear Z B Y A)|(apply U;clear U K)|refine⟨kZ,?_⟩|fail)<;>conv=>whnf)
   refine hY.use (y:=(n,size,depth)) (s:=s) ⟨h0,(by dsimp only;omega),(by dsimp only;omega),(by dsimp only;omega),hl⟩ hs ?_;rw[Uf (by dsimp only;omega)];rintro r σ' ⟨rfl,s',hj,hs'⟩
   conv=>whnf
   repeat'((first|(refine Z _ _ _ ?_;clear Z B Y A)|clear U K)<;>conv=>whnf)
   exact DI ⟨rfl,s',hj,hs'⟩
 | succ d ih =>
   intro hd12 n size depth s hd h0 h1 hl nW rest σ hs;refine BD.fit (by kernel_rfl) fun hf=>?_
   have hM:=Mx
   have hfp:Eu (.a (BN p)):=by
    have:=hf.2.2.2.1;simp only[RI]at this;simpa only[HS]using this
   have⟨p1,p2,p3,p4⟩:=GQ hfp;refine Zs kZ ?_
   conv=>whnf
   repeat'((first|apply st|(apply sq;intro K U)|(apply si;intro A B Y Z)|(apply Y;clear Z B Y A)|(apply U;clear U K)|refine⟨kZ,?_⟩|fail)<;>conv=>whnf)
   refine hY.use (y:=(n,size,depth)) (s:=s) ⟨h0,(by dsimp only;omega),(by dsimp only;omega),(by dsimp only;omega),hl⟩ hs ?_;have hw:=Ud (p:=p) (next:=next) (n:=n) (size:=size) (s:=s) hd (by omega);cases hv:E6 p next n size depth s with
   | none=>
     rw[hv]at hw;rintro r σ' ⟨rfl,s',hj,hs'⟩
     conv=>whnf
     repeat'((first|(refine Z _ _ _ ?_;clear Z B Y A)|clear U K)<;>conv=>whnf)
     refine DI ?_;rw[hw];exact⟨rfl,s',hj,hs'⟩
   | some s1 =>
     obtain⟨g0,g1,g2,g3,x,hx,hok,hs1⟩:=Ue hv;rw[hv]at hw;simp only[hx]at hw;have hl1:s1.length=p.nodes.length:=by rw[hs1];simpa using hl
     have hkm:=Zn hfp (Cg hx);clear hv hs1;rintro r σ1 ⟨rfl,hs⟩
     conv=>whnf
     repeat'((first|apply st|(apply sq;intro K U)|(apply si;intro A B Y Z)|(apply Y;clear Z B Y A)|(apply U;clear U K)|refine ID ?_|refine EM ?_|fail)<;>conv=>whnf)
     refine CZ x.kids.length (fun k (_:List Int)=>[(23,eI (BH k))]) (fun _ s'=> .obj L (.loop .ready E ok)::(hOut nO v s'++(.box nW [UF p L nW]::rest))) (fun k s'=>s'.length=p.nodes.length∧CG p next (d+1) n size s=FM (CG p next d) x.op size k (x.kids.drop k) s') s1 rfl ⟨hl1,by simpa using hw⟩ hs ?_;clear hs hw;rintro k s' σ hk ⟨hl',hkids⟩ hs;rcases BM x.kids hk with⟨kid,hkid,hlt⟩|hke
     ·have hck:BH k=k:=AM (by omega)
      rw[drop_cons hkid,FM]at hkids;have e0:IntKind.i64.wrap (depth+1)=depth+1:=wrap64 (by omega) (by omega);have e1:IntKind.i64.wrap (size+1)=size+1:=wrap64 (by omega) (by omega)
      have hrec: ∀(sz:Int) (σ:AH) (l:List At),0≤sz→sz+d≤100→Sat σ (l++(.obj L (.loop .ready E ok)::(hOut nO v s'++(.box nW [UF p L nW]::rest))))→Ay Tryz.prog (UF p L nW) [eI kid,.a [eI sz,eI (depth+1)]] σ
       (cn L E ok (hOut nO v) (fun s=>s.length=p.nodes.length) (.box nW [UF p L nW]::rest) (.b true) (.b false) (Y1 (CG p next d kid sz s'))):=fun sz σ l h0 h1 hs=>
       Bk (ih (by omega) kid sz (depth+1) s' (by omega) h0 h1 hl' nW rest σ (hs.less (List.sublist_append_right _ _)))
      conv=>whnf
      repeat'((first|apply st|(apply sq;intro K U)|(apply si;intro A B Y Z)|(apply Y;clear Z B Y A)|(apply U;clear U K)|refine⟨rfl,?_⟩|refine⟨kZ,?_⟩|refine ix ?_|refine ID ?_|refine ld ?_|refine EV fun σ hs=>?_|refine DT fun σ hs=>?_|(refine Cv (fun hc=>?_)<;>(try rw[hc])<;>clear hc)|(constructor<;>intro hc<;>(try rw[hc])<;>(replace hc:=bp hc)<;>(try simp(disch:=omega) only[BR,wrap64,AM]at hc))|(intro nn hnn;generalize hg:A7 _ nn _=σ;refine CY hg fun hs=>?_;clear hg)|fail)<;>conv=>whnf)
      all_goals
       simp only[e0,e1]
       first
        | rw[if_pos (by omega)]at hkids
          refine(hrec (size+1) _ [_] (by omega) (by omega) hs).mono ?_
        | rw[if_neg (by omega)]at hkids
          refine(hrec size _ [_] (by omega) (by omega) hs).mono ?_
       cases hw:CG p next d kid _ s' with
       | none=>
         rw[hw]at hkids;rintro r σ' ⟨rfl,s',hj,hs'⟩
         conv=>whnf
         repeat'((first|(refine Z _ _ _ ?_;clear Z B Y A)|clear U K)<;>conv=>whnf)
         refine DI ?_;rw[hkids];exact⟨rfl,s',hj,hs'⟩
       | some s2=>
         rw[hw]at hkids;rintro r σ' ⟨rfl,hs'⟩
         conv=>whnf
         repeat'((first|apply st|(apply si;intro A B Y Z)|(apply Y;clear Z B Y A)|(apply U;clear U K)|refine⟨rfl,?_⟩|refine EM ?_|clear U K)<;>conv=>whnf)
         exact⟨hlt,s2,rfl,⟨(Iu _ hw).trans hl',hkids⟩,hs'⟩
     ·rw[Ap hke,FM]at hkids
      conv=>whnf
      repeat'((first|apply st|(apply sq;intro K U)|(apply si;intro A B Y Z)|(apply Y;clear Z B Y A)|(apply U;clear U K)|refine⟨rfl,?_⟩|(refine EI (fun hc=>?_)<;>(try rw[hc])<;>clear hc)|clear U K)<;>conv=>whnf)
      refine AQ ?_;rw[hkids];exact⟨rfl,hs⟩
def gi {a b:Nat} {A B:Prop} (e:a=b) (h:A):(a=b→A)∧(a≠b→B):=⟨fun _=>h,fun n=>absurd e n⟩
def tZ {a b:Nat} {A B:Prop} (e:a≠b) (h:B):(a=b→A)∧(a≠b→B):=⟨fun n=>absurd n e,fun _=>h⟩
def aN {P:Program} {σ:AH} {tab:List (TypeId×FuncId)} {t:TypeId} {f:FuncId} {v:V} {args:List V} {Q:R→AH→Prop} (h:look t tab=some f) (hc:BD P f (v::args) σ Q):A9 P tab (.J1 t v) args σ Q:=by
 unfold A9;simp only[h];exact hc
def cB (p:Prog) (n size depth:Int):Pure Tryz.prog 167 [.a (BN p),eI n,.a [eI size,eI depth]] (.f (.func 213) [] [.rp (BN p),.rp [eI n],.rp [eI size,eI depth]]):=by
 refine lT kZ ?_;have hs:=Sn
 conv=>whnf
 repeat'((first|apply st|(apply sq;intro K U)|(apply si;intro A B Y Z)|(apply Y;clear Z B Y A)|(apply U;clear U K)|fail)<;>conv=>whnf)
 all_goals exact AI rfl
set_option maxHeartbeats 4000000 in
def jZ (p:Prog) (next:Bool) {L:Nat} {E:Env} {ok:FuncId→Array Tmp→Code→Code→Nat→Prop} {v:V} {nO:Nat}
    (hY:LS Tryz.prog L E ok tS (hOut nO v) (fun s=>s.length=p.nodes.length) (fun y s=>Y1 (E6 p next y.1 y.2.1 y.2.2 s)) (dP p)) (n size:Int) (s:List Int) (h0:0≤size) (h1:size≤20) (hl:s.length=p.nodes.length) (rest:List At) (σ:AH)
    (hs : Sat σ (.obj L (.loop .ready E ok)::(hOut nO v s++rest))) :
     BD Tryz.prog 213 [.f (.yield L) [] [],.rp (BN p),.rp [eI n],.rp [eI size,eI 1]] σ
      (cn L E ok (hOut nO v) (fun s=>s.length=p.nodes.length) rest (.t []) (.t []) (Y1 (CG p next 12 n size s))):=by
 refine kk kZ ?_
 conv=>whnf
 repeat'((first|apply st|(apply sq;intro K U)|(apply si;intro A B Y Z)|(apply Y;clear Z B Y A)|(apply U;clear U K)|refine⟨kZ,?_⟩|refine ld ?_|refine EV fun σ hs=>?_|(intro nn hnn;generalize hg:A7 _ nn _=σ;refine CY hg fun hs=>?_;clear hg)|fail)<;>conv=>whnf)
 have hp:Sat σ (.obj L (.loop .ready E ok)::(hOut nO v s++(.box nn [UF p L nn]::rest))):=hs.perm (by
  refine(List.Perm.swap _ _ _).trans (.cons _ ?_)
  exact(List.perm_middle (l₁:=hOut nO v s)).symm)
 refine Bk ((dD p next hY 12 (IE _) n size 1 s rfl h0 (by omega) hl nn rest σ hp).mono ?_);cases hw:CG p next 12 n size s with
 | none=>
   rintro r σ' ⟨rfl,s',hj,hs'⟩
   conv=>whnf
   repeat'((first|(refine Z _ _ _ ?_;clear Z B Y A)|fail)<;>conv=>whnf)
   refine DI ?_;rw[hw];exact⟨rfl,s',hj,hs'.less (List.Sublist.append_left (JR _ _) _)⟩
 | some s2=>
   rintro r σ' ⟨rfl,hs'⟩
   conv=>whnf
   repeat'((first|(apply Y;clear Z B Y A)|fail)<;>conv=>whnf)
   refine AQ ?_;rw[hw];exact⟨rfl,hs'.less (.cons₂ _ (List.Sublist.append_left (JR _ _) _))⟩
def Ta (p:Prog) (x:Node):(x.op=5∧PL x.op= .J1 207 (.a []))∨(x.op≠5∧ ∃m:Int,PL x.op= .J1 205 (eI m)∧IP p x=m)∨(PL x.op= .IB∧IP p x= -1):=by
 unfold PL IP;by_cases h5:x.op=5
 ·exact .inl ⟨h5,by rw[if_pos h5]⟩
 ·rw[if_neg h5]
  split
  ·exact .inr (.inl ⟨h5,_,rfl,rfl⟩)
  split
  ·exact .inr (.inl ⟨h5,_,rfl,rfl⟩)
  split
  ·exact .inr (.inl ⟨h5,_,rfl,rfl⟩)
  split
  ·exact .inr (.inl ⟨h5,_,rfl,rfl⟩)
  ·exact .inr (.inr ⟨rfl,by rw[if_neg (by rintro⟨h,_⟩;exact h5 h)]⟩)
def RD {p:Prog} {x:Node} (h:x.op=5) {size:Int} (hn:LF p x size=true):0≤x.n∧x.n<p.CM.length∧IP p x=p.CM.getD x.n.toNat 0:=by
 have h2:0≤x.n∧x.n<p.CM.length:=by
  simp only[LF,h]at hn;simpa using hn
 refine⟨h2.1,h2.2,?_⟩;unfold IP;rw[h,if_neg (by decide),if_neg (by decide),if_neg (by decide),if_neg (by decide),if_pos ⟨rfl,h2.1,h2.2⟩]
def aT {p:Prog} {next:Bool} {n size depth:Int} {s:List Int} (h:n<0∨(p.nodes.length:Int)≤n∨0≤s.getD n.toNat 0∨12<depth):E6 p next n size depth s=none:=by
 unfold E6;rw[if_pos h]
def aU {p:Prog} {next:Bool} {n size depth:Int} {s:List Int} {y:Int} {x:Node} (h0:0≤n) (h1:n<(p.nodes.length:Int)) (hy:s[n.toNat]? =some y) (hy0:y<0) (hd:depth≤12) (hx:p.nodes[n.toNat]? =some x):E6 p next n size depth s=if D4 p next size x then some (s.set n.toNat size)else none:=by
 have e:s.getD n.toNat 0=y:=by rw[DS,hy];rfl
 unfold E6;rw[if_neg (by rw[e];omega),hx]
def pq (p:Prog) (nO:Nat) (v:V) (rest:List At) (o:Option (List Int)) (r:R) (σ:AH):Prop:=
 match o with
 | some s=>r= .ret (.t [])∧Sat σ (hOut nO v s++rest)
 | none=>r= .Cw Dn∧ ∃s:List Int,s.length=p.nodes.length∧Sat σ (hOut nO v s++rest)
set_option maxHeartbeats 4000000 in
def RK (p:Prog) (next:Bool) {v:V} {nO:Nat} (hv:(Cb v).isSome=true) (n size:Int) (s:List Int) (h0:0≤size) (h1:size≤20) (hl:s.length=p.nodes.length) (rest:List At) (σ:AH) (hs:Sat σ (hOut nO v s++rest)) :
    BD Tryz.prog 166 [eI n,eI size,.b next,.rp (BN p),.p nO 0] σ (pq p nO v rest (CG p next 12 n size s)):=by
 refine BD.fit (by kernel_rfl) fun hf=>?_
 have hM:=Mx
 have hfp:Eu (.a (BN p)):=by
  have:=hf.2.2.2.1;simp only[RI]at this;simpa only[HS]using this
 have⟨p1,p2,p3,p4⟩:=GQ hfp;refine lU kZ ?_
 conv=>whnf
 repeat'((first|apply st|(apply sq;intro K U)|(apply si;intro A B Y Z)|(apply Y;clear Z B Y A)|(apply U;clear U K)|refine⟨kZ,?_⟩|refine Pure.use (cB _ _ _ _) ?_|(intro nn hnn;generalize hg:A7 _ nn _=σ;refine CY hg fun hs=>?_;clear hg)|fail)<;>conv=>whnf)
 refine BD.mono (jZ p next (L:=nn) (v:=v) (nO:=nO) ?_ n size s h0 h1 hl rest σ hs) ?_
 ·refine MD (fun y=>rfl) ?_
  clear hs hnn hl h0 h1;rintro⟨k,sz,dp⟩ s ⟨d0,d1,d2,d3,hl⟩ rest σ hs;dsimp only at d0 d1 d2 d3 hl;dsimp only;rw[show tS (k,sz,dp)= [eI k,.a [eI sz,eI dp]] from rfl]
  conv=>whnf
  repeat'((first|apply st|(apply sq;intro K U)|(apply si;intro A B Y Z)|(apply Y;clear Z B Y A)|(refine Z _ _ _ ?_;clear Z B Y A)|(refine Z _ _ fun σ hsub=>?_;clear Z B Y A)|(apply U;clear U K)|apply dr|refine rk ?_ ?_|exact fun s e=>by cases e;rfl|refine⟨rfl,?_⟩|refine⟨kZ,?_⟩|refine iq fun x hx=>?_|refine ld ?_|refine DT fun σ hs=>?_|refine oi ?_|refine ol fun x hx=>?_|refine oset fun σ hs=>?_|refine FI ?_|refine EM ?_|(refine Cn (fun hc=>?_) (fun hc=>?_)<;>(replace hc:=bp hc)<;>(try simp(disch:=omega) only[BR,wrap64,AM]at hc)<;>(try(cases hc;done)))|refine Pure.use (Xp _ _ _) ?_|refine Pure.use (X0 _) ?_|(rcases Ta p (by assumption)with⟨e5,ek⟩|⟨e5,m,ek,hm⟩|⟨ek,hm⟩<;>rw[ek]<;>clear ek)|refine gi rfl ?_|refine tZ (by decide) ?_|refine aN rfl (Pure.use (nc _ _ _) ?_)|refine aN rfl (Pure.use (fI _ _ (RD (by assumption) (by assumption)).1 (RD (by assumption) (by assumption)).2.1) ?_)|(constructor<;>intro hc<;>(try rw[hc])<;>(replace hc:=bp hc)<;>(try simp(disch:=omega) only[BR,wrap64,AM]at hc))|(intro nn hnn;generalize hg:A7 _ nn _=σ;refine CY hg fun hs=>?_;clear hg)|clear U K)<;>conv=>whnf)
  all_goals first
   | (intro hn;refine Pe (s:=s) (by rw[aT (by first|omega|(rw[DS,‹s[k.toNat]? =some _›];simp only[Option.getD_some];omega))];rfl) hl (hs.less (by repeat first|exact List.Sublist.refl _|apply List.Sublist.cons)) hn)
   | skip
  all_goals
   have hva:=aU (next:=next) (size:=sz) (depth:=dp) (show 0≤k by omega) (show k<(p.nodes.length:Int) by omega) ‹s[k.toNat]? =some _› (by assumption) (by omega) ‹p.nodes[k.toNat]? =some _›
   rename Node=>x
   have hk5:x.op=5→LF p x sz=true→IP p x=p.CM.getD x.n.toNat 0:=fun h hn=>(RD h hn).2.2
   intro hn
  all_goals first
   | (rw[if_neg (by first|(intro h;rw[D4,hk5 (by assumption) (by assumption)]at h;simp only[BV,Du]at h;exact absurd h.1 (by assumption))|(simp[D4, *];done)|(simp[D4, *];omega)|(rw[D4,hk5 (by assumption) (by assumption)];simp[*];done)|(simp[D4, *];intros;omega))]at hva
      refine Pe (s:=s.set k.toNat sz) (by rw[hva];rfl) (by simpa using hl) ?_ hn
      first
       | exact hs.less (by repeat first|exact List.Sublist.refl _|apply List.Sublist.cons)
       | exact(hs.less (by repeat first|exact List.Sublist.refl _|apply List.Sublist.cons)).up (by assumption))
   | (rw[if_pos (by first|(simp[D4, *];done)|(rw[D4,hk5 (by assumption) (by assumption)];simp[*];done))]at hva
      exact Sp (s:=s.set k.toNat sz) (by rw[hva];rfl) (hs.less (by repeat first|exact List.Sublist.refl _|apply List.Sublist.cons)) hn)
 ·cases hw:CG p next 12 n size s with
  | none=>
    rintro r σ' ⟨rfl,s',hj,hs'⟩
    conv=>whnf
    exact DI ⟨rfl,s',hj,hs'⟩
  | some s2=>
    rintro r σ' ⟨rfl,hs'⟩;refine FR hs' fun σ2 hs2=>?_
    conv=>whnf
    exact AQ ⟨rfl,hs2⟩
def CH (w:AK):Prop:=Hu w.parents∧w.owner.length≤40∧ ∀o∈w.owner,(3:Int)≤o∧o<3+(w.parents.length:Int)
def T4 (us:List Nat) (l:List Int) (s:Nat):Nat:=l.foldl (fun s c=>s|||us.getD c.toNat 0) s
def Ce (g:List (List Int)):Nat→List Nat
 | 0=>[1,3,5]
 | k+1=>Ce g k++[T4 (Ce g k) (g.getD k []) (1|||2 ^ (3+k))]
def B2 (g:List (List Int)):List Nat:=Ce g g.length
def cu (us:List Nat):List V:=us.map eU++List.replicate (63 - us.length) (eU 0)
def wC (w:AK) (us:List Nat):List V:=BE w++cu us
def Eb (g:List (List Int)): ∀k,(Ce g k).length=3+k
 | 0=>rfl
 | k+1=>by simp[Ce,Eb g k];omega
def ZP (w:AK) {us:List Nat} (h:us.length≤63):(wC w us).length=65:=by
 simp only[wC,BE,cu,QP,Lt,List.length_nil,BR,List.length_replicate];omega
def ZO (w:AK) (us:List Nat) (s:Nat) (h:us.length<63):(wC w us).set (2+us.length) (eU s)=wC w (us++[s]):=by
 simp only[wC,cu];rw[List.set_append_right _ _ (by simp[BE])];congr 1;have e:2+us.length - (BE w).length=us.length:=by simp[BE]
 rw[e,List.set_append_right _ _ (by simp)];rw[BR,Nat.sub_self,Tu,T0];congr 1;rw[show 63 - us.length=(63 - (us++[s]).length)+1 by simp;omega,List.replicate_succ];rfl
def Vf (w:AK) (us:List Nat) {i:Nat} (h:i<us.length):(wC w us)[2+i]? =some (eU (us.getD i 0)):=by
 simp only[wC,cu];rw[List.getElem?_append_right (by simp[BE]),show 2+i - (BE w).length=i by simp[BE],cd (by simpa using h),PF,DZ h,DS,DZ h];rfl
def m7 (us:List Nat):Prop:= ∀u∈us,u<18446744073709551616
def LK {us:List Nat} (h:m7 us) (i:Nat):us.getD i 0<18446744073709551616:=by
 rw[DS];cases hx:us[i]? with
 | none=>simp
 | some x=>exact h x (Cg hx)
def Qx {us:List Nat} (h:m7 us): ∀(l:List Int) (s:Nat),s<18446744073709551616→T4 us l s<18446744073709551616
 | [],_,hs=>hs
 | c::r,s,hs=>Qx h r _ (J8 hs (LK h _))
def G5 (g:List (List Int)): ∀k,k≤60→m7 (Ce g k)
 | 0,_=>by intro u hu;simp[Ce]at hu;omega
 | k+1,hk=>by
   intro u hu;simp only[Ce,FX,K8]at hu;rcases hu with hu|rfl
   ·exact G5 g k (by omega) u hu
   ·exact Qx (G5 g k (by omega)) _ _ (J8 (by decide) (JY (by omega)))
def ic (w:AK) (us:List Nat) (c:Int) {n:Nat} (hM:w.parents.length≤60):Bc Tryz.prog 178 [.p n 0,eI c] [.box n (wC w us)] fun r post=>r= .ret (.b (decide (3≤c)&&decide (c<3+(w.parents.length:Int))))∧post= [.box n (wC w us)]:=by
 intro σ hs;have hw:IntKind.i64.wrap (3+((Ei w.parents).length:Nat))=3+(w.parents.length:Int):=by rw[BR,wrap64 (by omega) (by omega)]
 refine Zt kZ ?_
 conv=>whnf
 repeat'((first|apply st|(apply sq;intro K U)|(apply si;intro A B Y Z)|(apply Y;clear Z B Y A)|(apply U;clear U K)|refine⟨rfl,?_⟩|refine ld ?_|(constructor<;>intro hc<;>(try rw[hc])<;>(replace hc:=bp hc))|fail)<;>conv=>whnf)
 ·refine AQ ⟨_,⟨?_,rfl⟩,hs⟩
  rw[hw,decide_eq_true (show 3≤c by omega)];rfl
 ·refine AQ ⟨_,⟨?_,rfl⟩,hs⟩
  rw[decide_eq_false (show¬3≤c by omega)];rfl
def de (w:AK) (us:List Nat) (c:Int) (hM:w.parents.length≤60):Pure Tryz.prog 178 [.rp (wC w us),eI c] (.b (decide (3≤c)&&decide (c<3+(w.parents.length:Int)))):=by
 have hw:IntKind.i64.wrap (3+((Ei w.parents).length:Nat))=3+(w.parents.length:Int):=by rw[BR,wrap64 (by omega) (by omega)]
 refine Zt kZ ?_;have hs:=Sn
 conv=>whnf
 repeat'((first|apply st|(apply sq;intro K U)|(apply si;intro A B Y Z)|(apply Y;clear Z B Y A)|(apply U;clear U K)|refine⟨rfl,?_⟩|(constructor<;>intro hc<;>(try rw[hc])<;>(replace hc:=bp hc))|fail)<;>conv=>whnf)
 ·refine AI ?_
  rw[hw,decide_eq_true (show 3≤c by omega)];rfl
 ·refine AI ?_
  rw[decide_eq_false (show¬3≤c by omega)];rfl
def bw (w:AK) (us:List Nat) (c:Int) (hM:w.parents.length≤60):Pure Tryz.prog 222 [.rp (wC w us),eI c] (.b (M4 w c)):=by
 have hw:IntKind.i64.wrap (3+((Ei w.parents).length:Nat))=3+(w.parents.length:Int):=by rw[BR,wrap64 (by omega) (by omega)]
 refine kU kZ ?_;have hs:=Sn
 conv=>whnf
 repeat'((first|apply st|(apply sq;intro K U)|(apply si;intro A B Y Z)|(apply Y;clear Z B Y A)|(apply U;clear U K)|refine⟨rfl,?_⟩|(constructor<;>intro hc<;>(try rw[hc])<;>(replace hc:=bp hc))|fail)<;>conv=>whnf)
 ·refine AI ?_
  rw[hw,M4,decide_eq_true (show 0≤c by omega)];rfl
 ·refine AI ?_
  rw[M4,decide_eq_false (show¬0≤c by omega)];rfl
def dR (w:AK) (us:List Nat) (c:Int) (hM:w.owner.length≤60):Pure Tryz.prog 254 [.rp (wC w us),eI c] (.b (Gx w c)):=by
 refine kA kZ ?_;have hs:=Sn
 conv=>whnf
 repeat'((first|apply st|(apply sq;intro K U)|(apply si;intro A B Y Z)|(apply Y;clear Z B Y A)|(apply U;clear U K)|refine⟨rfl,?_⟩|(constructor<;>intro hc<;>(try rw[hc])<;>(replace hc:=bp hc))|fail)<;>conv=>whnf)
 ·refine AI ?_
  rw[Gx,decide_eq_true (show 0≤c by omega),BR];rfl
 ·refine AI ?_
  rw[Gx,decide_eq_false (show¬0≤c by omega)];rfl
def db (w:AK) (us:List Nat) (l:List Int) (f:Bool) (hM:w.owner.length≤60):Pure Tryz.prog 221 [.rp (wC w us),.l (iL l) f] (.b (EX w l)):=by
 have hall:=fM (g:=254) (fi:=[.rp (wC w us)]) (ca:=[]) (f:=Gx w) (xs:=l) f (fun y _=>dR w us y hM);refine kV kZ ?_;have hs:=Sn
 conv=>whnf
 repeat'((first|apply st|(apply sq;intro K U)|(apply si;intro A B Y Z)|(apply Y;clear Z B Y A)|(apply U;clear U K)|refine⟨rfl,?_⟩|(constructor<;>intro hc<;>(try rw[hc])<;>(replace hc:=bp hc)<;>(try simp(disch:=omega) only[BR,wrap64,AM]at hc))|refine Pure.use (by assumption) ?_|fail)<;>conv=>whnf)
 ·refine AI ?_
  rw[EX,decide_eq_true (show l.length≤2 by omega),Bool.and_true];rfl
 ·refine AI ?_
  rw[EX,decide_eq_false (show¬l.length≤2 by omega),Bool.and_false];rfl
def G4 (s:Nat) (c:Int) (hs0:s<18446744073709551616) (h0:0≤c) (hc:c<64):Pure Tryz.prog 176 [eU s,eI c] (eU (s|||2 ^ c.toNat)):=by
 have:=Vv s c.toNat hs0 (by omega);rw[Int.toNat_of_nonneg h0]at this;exact this
def vJ {k:Nat} (h:k<3):([1,3,5]:List Nat).take k++[1|||2 ^ k]= [1,3,5].take (k+1):=by
 rcases k with _|_|_|k
 ·rfl
 ·rfl
 ·rfl
 ·omega
set_option maxHeartbeats 4000000 in
def dh (w : AK) (hw:CH w):Pure Tryz.prog 139 [.a (BE w)] (.t [.rp (wC w (B2 w.parents)),.b true]):=by
 obtain⟨⟨hl,hrow⟩,ho,how⟩:=hw;have hM:=Mx;refine Pure.of ?_;refine mB kZ ?_;have hs:=Sn;have hi1:((Ei w.parents).length:Int)≤60:=by rw[BR];omega
 have hi2:((iL w.owner).length:Int)≤40:=by rw[BR];omega
 conv=>whnf
 repeat'((first|apply st|(apply sq;intro K U)|(apply si;intro A B Y Z)|(apply Y;clear Z B Y A)|(apply U;clear U K)|refine⟨rfl,?_⟩|refine⟨kZ,?_⟩|(constructor<;>intro hc<;>(try rw[hc])<;>(replace hc:=bp hc)<;>(try simp(disch:=omega) only[BR,wrap64,AM]at hc)<;>try(exfalso;omega))|(intro nn hnn;generalize hg:A7 _ nn _=σ;refine CY hg fun hs=>?_;clear hg)|fail)<;>conv=>whnf)
 generalize nn=n0 at *;refine CZ 3 (fun k (_:Unit)=>[(24,eI (BH k))]) (fun k _=>[.box n0 (wC w ([1,3,5].take k))]) (fun k _=>True) () rfl trivial hs ?_;clear hs;rintro k - σ hk - hs;have hck:BH k=k:=AM (by omega);have hlen:(([1,3,5]:List Nat).take k).length=k:=by simp;omega
 by_cases hlt:k<3
 ·have hst:=ZO w ([1,3,5].take k) (1|||2 ^ k) (by omega)
  rw[hlen,vJ hlt]at hst
  conv=>whnf
  repeat'((first|apply st|(apply sq;intro K U)|(apply si;intro A B Y Z)|(apply Y;clear Z B Y A)|(apply U;clear U K)|apply dr|refine⟨rfl,?_⟩|refine Tx ?_|refine Pure.use (G4 1 _ (by decide) (by omega) (by omega)) ?_|(constructor<;>intro hc<;>(try rw[hc])<;>(replace hc:=bp hc)<;>(try simp(disch:=omega) only[BR,wrap64,AM]at hc)<;>try(exfalso;omega))|fail)<;>conv=>whnf)
  refine HZ hs 0 rfl rfl (by rw[ZP w (by omega)];omega) fun σ hs=>?_
  conv=>whnf
  repeat'((first|(apply si;intro A B Y Z)|(apply Y;clear Z B Y A)|(apply U;clear U K)|apply dr|refine⟨rfl,?_⟩|clear U K)<;>conv=>whnf)
  refine⟨hlt,(),rfl,trivial,?_⟩;rw[hck,Jz,Nat.mul_one,Gf]at hs;simp only[List.set_cons_zero]at hs;rw[hst]at hs;exact hs
 ·have hke:k=3:=by omega
  subst hke;clear hk hck hlen hlt
  conv=>whnf
  repeat'((first|apply st|(apply sq;intro K U)|(apply si;intro A B Y Z)|(apply Y;clear Z B Y A)|(apply U;clear U K)|refine⟨rfl,?_⟩|(constructor<;>intro hc<;>(try rw[hc])<;>(replace hc:=bp hc)<;>(try simp(disch:=omega) only[BR,wrap64,AM]at hc)<;>try(exfalso;omega))|clear U K)<;>conv=>whnf)
  refine CZ w.parents.length (fun k (_:Unit)=>[(38,eI (BH k))]) (fun k _=>[.box n0 (wC w (Ce w.parents k))]) (fun k _=>True) () rfl trivial hs ?_;clear hs;rintro k - σ hk - hs;have hck:BH k=k:=AM (by omega);have hul:=Eb w.parents k;have huo:=G5 w.parents k (by omega);have hw3:IntKind.i64.wrap (3+(k:Int))=3+(k:Int):=wrap64 (by omega) (by omega);rcases BM w.parents hk with⟨row,hr,hlt⟩|hke
  ·obtain⟨r1,r2,r3⟩:=hrow k row hr
   rw[←hck]at hw3
   conv=>whnf
   repeat'((first|apply st|(apply sq;intro K U)|(apply si;intro A B Y Z)|(apply Y;clear Z B Y A)|(apply U;clear U K)|refine⟨rfl,?_⟩|refine ix ?_|(refine Cv (fun hc=>?_)<;>(try rw[hc])<;>clear hc)|refine Pure.use (G4 1 _ (by decide) (by omega) (by omega)) ?_|fail)<;>conv=>whnf)
   have hbig:m7 (Ce w.parents k):=huo;have hst0:IntKind.i64.wrap (3+BH k)=3+(k:Int):=by rw[hck];exact wrap64 (by omega) (by omega)
   have hs0lt:1|||2 ^ (3+k)<18446744073709551616:=J8 (by decide) (JY (by omega))
   have hs0e:1|||2 ^ (IntKind.i64.wrap (3+BH k)).toNat=1|||2 ^ (3+k):=by rw[hst0,show(3+(k:Int)).toNat=3+k by omega]
   rw[hs0e];refine CZ row.length (fun j (s:Nat)=>[(48,eI (BH j)),(8,eU s)]) (fun _ _=>[.box n0 (wC w (Ce w.parents k))]) (fun j s=>s=T4 (Ce w.parents k) (row.take j) (1|||2 ^ (3+k))) (1|||2 ^ (3+k)) rfl rfl hs ?_;clear hs;rintro j s σ hj hse hs;rcases BM row hj with⟨c,hcj,hjlt⟩|hje
   ·obtain⟨q1,q2⟩:=r3 c (Cg hcj)
    have hload:(wC w (Ce w.parents k))[0+2+c.toNat*1]? =some (eU ((Ce w.parents k).getD c.toNat 0)):=by
     have:=Vf w (Ce w.parents k) (i:=c.toNat) (by omega);rw[←this];congr 1;omega
    have hnc:(row.take j).contains c=false:=by
     rw[←Bool.not_eq_true,List.contains_iff_mem];intro hm;obtain⟨i,hi,he⟩:=List.mem_iff_getElem.1 hm;have hi':i<j:=by rw[K6]at hi;omega
     rw[List.getElem_take]at he;have hcj':=(H4.1 hcj).2;exact absurd ((List.getElem_inj r2).1 (he.trans hcj'.symm)) (by omega)
    have hct: ∀b,Pure Tryz.prog 172 [.l (iL (row.take j)) b,eI c] (.b false):=fun b=>by
     have:=Ds (row.take j) b c
     rwa [hnc]at this
    conv=>whnf
    repeat'((first|apply st|(apply sq;intro K U)|(apply si;intro A B Y Z)|(apply Y;clear Z B Y A)|(apply U;clear U K)|refine⟨rfl,?_⟩|refine ix ?_|refine tL ?_|refine Tx ?_|refine ld ?_|refine EM ?_|(refine Cv (fun hc=>?_)<;>(try rw[hc])<;>clear hc)|refine Pure.use (hct _) ?_|(rw[hload])|(constructor<;>intro hc<;>(try rw[hc])<;>(replace hc:=bp hc)<;>(try simp(disch:=omega) only[BR,wrap64,AM]at hc)<;>try(exfalso;omega))|clear U K)<;>conv=>whnf)
    refine⟨hjlt,s|||(Ce w.parents k).getD c.toNat 0,?_,?_,hs⟩
    ·have hsl:s<18446744073709551616:=by rw[hse];exact Qx huo _ _ hs0lt
     rw[KQ hsl (LK huo _)];rfl
    ·rw[hse,AX hcj]
     simp only[T4,List.foldl_append];rfl
   ·conv=>whnf
    repeat'((first|apply st|(apply sq;intro K U)|(apply si;intro A B Y Z)|(apply Y;clear Z B Y A)|(apply U;clear U K)|refine⟨rfl,?_⟩|refine Tx ?_|(refine EI (fun hc=>?_)<;>(try rw[hc])<;>clear hc)|clear U K)<;>conv=>whnf)
    refine HZ hs 0 rfl rfl (by rw[ZP w (by omega),hst0];omega) fun σ hs=>?_
    conv=>whnf
    repeat'((first|(apply si;intro A B Y Z)|(apply Y;clear Z B Y A)|(apply U;clear U K)|refine⟨rfl,?_⟩|clear U K)<;>conv=>whnf)
    refine⟨hlt,(),rfl,trivial,?_⟩
    have e:Ce w.parents (k+1)=Ce w.parents k++[s]:=by
     rw[hse,Ce,DS,hr,hje,List.take_length];rfl
    have hst:=ZO w (Ce w.parents k) s (by omega);rw[e,←hst];have e2:0+2+(IntKind.i64.wrap (3+BH k)).toNat*1=2+(Ce w.parents k).length:=by rw[hst0,hul];omega
    rw[e2]at hs;exact hs
  ·have hown:=Z8 178 [.p n0 0] [] (fun _=>[.box n0 (wC w (Ce w.parents k))]) (SI fun c=>decide (3≤c)&&decide (c<3+(w.parents.length:Int))) (fun _ _=>True) (fun y s _ σ hs=>Bk (BD.mono (ic w (Ce w.parents k) y (by omega) σ hs) (by
    rintro r σ' ⟨post,⟨h1,h2⟩,h3⟩;subst h2
    exact⟨h1,h3⟩))) w.owner false () (Gk fun _ _ _=>trivial)
   rw[I2]at hown
   have hall:(w.owner.all fun c=>decide (3≤c)&&decide (c<3+(w.parents.length:Int)))=true:=by
    rw[EL];intro o hoo;have:=how o hoo;simp only[BV,CL];exact this
   rw[hall]at hown
   conv=>whnf
   repeat'((first|apply st|(apply sq;intro K U)|(apply si;intro A B Y Z)|(apply Y;clear Z B Y A)|(apply U;clear U K)|refine⟨rfl,?_⟩|(refine EI (fun hc=>?_)<;>(try rw[hc])<;>clear hc)|clear U K)<;>conv=>whnf)
   refine hown.use (rest:=[]) hs ?_;rintro r post σ ⟨rfl,rfl⟩ hs
   conv=>whnf
   repeat'((first|apply st|(apply Y;clear Z B Y A)|(apply U;clear U K)|fail)<;>conv=>whnf)
   rw[hke]at hs;exact Gb (σ2:=emp) (fun n o ho=>by cases ho) (.t (.cons (hs.ti 0 rfl (.refl _ _ _)) (.cons (.refl _) .nil))) rfl
def LL (w:AK) (f:Fact):Bool:=decide (0≤f.arg)&&(decide (f.arg<3)&&(EX w f.path&&(if f.op=2 then f.n==0&&M4 w f.cls else f.cls==0&&(decide (-1000000000≤f.n)&&decide (f.n≤1000000000)))))
def EZ (w:AK) (f:Fact):Int→Int→Bool×Int:=f.Gw fun f l left deep=>
 if IntKind.i64.wrap (left - 1)<0∨deep=0∨f.op<1∨7<f.op∨f.kids.length≠By f.op then(false,IntKind.i64.wrap (left - 1))else
 if Bm f then(LL w f,IntKind.i64.wrap (left - 1))else
 if f.arg≠0∨0<f.path.length∨f.cls≠0∨f.n≠0 then(false,IntKind.i64.wrap (left - 1))else
 Ch (fun(k:Int→Int→Bool×Int) s=>k s (deep - 1)) l (IntKind.i64.wrap (left - 1))
def Kq {α β S:Type} (g:α→β) (stp:β→S→Bool×S): ∀(l:List α) (s:S),Ch stp (l.map g) s=Ch (fun a s=>stp (g a) s) l s
 | [],_=>rfl
 | a::r,s=>by simp only[EA,Ch,Kq g stp r]
def G7 (w:AK) (f:Fact) (left deep:Int):EZ w f left deep =
    if IntKind.i64.wrap (left - 1)<0∨deep=0∨f.op<1∨7<f.op∨f.kids.length≠By f.op then(false,IntKind.i64.wrap (left - 1))else
    if Bm f then(LL w f,IntKind.i64.wrap (left - 1))else
    if f.arg≠0∨0<f.path.length∨f.cls≠0∨f.n≠0 then(false,IntKind.i64.wrap (left - 1))else
    Ch (fun k s=>EZ w k s (deep - 1)) f.kids (IntKind.i64.wrap (left - 1)):=by
 rw[EZ,Fact.Df,Kq];rfl
def Vi {w:AK} {f:Fact} {left deep L1:Int} {b:Bool} {nL:Nat} {σ:AH} (hs:Sat σ [.box nL [eI L1]]) (h:EZ w f left deep=(b,L1)):Aw σ (.b b) fun r σ'=> ∃post:List At,(r=R.ret (.b (EZ w f left deep).1)∧post= [.box nL [eI (EZ w f left deep).2]])∧Sat σ' post:=by
 rw[h];exact AQ ⟨_,⟨rfl,rfl⟩,hs⟩
set_option maxHeartbeats 4000000 in
def dm (w:AK) (us:List Nat) (hw1:w.parents.length≤60) (hw2:w.owner.length≤60) (nL:Nat) (f:Fact): ∀(left deep:Int),0≤deep→deep≤12→
    Bc Tryz.prog 181 [.rp (wC w us),.a (xF f),.p nL 0,eI deep] [.box nL [eI left]] fun r post=>r= .ret (.b (EZ w f left deep).1)∧post= [.box nL [eI (EZ w f left deep).2]]:=by
 induction f using Fact.ind with
 | h f ih=>
   intro left deep hd0 hd1 σ hs;refine BD.fit (by kernel_rfl) fun hf=>?_
   have⟨h2,h3,h4⟩:=KB hf.2.1;have hM:=Mx;have hdw:IntKind.i64.wrap (deep - 1)=deep - 1:=wrap64 (by omega) (by omega);refine lI kZ ?_
   have hstep:C5 Tryz.prog (.f (.func 223) [] [.rp [.rp (wC w us)],.rp [.p nL 0],.rp [eI deep]]) (fun y=> .a (xF y)) (fun s=>[.box nL [eI s]]) (fun k s=>EZ w k s (deep - 1)) (fun y _=>y∈f.kids∧deep≠0):=by
    rintro y s ⟨hy,hdn⟩ σ hs;refine Bk ?_;show BD Tryz.prog 223 ([]++[.a (xF y)]++[.rp [.rp (wC w us)],.rp [.p nL 0],.rp [eI deep]]) σ _;refine kT kZ ?_
    conv=>whnf
    repeat'((first|apply st|(apply sq;intro K U)|(apply si;intro A B Y Z)|(apply Y;clear Z B Y A)|(apply U;clear U K)|refine⟨rfl,?_⟩|refine⟨kZ,?_⟩|fail)<;>conv=>whnf)
    rw[hdw];refine(ih y hy s (deep - 1) (by omega) (by omega)).use (rest:=[]) hs ?_;rintro r post σ ⟨rfl,rfl⟩ hs
    conv=>whnf
    repeat'((first|apply st|(apply Y;clear Z B Y A)|(apply U;clear U K)|fail)<;>conv=>whnf)
    exact AQ ⟨rfl,hs⟩
   conv=>whnf
   repeat'((first|apply st|(apply sq;intro K U)|(apply si;intro A B Y Z)|(apply Y;clear Z B Y A)|(apply U;clear U K)|apply dr|refine rk ?_ ?_|exact fun s e=>by cases e;rfl|refine⟨rfl,?_⟩|refine⟨kZ,?_⟩|refine ld ?_|refine EV fun σ hs=>?_|refine Pure.use (Mm _) ?_|refine Pure.use (eG _) ?_|refine Pure.use (bw w us _ hw1) ?_|refine Pure.use (db w us _ _ hw2) ?_|(constructor<;>intro hc<;>(try rw[hc])<;>(replace hc:=bp hc)<;>(try simp(disch:=omega) only[BR,wrap64,AM]at hc))|clear U K)<;>conv=>whnf)
   all_goals first
    | (refine Vi hs ?_;rw[G7,if_pos (by omega)];done)
    | (refine Vi hs ?_;rw[G7,if_neg (by omega),if_pos (by assumption)];simp[LL, *];done)
    | (refine Vi hs ?_;rw[G7,if_neg (by omega),if_pos (by assumption)];simp[LL, *];intros;omega)
    | (refine Vi hs ?_;rw[G7,if_neg (by omega),if_neg (by simp[*]),if_pos (by omega)];done)
    | skip
   refine(Z7 223 [] _ _ _ _ hstep f.kids false (IntKind.i64.wrap (left - 1)) h2 (Gk fun y hy _=>⟨hy,by omega⟩)).use (rest:=[]) hs ?_;have hE:=G7 w f left deep;rw[if_neg (by omega),if_neg (by simp[*]),if_neg (by omega)]at hE;rw[←hE];rintro r post σ ⟨rfl,rfl⟩ hs
   conv=>whnf
   repeat'((first|apply st|(apply Y;clear Z B Y A)|(apply U;clear U K)|fail)<;>conv=>whnf)
   exact AQ ⟨_,⟨rfl,rfl⟩,hs⟩
def KA (w:AK) (f:Fact):Bool:=(EZ w f 24 12).1
def YH (w:AK) (us:List Nat) (hw1:w.parents.length≤60) (hw2:w.owner.length≤60) (f:Fact):Pure Tryz.prog 180 [.a (xF f),.rp [.rp (wC w us)]] (.b (KA w f)):=by
 refine Pure.of ?_;refine lJ kZ ?_;have hs:=Sn
 conv=>whnf
 repeat'((first|apply st|(apply sq;intro K U)|(apply si;intro A B Y Z)|(apply Y;clear Z B Y A)|(apply U;clear U K)|refine⟨kZ,?_⟩|refine EV fun σ hs=>?_|(intro nn hnn;generalize hg:A7 _ nn _=σ;refine CY hg fun hs=>?_;clear hg)|fail)<;>conv=>whnf)
 refine(dm w us hw1 hw2 _ f 24 12 (by omega) (by omega)).use (rest:=[]) hs ?_;rintro r post σ ⟨rfl,rfl⟩ hs
 conv=>whnf
 repeat'((first|apply st|(apply Y;clear Z B Y A)|(apply U;clear U K)|fail)<;>conv=>whnf)
 exact AQ rfl
def fL {g:FuncId} {fi ca:List V} {f:Fact→Bool} {xs:List Fact} (b:Bool) (hl:xs.length≤Ac) (h: ∀y∈xs,Pure Tryz.prog g (fi++[.a (xF y)]++ca) (.b (f y))):Pure Tryz.prog 179 [.l (facts xs) b,.f (.func g) fi ca] (.b (xs.all f)):=by
 have:=Z7 g fi ca (fun _=>[]) (fun y (_:Unit)=>(f y,())) (fun y _=>y∈xs) (fun y s hy σ hs=>Bk (BD.mono ((h y hy).use (k:=fun v σ'=>v= .b (f y)∧Sat σ' []) (kp:=fun _ _=>False) ⟨rfl,Sat.nil⟩) (by
  rintro(v|v) σ' hq
  ·obtain⟨rfl,h⟩:=hq
   exact⟨rfl,h⟩
  ·exact hq.elim))) xs b () hl (Gk fun y hy _=>hy)
 rw[I2]at this;exact Pure.of (BD.mono (this emp Sat.nil) fun r σ' ⟨post,⟨h1,h2⟩,h3⟩=>h1)
def YJ (w:AK) (us:List Nat) (hw1:w.parents.length≤60) (hw2:w.owner.length≤60) (l:List Fact) (b:Bool) (hl:l.length≤60):Pure Tryz.prog 140 [.rp (wC w us),.l (facts l) b] (.b (l.all (KA w))):=by
 have hall:=fL (g:=180) (fi:=[]) (ca:=[.rp [.rp (wC w us)]]) (f:=KA w) (xs:=l) b (by simp only[Ac];omega) fun y _=>YH w us hw1 hw2 y
 refine mA kZ ?_;have hs:=Sn
 conv=>whnf
 repeat'((first|apply st|(apply sq;intro K U)|(apply si;intro A B Y Z)|(apply Y;clear Z B Y A)|(apply U;clear U K)|refine Pure.use (by assumption) ?_|fail)<;>conv=>whnf)
 exact AI rfl
def Mh (w:AK) (hw:CH w) (l:List Fact) (b:Bool) (hl:l.length≤60):Pure Tryz.prog 109 [.a (BE w),.l (facts l) b] (.t [.rp (wC w (B2 w.parents)),.b (l.all (KA w))]):=by
 have hfo:=YJ w (B2 w.parents) (by have:=hw.1.1;omega) (by have:=hw.2.1;omega) l b hl;refine mW kZ ?_;have hs:=Sn
 conv=>whnf
 repeat'((first|apply st|(apply sq;intro K U)|(apply si;intro A B Y Z)|(apply Y;clear Z B Y A)|(apply U;clear U K)|refine⟨kZ,?_⟩|refine Pure.use (dh w hw) ?_|refine hfo.use ?_|fail)<;>conv=>whnf)
 all_goals exact AI rfl
def Yj (w:AK) (hw:CH w) (f:Fact):Pure Tryz.prog 170 [.a (BE w),.a (xF f)] (eI (if KA w f then 0 else 2)):=by
 have hfo: ∀b,Pure Tryz.prog 109 [.a (BE w),.l [F4 f] b] (.t [.rp (wC w (B2 w.parents)),.b (KA w f)]):=fun b=>by
  have:=Mh w hw [f] b (by simp);simpa using this
 refine lQ kZ ?_;have hs:=Sn
 conv=>whnf
 repeat'((first|apply st|(apply sq;intro K U)|(apply si;intro A B Y Z)|(apply Y;clear Z B Y A)|(apply U;clear U K)|refine⟨kZ,?_⟩|fail)<;>conv=>whnf)
 rw[B0]at hfo;refine(hfo _).use ?_
 conv=>whnf
 repeat'((first|apply st|(apply sq;intro K U)|(apply si;intro A B Y Z)|(apply Y;clear Z B Y A)|(apply U;clear U K)|refine Pure.use (Uo _) ?_|fail)<;>conv=>whnf)
 exact AI rfl
end Go.Gl
namespace Go.Gl
def Kv {most:Int}: ∀(l:List Fact) (n:Int),(∀k∈l,∀m:Int,(K7 k:Int)≤m→CP k m=K7 k)→n+(l.map K7).sum≤most→Dc (l.map CP) n most=n+(l.map K7).sum
 | [],n,_,_=>by simp[Dc]
 | k::r,n,h,h1=>by
   simp only[EA,List.sum_cons,Dc]at *;rw[if_pos (by omega),h k (.head _) (most - n) (by omega),Kv r _ (fun k' hk'=>h k' (.tail _ hk')) (by omega)];omega
def RT (f:Fact): ∀m:Int,(K7 f:Int)≤m→CP f m=K7 f:=by
 induction f using Fact.ind with
 | h f ih=>
   intro m hm;rw[HH];rw[Jc]at *;rw[Kv f.kids 1 ih (by omega)];omega
def Xs (f:Fact) {m:Int} (h0:0≤m):CP f m≤m↔(K7 f:Int)≤m:=
 ⟨fun h=>by rw[←Jo f m h0 h];exact h,fun h=>by rw[RT f m h];exact h⟩
def ez (f:Fact):1≤K7 f:=by rw[Jc];omega
def GG {m:Int}: ∀(l:List Int) (a:Int),l.foldl Gu a≤m↔a≤m∧ ∀x∈l,x≤m
 | [],a=>by simp
 | x ::r,a=>by
   rw[List.foldl_cons,GG r];unfold Gu;constructor
   ·rintro⟨h1,h2⟩
    refine⟨by split at h1<;>omega,fun y hy=>?_⟩;rcases FE.1 hy with rfl|hy
    ·split at h1<;>omega
    ·exact h2 y hy
   ·rintro⟨h1,h2⟩
    have hx:=h2 x (.head _);exact⟨by split<;>omega,fun y hy=>h2 y (.tail _ hy)⟩
def bo (f:Fact) {m:Int}:D8 f≤m↔1≤m∧ ∀k∈f.kids,D8 k≤m - 1:=by
 rw[Fw];constructor
 ·intro h
  have:=(GG (m:=m - 1) (f.kids.map D8) 0).1 (by omega);exact⟨by omega,fun k hk=>this.2 _ (List.mem_map_of_mem hk)⟩
 ·rintro⟨h1,h2⟩
  have:=(GG (m:=m - 1) (f.kids.map D8) 0).2 ⟨by omega,fun x hx=>by
   obtain⟨k,hk,rfl⟩:=Ls.1 hx
   exact h2 k hk⟩
  omega
def ZE (w:AK) (f:Fact) (left deep:Int):Prop:=(K7 f:Int)≤left∧D8 f≤deep∧BW w f=true
def QI (w:AK) {deep:Int}: ∀(l:List Fact) (left:Int),0≤left→left≤24→(∀k∈l,∀left:Int,0≤left→left≤24→((EZ w k left deep).1=true↔ZE w k left deep)∧((EZ w k left deep).1=true→(EZ w k left deep).2=left - K7 k))→
    ((Ch (fun k s=>EZ w k s deep) l left).1=true↔((l.map K7).sum:Int)≤left∧ ∀k∈l,D8 k≤deep∧BW w k=true)∧((Ch (fun k s=>EZ w k s deep) l left).1=true→(Ch (fun k s=>EZ w k s deep) l left).2=left - ((l.map K7).sum:Nat))
 | [],left,h0,h1,_=>by simp[Ch];exact h0
 | k ::r,left,h0,h1,h=>by
   obtain⟨ha,hb⟩:=h k (.head _) left h0 h1;simp only[Ch,EA,List.sum_cons];cases hk:(EZ w k left deep).1
   ·simp only[Lu,if_false,false_iff,false_implies,and_true]
    rintro⟨h2,h3⟩;have:=ha.2 ⟨by omega,(h3 k (.head _)).1,(h3 k (.head _)).2⟩;rw[hk]at this;cases this
   ·obtain⟨g1,g2,g3⟩:=ha.1 hk
    have hc:=ez k;rw[if_pos rfl,hb hk];obtain⟨i1,i2⟩:=QI w r (left - K7 k) (by omega) (by omega) fun k' hk'=>h k' (.tail _ hk')
    refine⟨i1.trans ⟨fun⟨e1,e2⟩=>⟨by omega,fun x hx=>?_⟩,fun⟨e1,e2⟩=>⟨by omega,fun x hx=>e2 x (.tail _ hx)⟩⟩,fun h=>by rw[i2 h];omega⟩;rcases FE.1 hx with rfl|hx
    ·exact⟨g2,g3⟩
    ·exact e2 x hx
def dk (w : AK) (f:Fact): ∀left deep:Int,0≤left→left≤24→0≤deep→((EZ w f left deep).1=true↔ZE w f left deep)∧((EZ w f left deep).1=true→(EZ w f left deep).2=left - K7 f):=by
 induction f using Fact.ind with
 | h f ih=>
   intro left deep h0 h1 hd;have hw:IntKind.i64.wrap (left - 1)=left - 1:=wrap64 (by omega) (by omega);rw[G7,hw];have hc:=Jc f;have hn:=CK w f;have hdl:=bo f (m:=deep)
   have hko:C1 w f=true→f.kids.length=By f.op:=fun h=>by
    simp only[C1,BV,Du]at h;exact h.2.1
   have hop:C1 w f=true→1≤f.op∧f.op≤7:=fun h=>by
    simp only[C1,BV]at h;have h1:=h.1;unfold Rw at h1;split at h1
    ·omega
    split at h1
    ·omega
    simp at h1;omega
   by_cases hbad:left - 1<0∨deep=0∨f.op<1∨7<f.op∨f.kids.length≠By f.op
   ·rw[if_pos hbad]
    simp only[Lu,false_iff,false_implies,and_true];rintro⟨g1,g2,g3⟩;rw[hn,BV]at g3;have g4:=hko g3.1;have g5:=hop g3.1;have g6:=(hdl.1 g2).1;omega
   rw[if_neg hbad];by_cases hl:Bm f=true
   ·rw [if_pos hl]
    have hl':f.op=2∨f.op=3∨f.op=4:=by
     simp only[Bm,Fj,Du]at hl;omega
    have hk0:f.kids= []:=by
     have:f.kids.length=By f.op:=by omega
     rw[By,if_neg (by omega),if_neg (by omega)]at this;exact cZ.1 this
    have hd1:D8 f=1:=by rw[Fw,hk0];rfl
    have hc1:K7 f=1:=by rw[hc,hk0];rfl
    have hh:C1 w f=LL w f:=by
     unfold C1 Rw LL;rw[hl,hk0];have e:By f.op=0:=by rw[By,if_neg (by omega),if_neg (by omega)]
     rw[e];simp only[List.length_nil,beq_self_eq_true,Ev,Bool.true_or,Bool.and_true];rcases hl' with e|e|e
     ·rw[if_pos e,if_pos e]
      cases(f.n==0&&M4 w f.cls)<;>simp
     ·rw[if_neg (show¬f.op=2 by omega),if_neg (show¬f.op=2 by omega),if_pos (show f.op=3∨f.op=4 from .inl e)]
      cases(f.cls==0&&(decide (-1000000000≤f.n)&&decide (f.n≤1000000000)))<;>simp
     ·rw[if_neg (show¬f.op=2 by omega),if_neg (show¬f.op=2 by omega),if_pos (show f.op=3∨f.op=4 from .inr e)]
      cases(f.cls==0&&(decide (-1000000000≤f.n)&&decide (f.n≤1000000000)))<;>simp
    refine⟨⟨fun h=>⟨by omega,by omega,?_⟩,fun⟨_,_,h⟩=>?_⟩,fun _=>by dsimp only;omega⟩
    ·rw[hn,hk0,hh];simpa using h
    ·rw[hn,hk0,hh]at h;simpa using h
   ·have hl':f.op=1∨f.op=5∨f.op=6∨f.op=7:=by
     simp only[Bm,Fj,Du]at hl;omega
    have hlf:Bm f=false:=by simpa using hl
    rw[if_neg hl];by_cases hz:f.arg≠0∨0<f.path.length∨f.cls≠0∨f.n≠0
    ·rw[if_pos hz]
     simp only[Lu,false_iff,false_implies,and_true];rintro⟨g1,g2,g3⟩;rw[hn,BV]at g3;have g4:=g3.1;simp only[C1,hlf,Bool.false_or,BV,Du]at g4;omega
    ·rw [if_neg hz]
     obtain⟨i1,i2⟩:=QI w (deep:=deep - 1) f.kids (left - 1) (by omega) (by omega) fun k hk left hl0 hl1=>ih k hk left (deep - 1) hl0 hl1 (by omega)
     have hh:C1 w f=true:=by
      have hp:f.path= []:=cZ.1 (by omega)
      have e1:Rw w f=true:=by
       unfold Rw;rw[if_neg (by omega),if_neg (by omega)];simp only[Fj,Du];omega
      have z1:f.arg=0:=by omega
      have z2:f.cls=0:=by omega
      have z3:f.n=0:=by omega
      have z4:f.kids.length=By f.op:=by omega
      simp[C1,e1,hlf,hp,z1,z2,z3,z4,EX]
     refine⟨i1.trans ⟨fun⟨e1,e2⟩=>⟨by omega,hdl.2 ⟨by omega,fun k hk=>(e2 k hk).1⟩,?_⟩,fun⟨g1,g2,g3⟩=>⟨by omega,fun k hk=>⟨(hdl.1 g2).2 k hk,?_⟩⟩⟩,fun h=>by rw[i2 h];omega⟩
     ·rw[hn,hh,Ev,EL]
      exact fun k hk=>(e2 k hk).2
     ·rw[hn,hh,Ev,EL]at g3
      exact g3 k hk
def Mp (w:AK) (f:Fact):KA w f=CW w f:=by
 have:=(dk w f 24 12 (by omega) (by omega) (by omega)).1;rw[KA,CW,K5,this,ZE];simp only[BV,CL];rw[Xs f (by omega)]
end Go.Gl
namespace Go.Gl
open Go.Proofs
attribute [local irreducible] BD Aw Ai AU AO Ah AV AW AN Ag AS AT Ay A9 Sat Ab A4 Aj W
def Kj {p:Prog} (h:A2 p=true):CH (AR p)∧Bl p.AL≤40∧p.AL.length≤10:=by
 have h1:=h;rw[Oj]at h1;simp only[BV,CL]at h1;have h2:=h;simp only[A2,BV,CL]at h2;have hm:=(E8 _ _ h2.2.1).1;refine⟨⟨Dr h1.2.2.2.1,?_,fun o ho=>?_⟩,by omega,h1.1⟩
 ·rw[AR,CS];omega
 ·have:=Fq ho
  simp only[AR,Av,BR];omega
def cX (s:List Int):Prop:= ∀x∈s,(-1:Int)≤x
def eT {s:List Int} (h:cX s) (i:Nat) {x:Int} (hx:0≤x):cX (s.set i x):=fun y hy=>by
 rcases List.mem_or_eq_of_mem_set hy with hy|rfl
 ·exact h y hy
 ·omega
def S2 {f:Int→Int→List Int→Option (List Int)} (hf: ∀ {a b s s'},0≤b→f a b s=some s'→cX s→cX s') {op size:Int} (h0:0≤size): ∀(i:Nat) (l:List Int) {s s':List Int},FM f op size i l s=some s'→cX s→cX s'
 | _,[],s,s',h,hs=>by cases h;exact hs
 | i,k::r,s,s',h,hs=>by
   simp only[FM]at h;split at h
   ·cases h
   ·rename_i s1 h1
    refine S2 hf h0 (i+1) r h (hf ?_ h1 hs);split<;>omega
def KT {p:Prog} {next:Bool}: ∀(d:Nat) {n size:Int} {s s':List Int},0≤size→CG p next d n size s=some s'→cX s→cX s'
 | 0,_,_,_,_,_,h,_=>by cases h
 | d + 1,n,size,s,s',h0,h,hs=>by
   simp only[CG]at h;split at h
   ·cases h
   ·split at h
    ·cases h
    ·split at h
     ·exact S2 (fun hb h hs=>KT d hb h hs) h0 0 _ h (eT hs _ h0)
     ·cases h
def eV {s:List Int} (h:cX s):(s.all fun n=>decide (0≤n))= !s.contains (-1):=by
 rw[K5];simp only[EL,CL,Bool.not_eq_true',←Bool.not_eq_true,List.contains_iff_mem];constructor
 ·intro h1 h2
  have:=h1 _ h2;omega
 ·intro h1 x hx
  have:=h x hx;rcases Int.lt_or_le x 0 with hlt|hle
  ·exact absurd ((show x= -1 by omega) ▸ hx) h1
  ·exact hle
def m5 (p:Prog) (nO:Nat) (r:R) (σ:AH):Prop:=
 match BA p with
 | some s=>r= .ret (.t [])∧ ∃v,Sat σ [.box nO [v],.own v 1 (iL s)]
 | none=>r= .Cw Dn∧ ∃v s,Sat σ [.box nO [v],.own v 1 (iL s)]
def W9 {p:Prog} {nO:Nat} {σ:AH} {v:V} {s:List Int} {l:List At} (h:BA p=none) (hs:Sat σ l) (hsub: [At.box nO [v],.own v 1 (iL s)].Sublist l):Ai σ Dn (m5 p nO):=DI (by
 rw[m5,h]
 exact⟨rfl,v,s,hs.less hsub⟩)
def vK {p:Prog} {nO:Nat} {σ:AH} {v:V} {s:List Int} {l:List At} (h:BA p=some s) (hs:Sat σ l) (hsub: [At.box nO [v],.own v 1 (iL s)].Sublist l):Aw σ (.t []) (m5 p nO):=AQ (by
 rw[m5,h]
 exact⟨rfl,v,hs.less hsub⟩)
def Qk {p:Prog} (h:Cf p=false):BA p=none:=by unfold BA;rw[h];rfl
def Wy {w:AK} {f:Fact} (h:CW w f=true):NL f=true:=ON (w:=w) f (by simp only[CW,BV]at h;exact h.2.2)
def VF {w:AK} (hw:CH w) (f:Fact):Pure Tryz.prog 170 [.a (BE w),.a (xF f)] (eI (if CW w f then 0 else 2)):=by
 rw[←Mp];exact Yj w hw f
def Xl {α:Type} (a b c:α): [a,b,c].Perm [c,b,a]:=by simpa using(List.reverse_perm [a,b,c]).symm
set_option maxHeartbeats 4000000 in
def ah (p : Prog) (nO:Nat) (σ:AH) (hs:Sat σ [.box nO [.l [] true]]):BD Tryz.prog 162 [.rp (BN p),.p nO 0] σ (m5 p nO):=by
 refine BD.fit (by kernel_rfl) fun hf=>?_
 have hM:=Mx
 have hfp:Eu (.a (BN p)):=by
  have:=hf.1;simp only[RI]at this;simpa only[HS]using this
 have⟨p1,p2,p3,p4⟩:=GQ hfp;refine lX kZ ?_;have hcl:=VX p;replace hs:Sat σ [.box nO [.l [] true],.own (.l [] true) 1 (iL [])]:=Fl hs 1;cases hcB:A2 p with
 | false=>
   rw[hcB]at hcl
   conv=>whnf
   repeat'((first|apply st|(apply sq;intro K U)|(apply si;intro A B Y Z)|refine⟨kZ,?_⟩|fail)<;>conv=>whnf)
   refine hcl.use (pre:=[]) (rest:=[.box nO [.l [] true],.own (.l [] true) 1 (iL [])]) hs ?_;rintro r post σ ⟨rfl,rfl⟩ hs
   conv=>whnf
   repeat'((first|(refine Z _ _ _ ?_;clear Z B Y A)|clear U K)<;>conv=>whnf)
   exact W9 (Qk (by simp[Cf,hcB])) hs (.refl _)
 | true=>
   rw[hcB]at hcl;obtain⟨hgW,hmS,h10⟩:=Kj hcB
   conv=>whnf
   repeat'((first|apply st|(apply sq;intro K U)|(apply si;intro A B Y Z)|refine⟨kZ,?_⟩|fail)<;>conv=>whnf)
   refine hcl.use (pre:=[]) (rest:=[.box nO [.l [] true],.own (.l [] true) 1 (iL [])]) hs ?_;clear hs;rintro r post σ ⟨rfl,rfl⟩ hs
   conv=>whnf
   repeat'((first|apply st|(apply sq;intro K U)|(apply si;intro A B Y Z)|(apply Y;clear Z B Y A)|(refine Z _ _ _ ?_;clear Z B Y A)|(apply U;clear U K)|refine⟨rfl,?_⟩|(refine Cn (fun hc=>?_) (fun hc=>?_)<;>(replace hc:=bp hc)<;>(try simp(disch:=omega) only[BR,wrap64,AM]at hc)<;>(try(cases hc;done)))|(constructor<;>intro hc<;>(try rw[hc])<;>(replace hc:=bp hc)<;>(try simp(disch:=omega) only[BR,wrap64,AM]at hc))|clear U K)<;>conv=>whnf)
   rotate_left
   all_goals first
    | exact W9 (Qk (by simp[Cf, *];intros;omega)) hs (.refl _)
    | skip
   have a1:p.CM.length≤8:=by omega
   have a2:p.methods.length≤16:=by omega
   have a3:1≤p.nodes.length:=by omega
   have a4:p.nodes.length≤120:=by omega
   have hg:Cf p=p.CM.all fun g=>decide (1≤g)&&decide (g≤3):=by
    simp only[Cf,a1,a2,a3,a4,decide_true,Ev];simp[*]
   refine CZ p.CM.length (fun k (_:Unit)=>[(36,eI (BH k))]) (fun _ _=>[.box nO [.l [] true],.own (.l [] true) 1 (iL [])]) (fun k _=>Cf p=(p.CM.drop k).all fun g=>decide (1≤g)&&decide (g≤3)) () rfl (by simpa using hg) hs ?_;clear hs hg;rintro k - σ hk hn hs;rcases BM p.CM hk with⟨g,hgk,hlt⟩|hke
   ·rw[drop_cons hgk,Rs]at hn
    conv=>whnf
    repeat'((first|apply st|(apply sq;intro K U)|(apply si;intro A B Y Z)|(apply Y;clear Z B Y A)|(refine Z _ _ _ ?_;clear Z B Y A)|(apply U;clear U K)|refine⟨rfl,?_⟩|refine ix ?_|(refine Cv (fun hc=>?_)<;>(try rw[hc])<;>clear hc)|(refine Cn (fun hc=>?_) (fun hc=>?_)<;>(replace hc:=bp hc)<;>(try simp(disch:=omega) only[BR,wrap64,AM]at hc)<;>(try(cases hc;done)))|(constructor<;>intro hc<;>(try rw[hc])<;>(replace hc:=bp hc))|clear U K)<;>conv=>whnf)
    ·exact⟨hlt,(),rfl,by rw[hn];simp[*],hs⟩
    ·exact W9 (Qk (by rw[hn,decide_eq_false (show¬g≤3 by omega)];simp)) hs (.refl _)
    ·exact W9 (Qk (by rw[hn,decide_eq_false (show¬1≤g by omega)];simp)) hs (.refl _)
   ·have hh : Cf p=true:=by rw[hn,Ap hke];rfl
    have hL:=WI hh;clear hn
    conv=>whnf
    repeat'((first|apply st|(apply sq;intro K U)|(apply si;intro A B Y Z)|(apply Y;clear Z B Y A)|(apply U;clear U K)|refine⟨rfl,?_⟩|(refine EI (fun hc=>?_)<;>(try rw[hc])<;>clear hc)|clear U K)<;>conv=>whnf)
    rw[BR];refine(Xc p.nodes.length a3 a4).use (pre:=[]) (rest:=[.box nO [.l [] true],.own (.l [] true) 1 (iL [])]) hs ?_;clear hs;rintro r post σ ⟨v,rfl,rfl,hv⟩ hs
    conv=>whnf
    repeat'((first|apply st|(apply sq;intro K U)|(apply si;intro A B Y Z)|(apply Y;clear Z B Y A)|(apply U;clear U K)|refine⟨kZ,?_⟩|refine EV fun σ hs=>?_|refine DT fun σ hs=>?_|refine Pure.use (SS p (by omega) (by omega)) ?_|(intro nn hnn;generalize hg:A7 _ nn _=σ;refine CY hg fun hs=>?_;clear hg)|fail)<;>conv=>whnf)
    rename_i nw hnw _ hs;generalize nn=n5 at *;replace hs:=hs.less (show [At.box n5 (BE (AR p)),.own v 1 (iL (List.replicate p.nodes.length (-1))),.box nO [v]].Sublist _ from .cons₂ _ (.cons₂ _ (.cons₂ _ (.cons _ .slnil))));refine CZ p.methods.length (fun k (s:List Int)=>[(59,eI (BH k))]) (fun _ s=>[.box nO [v],.own v 1 (iL s),.box n5 (BE (AR p))]) (fun k s=>s.length=p.nodes.length∧cX s∧BA p=JE p (runM p (p.methods.drop k) s)) (List.replicate p.nodes.length (-1)) rfl ⟨by simp,fun x hx=>by rw[List.eq_of_mem_replicate hx];omega,hL⟩ (hs.perm (Xl _ _ _)) ?_;clear hs hnw hnn;rintro k s σ hk ⟨hl,hge,hn⟩ hs;rcases BM p.methods hk with⟨m,hm,hlt⟩|hke
    ·have hF:=VF hgW m.fact
     cases hfB:CW (AR p) m.fact with
     | false=>
       rw[hfB,if_neg Bool.false_ne_true]at hF;have hno:=DU hm hn (by simp[Mu,hfB])
       conv=>whnf
       repeat'((first|apply st|(apply sq;intro K U)|(apply si;intro A B Y Z)|(apply Y;clear Z B Y A)|(refine Z _ _ _ ?_;clear Z B Y A)|(refine Z _ _ fun σ hsub=>?_;clear Z B Y A)|(apply U;clear U K)|apply dr|refine rk ?_ ?_|exact fun s e=>by cases e;rfl|refine⟨rfl,?_⟩|refine⟨kZ,?_⟩|refine ix ?_|refine ld ?_|refine DT fun σ hs=>?_|(refine Cv (fun hc=>?_)<;>(try rw[hc])<;>clear hc)|(refine Cn (fun hc=>?_) (fun hc=>?_)<;>(replace hc:=bp hc)<;>(try simp(disch:=omega) only[BR,wrap64,AM]at hc)<;>(try(cases hc;done)))|refine hF.use ?_|(constructor<;>intro hc<;>(try rw[hc])<;>(replace hc:=bp hc)<;>try(exfalso;omega))|(intro nn hnn;generalize hg:A7 _ nn _=σ;refine CY hg fun hs=>?_;clear hg)|clear U K)<;>conv=>whnf)
       all_goals first
        | (refine W9 (v:=v) (s:=s) hno hs ?_;(repeat first|exact Lr _|apply List.Sublist.cons₂|apply List.Sublist.cons);done)
        | (refine W9 (v:=v) (s:=s) hno (hs.up (by assumption)) ?_;(repeat first|exact Lr _|apply List.Sublist.cons₂|apply List.Sublist.cons);done)
        | skip
     | true=>
       rw[hfB,if_pos rfl]at hF;have hsp:=XV _ (Wy hfB)
       conv=>whnf
       repeat'((first|apply st|(apply sq;intro K U)|(apply si;intro A B Y Z)|(apply Y;clear Z B Y A)|(refine Z _ _ _ ?_;clear Z B Y A)|(refine Z _ _ fun σ hsub=>?_;clear Z B Y A)|(apply U;clear U K)|apply dr|refine rk ?_ ?_|exact fun s e=>by cases e;rfl|refine⟨rfl,?_⟩|refine⟨kZ,?_⟩|refine ix ?_|refine ID ?_|refine iq fun x hx=>?_|refine ld ?_|refine DT fun σ hs=>?_|(refine Cv (fun hc=>?_)<;>(try rw[hc])<;>clear hc)|(refine Cn (fun hc=>?_) (fun hc=>?_)<;>(replace hc:=bp hc)<;>(try simp(disch:=omega) only[BR,wrap64,AM]at hc)<;>(try(cases hc;done)))|refine hF.use ?_|refine hsp.use ?_|(constructor<;>intro hc<;>(try rw[hc])<;>(replace hc:=bp hc)<;>(try simp(disch:=omega) only[BR,wrap64,AM]at hc)<;>try(exfalso;omega))|(intro nn hnn;generalize hg:A7 _ nn _=σ;refine CY hg fun hs=>?_;clear hg)|clear U K)<;>conv=>whnf)
       all_goals first
        | (refine W9 (v:=v) (s:=s) (DU hm hn ?_) hs ?_;(simp[Mu, *];intros;omega);(repeat first|exact Lr _|apply List.Sublist.cons₂|apply List.Sublist.cons);done)
        | (refine W9 (v:=v) (s:=s) (DU hm hn ?_) (hs.up (by assumption)) ?_;(simp[Mu, *];intros;omega);(repeat first|exact Lr _|apply List.Sublist.cons₂|apply List.Sublist.cons);done)
        | skip
       rotate_left 2
       ·refine W9 (v:=v) (s:=s) (DU hm hn ?_) (hs.up (by assumption)) ?_
        ·simp only[Mu,show p.CM.getD m.gen.toNat 0=x by rw[DS,hx];rfl,decide_eq_false (show¬Cx m.fact≤x by omega),Bool.and_false]
        ·repeat first|exact Lr _|apply List.Sublist.cons₂|apply List.Sublist.cons
       all_goals
        have hx13:=Pw hh hx;have hgd:p.CM.getD m.gen.toNat 0=x:=by rw[DS,hx];rfl
        have hok:Mu p m=true:=by simp only[Mu,hgd,BV,CL];exact⟨by omega,by omega,by omega,by omega,hfB,by assumption⟩
        have hgo:=fun s'=>V1 (s':=s') hm hn hok
        have hno:=Pd hm hn hok;rw[hgd]at hgo hno
       ·have hnb:JD m.kind=(m.kind==4):=by simp[JD, *]
        rw[hnb]at hgo hno;refine Bk ((RK p (m.kind==4) hv m.node x s (by omega) (by omega) hl [.box n5 (BE (AR p))] σ (hs.less (.cons _ (.refl _)))).mono ?_);cases hw:CG p (m.kind==4) 12 m.node x s with
        | none=>
          clear hs;rintro r σ' ⟨rfl,s',hl',hs⟩
          conv=>whnf
          repeat'((first|(refine Z _ _ fun σ hsub=>?_;clear Z B Y A)|clear U K)<;>conv=>whnf)
          exact W9 (v:=v) (s:=s') (hno hw) (hs.up (by assumption)) (.cons₂ _ (.cons₂ _ (Lr _)))
        | some s2=>
          clear hs;rintro r σ' ⟨rfl,hs⟩
          conv=>whnf
          repeat'((first|(apply si;intro A B Y Z)|(apply Y;clear Z B Y A)|(apply U;clear U K)|apply dr|refine⟨rfl,?_⟩|clear U K)<;>conv=>whnf)
          exact⟨hlt,s2,rfl,⟨(Iu _ hw).trans hl,KT _ (by omega) hw hge,hgo s2 hw⟩,hs⟩
       ·have hnb:JD m.kind=true:=by simp[JD, *]
        rw[hnb]at hgo hno;refine Bk ((RK p true hv m.node x s (by omega) (by omega) hl [.box n5 (BE (AR p))] σ (hs.less (.cons _ (.refl _)))).mono ?_);cases hw:CG p true 12 m.node x s with
        | none=>
          clear hs;rintro r σ' ⟨rfl,s',hl',hs⟩
          conv=>whnf
          repeat'((first|(refine Z _ _ fun σ hsub=>?_;clear Z B Y A)|clear U K)<;>conv=>whnf)
          exact W9 (v:=v) (s:=s') (hno hw) (hs.up (by assumption)) (.cons₂ _ (.cons₂ _ (Lr _)))
        | some s2=>
          clear hs;rintro r σ' ⟨rfl,hs⟩
          conv=>whnf
          repeat'((first|(apply si;intro A B Y Z)|(apply Y;clear Z B Y A)|(apply U;clear U K)|apply dr|refine⟨rfl,?_⟩|clear U K)<;>conv=>whnf)
          exact⟨hlt,s2,rfl,⟨(Iu _ hw).trans hl,KT _ (by omega) hw hge,hgo s2 hw⟩,hs⟩
    ·subst hke
     rw[List.drop_length,runM]at hn
     conv=>whnf
     repeat'((first|apply st|(apply sq;intro K U)|(apply si;intro A B Y Z)|(apply Y;clear Z B Y A)|(apply U;clear U K)|refine⟨rfl,?_⟩|refine⟨kZ,?_⟩|refine ix ?_|refine ld ?_|refine DT fun σ hs=>?_|(refine fc (fun x hx hlt hc=>?_) (fun hk hc=>?_)<;>(try rw[hc])<;>clear hc)|(constructor<;>intro hc<;>(try rw[hc])<;>(replace hc:=bp hc)<;>try(exfalso;omega))|(intro nn hnn;generalize hg:A7 _ nn _=σ;refine CY hg fun hs=>?_;clear hg)|clear U K)<;>conv=>whnf)
     rw[JE]at hn;refine Bk ((RK p false hv p.main 0 s (by omega) (by omega) hl [.box n5 (BE (AR p))] σ hs).mono ?_);cases hw:CG p false 12 p.main 0 s with
     | none=>
       rw[hw]at hn;clear hs;rintro r σ' ⟨rfl,s',hl',hs⟩
       conv=>whnf
       repeat'((first|(refine Z _ _ _ ?_;clear Z B Y A)|clear U K)<;>conv=>whnf)
       exact W9 (v:=v) (s:=s') hn hs (.cons₂ _ (.cons₂ _ (Lr _)))
     | some s2=>
       rw[hw]at hn;have hge2:=KT _ (by omega) hw hge;simp only[eV hge2]at hn;clear hs;rintro r σ' ⟨rfl,hs⟩;have hct:=fun f=>Ds s2 f (-1)
       cases hyes:s2.contains (-1)with
       | true=>
         rw[hyes]at hct hn
         conv=>whnf
         repeat'((first|(apply si;intro A B Y Z)|(apply Y;clear Z B Y A)|(apply U;clear U K)|refine ld ?_|fail)<;>conv=>whnf)
         refine Pure.T9 (hct false) (.cons (hs.QU 1 rfl) (.cons (.refl _) .nil)) rfl ?_
         conv=>whnf
         repeat'((first|(refine Z _ _ _ ?_;clear Z B Y A)|(refine Cn (fun hc=>?_) (fun hc=>?_)<;>(replace hc:=bp hc)<;>(try simp(disch:=omega) only[BR,wrap64,AM]at hc)<;>(try(cases hc;done)))|fail)<;>conv=>whnf)
         all_goals exact W9 (v:=v) (s:=s2) hn (by first|exact hs|exact hs.up (by assumption)) (.cons₂ _ (.cons₂ _ (Lr _)))
       | false=>
         rw[hyes]at hct hn
         conv=>whnf
         repeat'((first|(apply si;intro A B Y Z)|(apply Y;clear Z B Y A)|(apply U;clear U K)|refine ld ?_|fail)<;>conv=>whnf)
         refine Pure.T9 (hct false) (.cons (hs.QU 1 rfl) (.cons (.refl _) .nil)) rfl ?_
         conv=>whnf
         repeat'((first|(apply Y;clear Z B Y A)|(refine Cn (fun hc=>?_) (fun hc=>?_)<;>(replace hc:=bp hc)<;>(try simp(disch:=omega) only[BR,wrap64,AM]at hc)<;>(try(cases hc;done)))|fail)<;>conv=>whnf)
         all_goals exact vK (v:=v) hn hs (.cons₂ _ (.cons₂ _ (Lr _)))
end Go.Gl
namespace Go.Gl
variable {P:Program} {σ:AH}
def Yk {v:V} {Q Q':R→AH→Prop} (h:Aw σ v Q) (hq: ∀r σ,Q r σ→Q' r σ):Aw σ v Q':=by
 obtain⟨vf,s2,h1,h2,h3⟩:=h;exact⟨vf,s2,h1,h2,hq _ _ h3⟩
def C5.more {α S:Type} {g:FuncId} {fi ca:List V} {ea:α→V} {H:S→List At} {stp:α→S→Bool×S} {D:α→S→Prop} (h:C5 P (.f (.func g) fi ca) ea H stp D) (pre:List At):C5 P (.f (.func g) fi ca) ea (fun s=>pre++H s) stp D:=fun y s hd σ hs=>by
 have h1:Bc P g (fi++[ea y]++ca) (H s) fun r post=>r= .ret (.b (stp y s).1)∧post=H (stp y s).2:=fun σ hs=>BD.mono (h y s hd σ hs) fun r σ' ⟨e,h2⟩=>⟨_,⟨e,rfl⟩,h2⟩
 refine Bk (h1.use (rest:=pre) (hs.perm Rt) ?_);rintro r post σ' ⟨rfl,rfl⟩ hs';exact⟨rfl,hs'.perm Rt⟩
def L7 {α S:Type} (P:Program) (x:V) (ea:α→V) (H:S→List At) (f:α→Bool) (J:S→Prop) (D:α→Prop):Prop:=
 ∀y s,D y→J s→ ∀σ,Sat σ (H s)→Ay P x [ea y] σ fun r σ'=>r= .ret (.b (f y))∧ ∃s',J s'∧Sat σ' (H s')
def L7.use {α S:Type} {x:V} {ea:α→V} {H:S→List At} {f:α→Bool} {J:S→Prop} {D:α→Prop} (h:L7 P x ea H f J D) {y:α} {s:S} (hd:D y) (hj:J s) (hs:Sat σ (H s)) {k kp:V→AH→Prop} (hk: ∀s' σ',J s'→Sat σ' (H s')→k (.b (f y)) σ'):Ay P x [ea y] σ (qk k kp):=
 (h y s hd hj σ hs).mono fun r σ' ⟨e,s',hj',h'⟩=>by rw[e];exact hk s' σ' hj' h'
def L5 {α:Type} (f:α→Bool):List α→Nat→Int
 | [],_=> -1
 | y::r,k=>if f y then(k:Int)else L5 f r (k+1)
def S9 {α:Type} (f:α→Bool): ∀(xs:List α) (k:Nat),decide (L5 f xs k≥0)=xs.any f
 | [],_=>rfl
 | y::r,k=>by
   rw[L5,QO];cases f y
   ·exact S9 f r (k+1)
   ·simp
end Go.Gl
namespace Go.Gl
structure Kn where
 low:Int
 high:Int
 no:List Int
 CV:Nat
 GK:Nat
 whole:Bool
 A0:Bool
 AP:List Int
def k0:Kn:=⟨-1000000000,1000000000,[],0,0,false,false,[]⟩
def IS (l:List Int) (s:Int):List Int:=if l.contains s then l else(l++[s]).mergeSort Gq
def Co (k:Kn) (f:Fact) (b:Bool):Kn:=
 if f.op=2 then(if b then {k with GK:=k.GK|||2 ^ f.cls.toNat}else {k with CV:=k.CV|||2 ^ f.cls.toNat})
 else if f.op=3 then(if b then {k with low:=if f.n > k.low then f.n else k.low}else {k with high:=if f.n - 1<k.high then f.n - 1 else k.high,whole:=true})
 else if b then {k with no:=k.no++[f.n]}else {k with low:=if f.n > k.low then f.n else k.low,high:=if f.n<k.high then f.n else k.high,whole:=true}
def Dj (k:Kn) (b:Bool):Kn:={k with A0:=k.A0|| !b}
def cS (k:Kn) (s:Int):Kn:={k with AP:=IS k.AP s}
def DC (a:Int) (p:List Int) (k:Kn) (l:Fact):Kn:=
 if(A8 l).1.arg=a∧B4 (A8 l).1.path p=true then
  (if(A8 l).1.path=p then Co (Dj k (A8 l).2) (A8 l).1 (A8 l).2 else cS (Dj k (A8 l).2) ((A8 l).1.path.getD p.length 0))
 else k
def kn (ls:List Fact) (a:Int) (p:List Int):Kn:=ls.foldl (DC a p) k0
def Va (k:Kn) (f:Fact) (b:Bool):(Co k f b).A0=k.A0:=by
 unfold Co
 (repeat' split)<;>rfl
def QD (k:Kn) (f:Fact) (b:Bool):(Co k f b).AP=k.AP:=by
 unfold Co
 (repeat' split)<;>rfl
def RV (a:Int) (p:List Int) (k:Kn) (l:Fact):(DC a p k l).A0=(k.A0|| !((A8 l).2|| !((A8 l).1.arg==a&&B4 (A8 l).1.path p))):=by
 unfold DC;split
 ·rename_i h
  have e:((A8 l).1.arg==a)=true:=by simpa using h.1
  rw[e,h.2];split
  ·rw[Va];simp[Dj]
  ·simp[cS,Dj]
 ·rename_i h
  have:((A8 l).1.arg==a&&B4 (A8 l).1.path p)=false:=by
   cases hb:((A8 l).1.arg==a&&B4 (A8 l).1.path p)with
   | false=>rfl
   | true=>rw[BV]at hb;exact absurd ⟨by simpa using hb.1,hb.2⟩ h
  rw[this];simp
def Kz (a:Int) (p:List Int): ∀(ls:List Fact) (k:Kn),(ls.foldl (DC a p) k).A0=(k.A0|| !FO ls a p)
 | [],k=>by simp[FO]
 | l::r,k=>by
   rw[List.foldl_cons,Kz a p r,RV];simp only[FO,Rs];generalize (r.all _)=x;generalize ((A8 l).2||_)=y;cases k.A0<;>cases x<;>cases y<;>rfl
def Lj (ls:List Fact) (a:Int) (p:List Int):(kn ls a p).A0= !FO ls a p:=by rw[kn,Kz];rfl
def Yg (l:List Int) (s x:Int):x∈IS l s↔x∈l∨x=s:=by
 unfold IS;split
 ·rename_i h
  rw[List.contains_iff_mem]at h;constructor
  ·exact .inl
  ·rintro(h'|rfl)
   ·exact h'
   ·exact h
 ·rw[(List.mergeSort_perm _ Gq).mem_iff];simp
def Ri {l:List Int} (s:Int) (h:l.Pairwise (· < ·)):(IS l s).Pairwise (· < ·):=by
 unfold IS;split
 ·exact h
 ·rename_i hc
  have hc':s∉l:=by simpa using hc
  have hp:=List.mergeSort_perm (l++[s]) Gq;have h1:((l++[s]).mergeSort Gq).Pairwise (fun a b=>Gq a b=true):=List.pairwise_mergeSort (fun a b c=>by simp only[Gq,CL];omega) (fun a b=>by simp only[Gq,Fj,CL];omega) _
  have h2:((l++[s]).mergeSort Gq).Nodup:=hp.nodup_iff.2 (by
   rw[List.nodup_append];refine⟨h.imp fun hab=>by omega,by simp,fun a ha b hb=>?_⟩;simp only[K8]at hb;rintro rfl
   exact hc' (hb ▸ ha))
  exact(h1.and h2).imp fun⟨h3,h4⟩=>by
   simp only[Gq,CL]at h3;omega
def Jh: ∀ {l m:List Int},l.Pairwise (· < ·)→m.Pairwise (· < ·)→(∀x,x∈l↔x∈m)→l=m
 | [],[],_,_,_=>rfl
 | [],y::m,_,_,h=>absurd ((h y).2 (.head _)) (by simp)
 | x::l,[],_,_,h=>absurd ((h x).1 (.head _)) (by simp)
 | x ::l,y::m,h1,h2,h=>by
   rw[List.pairwise_cons]at h1 h2
   have hxy:x=y:=by
    rcases FE.1 ((h x).1 (.head _))with e|hx
    ·exact e
    ·rcases FE.1 ((h y).2 (.head _))with e|hy
     ·exact e.symm
     ·have:=h1.1 y hy
      have:=h2.1 x hx;omega
   subst hxy;congr 1;refine Jh h1.2 h2.2 fun z=>?_
   constructor
   ·intro hz
    rcases FE.1 ((h z).1 (.tail _ hz))with e|hz'
    ·have:=h1.1 z hz;omega
    ·exact hz'
   ·intro hz
    rcases FE.1 ((h z).2 (.tail _ hz))with e|hz'
    ·have:=h2.1 z hz;omega
    ·exact hz'
def CR {path pre:List Int}:B4 path pre=true↔ ∃t,path=pre++t:=by
 simp only[B4,BV,CL,Du];constructor
 ·rintro⟨_,h⟩
  exact⟨path.drop pre.length,by conv=>lhs;rw[←List.take_append_drop pre.length path,h]⟩
 ·rintro⟨t,rfl⟩
  simp
def Tr {path p:List Int} {s:Int}:B4 path (p++[s])=true↔B4 path p=true∧path≠p∧path.getD p.length 0=s:=by
 rw[CR,CR];constructor
 ·rintro⟨t,rfl⟩
  refine⟨⟨s::t,by simp⟩,fun e=>?_,by simp⟩;have:=congrArg List.length e;simp at this
 ·rintro⟨⟨t,rfl⟩,hne,hs⟩
  cases t with
  | nil=>simp at hne
  | cons y t=>simp at hs;subst hs;exact⟨t,by simp⟩
def We {a:Int} {p:List Int} {s:Int} {l:Fact}:fY a p s l=true↔(A8 l).1.arg=a∧B4 (A8 l).1.path p=true∧(A8 l).1.path≠p∧(A8 l).1.path.getD p.length 0=s:=by
 rw[fY,BV,Tr,Du]
def Tc (a:Int) (p:List Int) (k:Kn) (l:Fact):(DC a p k l).AP=if(A8 l).1.arg=a∧B4 (A8 l).1.path p=true∧(A8 l).1.path≠p then IS k.AP ((A8 l).1.path.getD p.length 0)else k.AP:=by
 unfold DC;by_cases h1:(A8 l).1.arg=a∧B4 (A8 l).1.path p=true
 ·rw[if_pos h1]
  by_cases h2:(A8 l).1.path=p
  ·rw[if_pos h2,if_neg (fun h=>h.2.2 h2),QD];rfl
  ·rw[if_neg h2,if_pos ⟨h1.1,h1.2,h2⟩];rfl
 ·rw[if_neg h1,if_neg (fun h=>h1 ⟨h.1,h.2.1⟩)]
def Oa (a:Int) (p:List Int): ∀(ls:List Fact) (k:Kn),k.AP.Pairwise (· < ·)→(ls.foldl (DC a p) k).AP.Pairwise (· < ·)∧ ∀s,s∈(ls.foldl (DC a p) k).AP↔s∈k.AP∨ls.any (fY a p s)=true
 | [],k,h=>⟨h,fun s=>by simp⟩
 | l ::r,k,h=>by
   rw[List.foldl_cons];have e:=Tc a p k l
   have h1:(DC a p k l).AP.Pairwise (· < ·):=by
    rw[e];split
    ·exact Ri _ h
    ·exact h
   obtain⟨i1,i2⟩:=Oa a p r _ h1;refine⟨i1,fun s=>?_⟩;rw[i2,e,QO,Fj,We];split
   ·rename_i hc
    rw[Yg];constructor
    ·rintro((h|rfl)|h)
     ·exact .inl h
     ·exact .inr (.inl ⟨hc.1,hc.2.1,hc.2.2,rfl⟩)
     ·exact .inr (.inr h)
    ·rintro(h|⟨-,-,-,h⟩|h)
     ·exact .inl (.inl h)
     ·exact .inl (.inr h.symm)
     ·exact .inr h
   ·rename_i hc
    constructor
    ·rintro(h|h)
     ·exact .inl h
     ·exact .inr (.inr h)
    ·rintro(h|⟨q1,q2,q3,-⟩|h)
     ·exact .inl h
     ·exact absurd ⟨q1,q2,q3⟩ hc
     ·exact .inr h
def HR (n:Nat) (ls:List Fact):Prop:= ∀l∈ls,∀s∈(A8 l).1.path,(0:Int)≤s∧s<n
def Dq {n:Nat} {s:Int}:s∈Bj n↔0≤s∧s<n:=by
 simp only[Bj,Ls,List.mem_range];constructor
 ·rintro⟨m,hm,rfl⟩
  exact⟨Int.natCast_nonneg m,by simpa using hm⟩
 ·rintro⟨h0,h1⟩
  exact⟨s.toNat,by omega,by simp;omega⟩
def JK (n:Nat):(Bj n).Pairwise (· < ·):=by
 rw[Bj,List.pairwise_map];exact List.pairwise_lt_range.imp fun h=>by simpa using h
def jX {n:Nat} {ls:List Fact} (h:HR n ls) {a:Int} {p:List Int} {s:Int} {l:Fact} (hl:l∈ls) (hg:fY a p s l=true):0≤s∧s<n:=by
 rw[We]at hg;obtain⟨-,h2,h3,h4⟩:=hg;obtain⟨t,ht⟩:=CR.1 h2;refine h l hl s ?_;rw[ht]at h3 h4 ⊢;cases t with
 | nil=>simp at h3
 | cons y t=>simp at h4;subst h4;simp
def Kg {n:Nat} {ls:List Fact} (h:HR n ls) (a:Int) (p:List Int):(kn ls a p).AP=Dl n ls a p:=by
 obtain⟨h1,h2⟩:=Oa a p ls k0 .nil;refine Jh h1 ((JK n).filter _) fun s=>?_
 show s∈(ls.foldl (DC a p) k0).AP↔_;rw[h2,Dl,K9,Dq];constructor
 ·rintro(h|hs)
  ·cases h
  ·obtain⟨l,hl,hg⟩:=JA.1 hs
   exact⟨jX h hl hg,hs⟩
 ·exact fun hs=> .inr hs.2
def Eg (os:List Fact) (k:Kn):Kn:=os.foldl (fun k l=>Co k (A8 l).1 (A8 l).2) k
abbrev E0 (k:Kn):Int×Int×List Int×Nat×Nat×Bool:=(k.low,k.high,k.no,k.CV,k.GK,k.whole)
def TC {k k':Kn} (h:E0 k=E0 k') (f:Fact) (b:Bool):E0 (Co k f b)=E0 (Co k' f b):=by
 cases k;cases k';simp only[E0,Prod.mk.injEq]at h;obtain⟨rfl,rfl,rfl,rfl,rfl,rfl⟩:=h;unfold Co
 (repeat' split)<;>rfl
def MQ (p:List Int):B4 p p=true:=CR.2 ⟨[],by simp⟩
def YU (a:Int) (p:List Int) (k:Kn) (l:Fact):E0 (DC a p k l)=if Lv a p l then E0 (Co k (A8 l).1 (A8 l).2)else E0 k:=by
 unfold DC Lv;by_cases h1:(A8 l).1.arg=a
 ·by_cases h2:(A8 l).1.path=p
  ·have e:((A8 l).1.arg==a&&(A8 l).1.path==p)=true:=by simp[h1,h2]
   rw[if_pos ⟨h1,by rw[h2];exact MQ p⟩,if_pos h2,e,if_pos rfl];exact TC (k:=Dj k (A8 l).2) (k':=k) rfl _ _
  ·have e:((A8 l).1.arg==a&&(A8 l).1.path==p)=false:=by simp[h2]
   rw[if_neg h2,e,if_neg Bool.false_ne_true];split<;>rfl
 ·have e:((A8 l).1.arg==a&&(A8 l).1.path==p)=false:=by simp[h1]
  rw[if_neg (fun h=>h1 h.1),e,if_neg Bool.false_ne_true]
def Ln (a:Int) (p:List Int): ∀(ls:List Fact) (k k':Kn),E0 k=E0 k'→E0 (ls.foldl (DC a p) k)=E0 (Eg (ls.filter (Lv a p)) k')
 | [],k,k',h=>h
 | l ::r,k,k',h=>by
   rw[List.foldl_cons,List.filter_cons];have e:=YU a p k l;split
   ·rename_i ho
    rw[if_pos ho]at e;exact Ln a p r _ _ (e.trans (TC h _ _))
   ·rename_i ho
    rw[if_neg (by simpa using ho)]at e;exact Ln a p r _ _ (e.trans h)
def Mn (ls:List Fact) (a:Int) (p:List Int):E0 (kn ls a p)=E0 (Eg (ls.filter (Lv a p)) k0):=Ln a p ls k0 k0 rfl
def ga (x:Fact×Bool):Bool:= !(x.1.op==2)||(decide (x.1.cls > 1)==x.2)
def XU (x:Fact×Bool) (k:Kn):SE x (k.low,k.high,k.no)=if ga x then some ((Co k x.1 x.2).low,(Co k x.1 x.2).high,(Co k x.1 x.2).no)else none:=by
 unfold SE ga Co;by_cases h2:x.1.op=2
 ·rw[if_pos h2,if_pos h2]
  cases x.2<;>cases decide (x.1.cls > 1)<;>simp[h2]
 ·rw[if_neg h2,if_neg h2]
  by_cases h3:x.1.op=3
  ·rw[if_pos h3,if_pos h3]
   cases x.2<;>simp[h2]
  ·rw[if_neg h3,if_neg h3]
   cases x.2<;>simp[h2]
def P4: ∀(os:List Fact) (k:Kn),foldI os (k.low,k.high,k.no)=if os.all (fun l=>ga (A8 l))then some ((Eg os k).low,(Eg os k).high,(Eg os k).no)else none
 | [],k=>rfl
 | l ::r,k=>by
   rw[foldI,XU,Rs];cases hb:ga (A8 l)with
   | false=>rfl
   | true=>
     rw[if_pos rfl,Option.bind_some,P4 r,Ev];rfl
def cG (k:Kn) (f:Fact) (c:Bool) (b:Nat):(Co k f c).CV.testBit b=(k.CV.testBit b||(f.op==2&& !c&&f.cls.toNat==b)):=by
 unfold Co;by_cases h2:f.op=2
 ·rw[if_pos h2]
  cases c<;>simp[h2,Nat.testBit_or,Nat.testBit_two_pow,Bool.beq_eq_decide_eq]
 ·rw[if_neg h2]
  have:(f.op==2)=false:=by simpa using h2
  rw[this]
  repeat' split
  all_goals simp
def fH (k:Kn) (f:Fact) (c:Bool) (b:Nat):(Co k f c).GK.testBit b=(k.GK.testBit b||(f.op==2&&c&&f.cls.toNat==b)):=by
 unfold Co;by_cases h2:f.op=2
 ·rw[if_pos h2]
  cases c<;>simp[h2,Nat.testBit_or,Nat.testBit_two_pow,Bool.beq_eq_decide_eq]
 ·rw[if_neg h2]
  have:(f.op==2)=false:=by simpa using h2
  rw[this]
  repeat' split
  all_goals simp
def Yd (k:Kn) (f:Fact) (c:Bool):(Co k f c).whole=(k.whole||(!c&& !(f.op==2))):=by
 unfold Co;by_cases h2:f.op=2
 ·rw[if_pos h2]
  cases c<;>simp[h2]
 ·rw[if_neg h2]
  have:(f.op==2)=false:=by simpa using h2
  rw[this];cases c<;>(repeat' split)<;>simp_all
def Lo: ∀(os:List Fact) (k:Kn) (b:Nat),(Eg os k).CV.testBit b=(k.CV.testBit b||os.any fun l=>(A8 l).1.op==2&& !(A8 l).2&&(A8 l).1.cls.toNat==b)
 | [],k,b=>by simp[Eg]
 | l::r,k,b=>by
   have:=Lo r (Co k (A8 l).1 (A8 l).2) b;rw[cG]at this;rw[QO,←Bool.or_assoc,←this];rfl
def N0: ∀(os:List Fact) (k:Kn) (b:Nat),(Eg os k).GK.testBit b=(k.GK.testBit b||os.any fun l=>(A8 l).1.op==2&&(A8 l).2&&(A8 l).1.cls.toNat==b)
 | [],k,b=>by simp[Eg]
 | l::r,k,b=>by
   have:=N0 r (Co k (A8 l).1 (A8 l).2) b;rw[fH]at this;rw[QO,←Bool.or_assoc,←this];rfl
def Jt: ∀(os:List Fact) (k:Kn),(Eg os k).whole=(k.whole||os.any fun l=> !(A8 l).2&& !((A8 l).1.op==2))
 | [],k=>by simp[Eg]
 | l::r,k=>by
   have:=Jt r (Co k (A8 l).1 (A8 l).2);rw[Yd]at this;rw[QO,←Bool.or_assoc,←this];rfl
def O0 (m up:Nat):Bool:=(List.range 64).all fun b=> !m.testBit b||up.testBit b
def Nc {m up:Nat} (hm:m<2 ^ 64):O0 m up=true↔ ∀b,m.testBit b=true→up.testBit b=true:=by
 simp only[O0,EL,List.mem_range,Fj,Bool.not_eq_true'];constructor
 ·intro h b hb
  have hlt:b<64:=by
   rcases Nat.lt_or_ge b 64 with h'|h'
   ·exact h'
   ·rw[Nat.testBit_lt_two_pow (Nat.lt_of_lt_of_le hm (Nat.pow_le_pow_right (by decide) h'))]at hb;cases hb
  rcases h b hlt with h'|h'
  ·rw[hb]at h';cases h'
  ·exact h'
 ·intro h b _
  cases hb:m.testBit b with
  | false=>exact .inl rfl
  | true=>exact .inr (h b hb)
def Nv {m n:Nat}:(m&&&n==0)=true↔ ∀b,m.testBit b=true→n.testBit b=true→False:=by
 rw[Du];constructor
 ·intro h b h1 h2
  have:=congrArg (fun x=>x.testBit b) h;simp[Nat.testBit_and,h1,h2]at this
 ·intro h
  refine Nat.eq_of_testBit_eq fun b=>?_
  rw[Nat.testBit_and,Nat.zero_testBit];cases h1:m.testBit b with
  | false=>rfl
  | true=>
    cases h2:n.testBit b with
    | false=>rfl
    | true=>exact(h b h1 h2).elim
def Qo (c b:Nat):(1|||2 ^ c).testBit b=(b==0||b==c):=by
 rw[Nat.testBit_or,Nat.testBit_two_pow,show(1:Nat)=2 ^ 0 from rfl,Nat.testBit_two_pow];rw[K5];simp only[Fj,CL,Du];omega
def II (n:Nat) (ls:List Fact):Prop:= ∀l∈ls,(A8 l).1.op=2→0≤(A8 l).1.cls∧(A8 l).1.cls<n
def OV {m n:Nat} (h: ∀b,m.testBit b=true→b<n):m<2 ^ n:=by
 refine Nat.lt_pow_two_of_testBit _ fun i hi=>?_
 cases hb:m.testBit i with
 | false=>rfl
 | true=>have:=h i hb;omega
def Q4 {os:List Fact} {n:Nat} (h:II n os):(Eg os k0).CV<2 ^ n:=OV fun b hb=>by
 rw[Lo]at hb;simp only[k0,Nat.zero_testBit,Bool.false_or,JA,BV,Du]at hb;obtain⟨l,hl,⟨h2,-⟩,rfl⟩:=hb;have:=h l hl h2;omega
def ij {os:List Fact} {n:Nat} (h:II n os):(Eg os k0).GK<2 ^ n:=OV fun b hb=>by
 rw[N0]at hb;simp only[k0,Nat.zero_testBit,Bool.false_or,JA,BV,Du]at hb;obtain⟨l,hl,⟨h2,-⟩,rfl⟩:=hb;have:=h l hl h2;omega
def Kc {os:List Fact} {b:Nat}:(Eg os k0).CV.testBit b=true↔ ∃l∈os,(A8 l).1.op=2∧(A8 l).2=false∧(A8 l).1.cls.toNat=b:=by
 rw[Lo];simp only[k0,Nat.zero_testBit,Bool.false_or,JA,BV,Du,Bool.not_eq_true',and_assoc]
def WE {os:List Fact} {b:Nat}:(Eg os k0).GK.testBit b=true↔ ∃l∈os,(A8 l).1.op=2∧(A8 l).2=true∧(A8 l).1.cls.toNat=b:=by
 rw[N0];simp only[k0,Nat.zero_testBit,Bool.false_or,JA,BV,Du,and_assoc]
def Xk {os:List Fact} {n:Nat} (hn:n≤64) (h:II n os):(O0 (Eg os k0).CV (1|||2 ^ 1)&&((Eg os k0).GK&&&(1|||2 ^ 1)==0))=os.all fun l=>ga (A8 l):=by
 rw[K5,BV,Nc (Nat.lt_of_lt_of_le (Q4 h) (Nat.pow_le_pow_right (by decide) hn)),Nv];simp only[Kc,WE,Qo,EL,ga,Fj,Bool.not_eq_true',beq_eq_false_iff_ne,Du,ne_eq];constructor
 ·rintro⟨h1,h2⟩ l hl
  by_cases ho:(A8 l).1.op=2
  ·right
   have hc:=h l hl ho;cases hb:(A8 l).2 with
   | false=>
     have:=h1 _ ⟨l,hl,ho,hb,rfl⟩;rw[decide_eq_false_iff_not];omega
   | true=>
     rw[CL];rcases Int.lt_or_le 1 (A8 l).1.cls with hlt|hle
     ·exact hlt
     ·exact(h2 _ ⟨l,hl,ho,hb,rfl⟩ (by omega)).elim
  ·exact .inl ho
 ·intro h1
  constructor
  ·rintro b ⟨l,hl,ho,hb,rfl⟩
   rcases h1 l hl with h'|h'
   ·exact absurd ho h'
   ·have hc:=h l hl ho
    rw[hb,decide_eq_false_iff_not]at h';omega
  ·rintro b ⟨l,hl,ho,hb,rfl⟩ hu
   rcases h1 l hl with h'|h'
   ·exact absurd ho h'
   ·have hc:=h l hl ho
    rw[hb,CL]at h';omega
def XS (x:Fact×Bool):(!PG x)=true↔(x.2=false→x.1.op=2∧(x.1.cls=0∨x.1.cls=2))∧(x.2=true→ ¬(x.1.op=2∧(x.1.cls=0∨x.1.cls=2))):=by
 have e:(x.1.op==2&&(x.1.cls==0||x.1.cls==2))=true↔x.1.op=2∧(x.1.cls=0∨x.1.cls=2):=by
  simp only[BV,Fj,Du]
 rw[←e,PG];generalize (x.1.op==2&&(x.1.cls==0||x.1.cls==2))=y;cases x.2<;>cases y<;>simp
def XM {os:List Fact}:(!(Eg os k0).whole)=true↔ ∀l∈os,(A8 l).2=false→(A8 l).1.op=2:=by
 rw[Jt,Bool.not_eq_true',←Bool.not_eq_true];simp only[k0,Bool.false_or,JA,BV,Bool.not_eq_true',beq_eq_false_iff_ne];constructor
 ·intro h l hl hb
  rcases Classical.em ((A8 l).1.op=2)with e|e
  ·exact e
  ·exact absurd ⟨l,hl,hb,e⟩ h
 ·rintro h ⟨l,hl,hb,e⟩
  exact e (h l hl hb)
def Uw {os:List Fact} {n:Nat} (hn:n≤64) (h:II n os):(!(Eg os k0).whole&&(O0 (Eg os k0).CV (1|||2 ^ 2)&&((Eg os k0).GK&&&(1|||2 ^ 2)==0)))=os.all fun l=> !PG (A8 l):=by
 rw[K5,BV,BV,Nc (Nat.lt_of_lt_of_le (Q4 h) (Nat.pow_le_pow_right (by decide) hn)),Nv,XM,EL];simp only[Kc,WE,Qo,Fj,Du,XS];constructor
 ·rintro⟨h0,h1,h2⟩ l hl
  refine⟨fun hb=>?_,fun hb ⟨ho,hc⟩=>h2 _ ⟨l,hl,ho,hb,rfl⟩ (by omega)⟩;have ho:=h0 l hl hb;have hc:=h l hl ho;have:=h1 _ ⟨l,hl,ho,hb,rfl⟩;exact⟨ho,by omega⟩
 ·intro h1
  refine⟨fun l hl hb=>((h1 l hl).1 hb).1,?_,?_⟩
  ·rintro b ⟨l,hl,ho,hb,rfl⟩
   have:=((h1 l hl).1 hb).2;omega
  ·rintro b ⟨l,hl,ho,hb,rfl⟩ hu
   have hc:=h l hl ho;exact(h1 l hl).2 hb ⟨ho,by omega⟩
def LZ {no:List Int}: ∀(k:Nat) (m:Int),(Yy no k m).isSome=true↔ ∃j:Nat,j<k∧m+j∉no
 | 0,m=>by simp[Yy]
 | k + 1,m=>by
   rw[Yy];split
   ·rename_i h
    simp only[Option.isSome_some,true_iff];refine⟨0,by omega,fun hm=>?_⟩;rw[EL]at h;have:=h _ hm;simp at this
   ·rename_i h
    rw[LZ k]
    have hm:m∈no:=by
     rcases Classical.em (m∈no)with h'|h'
     ·exact h'
     ·refine absurd (EL.2 fun x hx=>?_) h
      rw[nC];rintro rfl;exact h' hx
    constructor
    ·rintro⟨j,hj,h'⟩
     exact⟨j+1,by omega,by rw[show m+((j+1:Nat):Int)=m+1+j by omega];exact h'⟩
    ·rintro⟨j,hj,h'⟩
     cases j with
     | zero=>simp at h';exact absurd hm h'
     | succ j=>exact⟨j,by omega,by rw[show m+1+(j:Int)=m+((j+1:Nat):Int) by omega];exact h'⟩
def aX {low high n:Int} {no:List Int} (h0:low≤n) (h1:n∉no) (h2: ∀m,low≤m→m<n→m∈no):(SF (low,high,no)).isSome=decide (n≤high):=by
 rw[K5,SF,LZ,CL];constructor
 ·rintro⟨j,hj,h⟩
  rcases Int.lt_or_le (low+j) n with hlt|hle
  ·exact absurd (h2 _ (by omega) hlt) h
  ·simp only at hj;omega
 ·intro h
  refine⟨(n - low).toNat,by simp only;omega,?_⟩;rw[show low+((n - low).toNat:Int)=n by omega];exact h1
end Go.Gl
