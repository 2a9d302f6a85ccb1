import Derived.Test.YtijbpgdmpejgoaaGreatZ11
set_option linter.all false
set_option linter.defProp false
noncomputable section
namespace Go.Gl
open Go.Proofs
attribute [local irreducible] BC Ax Ai AU AO Ag AV AW AM Af AR AT A0 A9 Sat Ab A6 Ak W
def fA {a b:Nat} {A B:Prop} (e:a=b) (h:A):(a=b→A)∧(a≠b→B):=⟨fun _=>h,fun n=>absurd e n⟩
def sC {a b:Nat} {A B:Prop} (e:a≠b) (h:B):(a=b→A)∧(a≠b→B):=⟨fun n=>absurd n e,fun _=>h⟩
def ZN {P:Program} {σ:AH} {tab:List (TypeId×FuncId)} {t:TypeId} {f:FuncId} {v:V} {args:List V} {Q:R→AH→Prop} (h:look t tab=some f) (hc:BC P f (v::args) σ Q):A9 P tab (.Jd t v) args σ Q:=by
 unfold A9;simp only[h];exact hc
def aV (p:Prog) (n size depth:Int):Pure Tryz.prog 167 [.a (BU p),eI n,.a [eI size,eI depth]] (.f (.func 213) [] [.rp (BU p),.rp [eI n],.rp [eI size,eI depth]]):=by
 refine jt kZ ?_;have hs:=Sn
 conv=>whnf
 repeat'((first|apply st|(apply sq;intro K U)|(apply si;intro A B Y Z)|(apply Y;clear Z B Y A)|(apply U;clear U K)|fail)<;>conv=>whnf)
 all_goals exact AI rfl
set_option maxHeartbeats 4000000 in
def gx (p:Prog) (next:Bool) {L:Nat} {E:Env} {ok:FuncId→Array Tmp→Code→Code→Nat→Prop} {v:V} {nO:Nat}
    (hY:K6 Tryz.prog L E ok r5 (hOut nO v) (fun s=>s.length=p.nodes.length) (fun y s=>YB (Ew p next y.1 y.2.1 y.2.2 s)) (dP p)) (n size:Int) (s:List Int) (h0:0≤size) (h1:size≤20) (hl:s.length=p.nodes.length) (rest:List At) (σ:AH)
    (hs : Sat σ (.obj L (.loop .ready E ok)::(hOut nO v s++rest))) :
     BC Tryz.prog 213 [.f (.yield L) [] [],.rp (BU p),.rp [eI n],.rp [eI size,eI 1]] σ
      (bG L E ok (hOut nO v) (fun s=>s.length=p.nodes.length) rest (.t []) (.t []) (YB (CD p next 12 n size s))):=by
 refine jO kZ ?_
 conv=>whnf
 repeat'((first|apply st|(apply sq;intro K U)|(apply si;intro A B Y Z)|(apply Y;clear Z B Y A)|(apply U;clear U K)|refine⟨kZ,?_⟩|refine ld ?_|refine El fun σ hs=>?_|(intro nn hnn;generalize hg:A8 _ nn _=σ;refine CW hg fun hs=>?_;clear hg)|fail)<;>conv=>whnf)
 have hp:Sat σ (.obj L (.loop .ready E ok)::(hOut nO v s++(.box nn [Ti p L nn]::rest))):=hs.perm (by
  refine(List.Perm.swap _ _ _).trans (.cons _ ?_)
  exact(List.perm_middle (l₁:=hOut nO v s)).symm)
 refine Bl ((bV p next hY 12 (Ja _) n size 1 s rfl h0 (by omega) hl nn rest σ hp).mono ?_);cases hw:CD p next 12 n size s with
 | none=>
   rintro r σ' ⟨rfl,s',hj,hs'⟩
   conv=>whnf
   repeat'((first|(refine Z _ _ _ ?_;clear Z B Y A)|fail)<;>conv=>whnf)
   refine DG ?_;rw[hw];exact⟨rfl,s',hj,hs'.less (List.Sublist.append_left (Kh _ _) _)⟩
 | some s2=>
   rintro r σ' ⟨rfl,hs'⟩
   conv=>whnf
   repeat'((first|(apply Y;clear Z B Y A)|fail)<;>conv=>whnf)
   refine AP ?_;rw[hw];exact⟨rfl,hs'.less (.cons₂ _ (List.Sublist.append_left (Kh _ _) _))⟩
def S2 (p:Prog) (x:Node):(x.op=5∧Ot x.op= .Jd 207 (.a []))∨(x.op≠5∧ ∃m:Int,Ot x.op= .Jd 205 (eI m)∧H4 p x=m)∨(Ot x.op= .Hq∧H4 p x= -1):=by
 unfold Ot H4;by_cases h5:x.op=5
 ·exact .inl ⟨h5,by rw[if_pos h5]⟩
 ·rw[if_neg h5]
  split
  ·exact .inr (.inl ⟨h5,_,rfl,rfl⟩)
  split
  ·exact .inr (.inl ⟨h5,_,rfl,rfl⟩)
  split
  ·exact .inr (.inl ⟨h5,_,rfl,rfl⟩)
  split
  ·exact .inr (.inl ⟨h5,_,rfl,rfl⟩)
  ·exact .inr (.inr ⟨rfl,by rw[if_neg (by rintro⟨h,_⟩;exact h5 h)]⟩)
def Qc {p:Prog} {x:Node} (h:x.op=5) {size:Int} (hn:Ks p x size=true):0≤x.n∧x.n<p.Cl.length∧H4 p x=p.Cl.getD x.n.toNat 0:=by
 have h2:0≤x.n∧x.n<p.Cl.length:=by
  simp only[Ks,h]at hn;simpa using hn
 refine⟨h2.1,h2.2,?_⟩;unfold H4;rw[h,if_neg (by decide),if_neg (by decide),if_neg (by decide),if_neg (by decide),if_pos ⟨rfl,h2.1,h2.2⟩]
def ZU {p:Prog} {next:Bool} {n size depth:Int} {s:List Int} (h:n<0∨(p.nodes.length:Int)≤n∨0≤s.getD n.toNat 0∨12<depth):Ew p next n size depth s=none:=by
 unfold Ew;rw[if_pos h]
def ZV {p:Prog} {next:Bool} {n size depth:Int} {s:List Int} {y:Int} {x:Node} (h0:0≤n) (h1:n<(p.nodes.length:Int)) (hy:s[n.toNat]? =some y) (hy0:y<0) (hd:depth≤12) (hx:p.nodes[n.toNat]? =some x):Ew p next n size depth s=if Dy p next size x then some (s.set n.toNat size)else none:=by
 have e:s.getD n.toNat 0=y:=by rw[Dc,hy];rfl
 unfold Ew;rw[if_neg (by rw[e];omega),hx]
def nu (p:Prog) (nO:Nat) (v:V) (rest:List At) (o:Option (List Int)) (r:R) (σ:AH):Prop:=
 match o with
 | some s=>r= .ret (.t [])∧Sat σ (hOut nO v s++rest)
 | none=>r= .Cy Di∧ ∃s:List Int,s.length=p.nodes.length∧Sat σ (hOut nO v s++rest)
set_option maxHeartbeats 4000000 in
def Qj (p:Prog) (next:Bool) {v:V} {nO:Nat} (hv:(Cc v).isSome=true) (n size:Int) (s:List Int) (h0:0≤size) (h1:size≤20) (hl:s.length=p.nodes.length) (rest:List At) (σ:AH) (hs:Sat σ (hOut nO v s++rest)) :
    BC Tryz.prog 166 [eI n,eI size,.b next,.rp (BU p),.p nO 0] σ (nu p nO v rest (CD p next 12 n size s)):=by
 refine BC.fit (by kernel_rfl) fun hf=>?_
 have hM:=Mx
 have hfp:Ev (.a (BU p)):=by
  have:=hf.2.2.2.1;simp only[Qh]at this;simpa only[IC]using this
 have⟨p1,p2,p3,p4⟩:=Gq hfp;refine ju kZ ?_
 conv=>whnf
 repeat'((first|apply st|(apply sq;intro K U)|(apply si;intro A B Y Z)|(apply Y;clear Z B Y A)|(apply U;clear U K)|refine⟨kZ,?_⟩|refine Pure.use (aV _ _ _ _) ?_|(intro nn hnn;generalize hg:A8 _ nn _=σ;refine CW hg fun hs=>?_;clear hg)|fail)<;>conv=>whnf)
 refine BC.mono (gx p next (L:=nn) (v:=v) (nO:=nO) ?_ n size s h0 h1 hl rest σ hs) ?_
 ·refine Lj (fun y=>rfl) ?_
  clear hs hnn hl h0 h1;rintro⟨k,sz,dp⟩ s ⟨d0,d1,d2,d3,hl⟩ rest σ hs;dsimp only at d0 d1 d2 d3 hl;dsimp only;rw[show r5 (k,sz,dp)= [eI k,.a [eI sz,eI dp]] from rfl]
  conv=>whnf
  repeat'((first|apply st|(apply sq;intro K U)|(apply si;intro A B Y Z)|(apply Y;clear Z B Y A)|(refine Z _ _ _ ?_;clear Z B Y A)|(refine Z _ _ fun σ hsub=>?_;clear Z B Y A)|(apply U;clear U K)|apply dr|refine rk ?_ ?_|exact fun s e=>by cases e;rfl|refine⟨rfl,?_⟩|refine⟨kZ,?_⟩|refine iq fun x hx=>?_|refine ld ?_|refine DJ fun σ hs=>?_|refine oi ?_|refine ol fun x hx=>?_|refine oset fun σ hs=>?_|refine E7 ?_|refine EA ?_|(refine Cf (fun hc=>?_) (fun hc=>?_)<;>(replace hc:=bp hc)<;>(try simp(disch:=omega) only[BQ,wrap64,AL]at hc)<;>(try(cases hc;done)))|refine Pure.use (Wz _ _ _) ?_|refine Pure.use (XD _) ?_|(rcases S2 p (by assumption)with⟨e5,ek⟩|⟨e5,m,ek,hm⟩|⟨ek,hm⟩<;>rw[ek]<;>clear ek)|refine fA rfl ?_|refine sC (by decide) ?_|refine ZN rfl (Pure.use (l9 _ _ _) ?_)|refine ZN rfl (Pure.use (dS _ _ (Qc (by assumption) (by assumption)).1 (Qc (by assumption) (by assumption)).2.1) ?_)|(constructor<;>intro hc<;>(try rw[hc])<;>(replace hc:=bp hc)<;>(try simp(disch:=omega) only[BQ,wrap64,AL]at hc))|(intro nn hnn;generalize hg:A8 _ nn _=σ;refine CW hg fun hs=>?_;clear hg)|clear U K)<;>conv=>whnf)
  all_goals first
   | (intro hn;refine PB (s:=s) (by rw[ZU (by first|omega|(rw[Dc,‹s[k.toNat]? =some _›];simp only[Option.getD_some];omega))];rfl) hl (hs.less (by repeat first|exact List.Sublist.refl _|apply List.Sublist.cons)) hn)
   | skip
  all_goals
   have hva:=ZV (next:=next) (size:=sz) (depth:=dp) (show 0≤k by omega) (show k<(p.nodes.length:Int) by omega) ‹s[k.toNat]? =some _› (by assumption) (by omega) ‹p.nodes[k.toNat]? =some _›
   rename Node=>x
   have hk5:x.op=5→Ks p x sz=true→H4 p x=p.Cl.getD x.n.toNat 0:=fun h hn=>(Qc h hn).2.2
   intro hn
  all_goals first
   | (rw[if_neg (by first|(intro h;rw[Dy,hk5 (by assumption) (by assumption)]at h;simp only[BY,Dn]at h;exact absurd h.1 (by assumption))|(simp[Dy, *];done)|(simp[Dy, *];omega)|(rw[Dy,hk5 (by assumption) (by assumption)];simp[*];done)|(simp[Dy, *];intros;omega))]at hva
      refine PB (s:=s.set k.toNat sz) (by rw[hva];rfl) (by simpa using hl) ?_ hn
      first
       | exact hs.less (by repeat first|exact List.Sublist.refl _|apply List.Sublist.cons)
       | exact(hs.less (by repeat first|exact List.Sublist.refl _|apply List.Sublist.cons)).up (by assumption))
   | (rw[if_pos (by first|(simp[Dy, *];done)|(rw[Dy,hk5 (by assumption) (by assumption)];simp[*];done))]at hva
      exact SD (s:=s.set k.toNat sz) (by rw[hva];rfl) (hs.less (by repeat first|exact List.Sublist.refl _|apply List.Sublist.cons)) hn)
 ·cases hw:CD p next 12 n size s with
  | none=>
    rintro r σ' ⟨rfl,s',hj,hs'⟩
    conv=>whnf
    exact DG ⟨rfl,s',hj,hs'⟩
  | some s2=>
    rintro r σ' ⟨rfl,hs'⟩;refine FJ hs' fun σ2 hs2=>?_
    conv=>whnf
    exact AP ⟨rfl,hs2⟩
def CE (w:AK):Prop:=Ha w.parents∧w.owner.length≤40∧ ∀o∈w.owner,(3:Int)≤o∧o<3+(w.parents.length:Int)
def TY (us:List Nat) (l:List Int) (s:Nat):Nat:=l.foldl (fun s c=>s|||us.getD c.toNat 0) s
def CV (g:List (List Int)):Nat→List Nat
 | 0=>[1,3,5]
 | k+1=>CV g k++[TY (CV g k) (g.getD k []) (1|||2 ^ (3+k))]
def B0 (g:List (List Int)):List Nat:=CV g g.length
def bM (us:List Nat):List V:=us.map eU++List.replicate (63 - us.length) (eU 0)
def wC (w:AK) (us:List Nat):List V:=A2 w++bM us
def EN (g:List (List Int)): ∀k,(CV g k).length=3+k
 | 0=>rfl
 | k+1=>by simp[CV,EN g k];omega
def YX (w:AK) {us:List Nat} (h:us.length≤63):(wC w us).length=65:=by
 simp only[wC,A2,bM,RA,MC,List.length_nil,BQ,List.length_replicate];omega
def YW (w:AK) (us:List Nat) (s:Nat) (h:us.length<63):(wC w us).set (2+us.length) (eU s)=wC w (us++[s]):=by
 simp only[wC,bM];rw[List.set_append_right _ _ (by simp[A2])];congr 1;have e:2+us.length - (A2 w).length=us.length:=by simp[A2]
 rw[e,List.set_append_right _ _ (by simp)];rw[BQ,Nat.sub_self,TN,TW];congr 1;rw[show 63 - us.length=(63 - (us++[s]).length)+1 by simp;omega,List.replicate_succ];rfl
def U1 (w:AK) (us:List Nat) {i:Nat} (h:i<us.length):(wC w us)[2+i]? =some (eU (us.getD i 0)):=by
 simp only[wC,bM];rw[List.getElem?_append_right (by simp[A2]),show 2+i - (A2 w).length=i by simp[A2],ei (by simpa using h),Pw,Da h,Dc,Da h];rfl
def lR (us:List Nat):Prop:= ∀u∈us,u<18446744073709551616
def Kz {us:List Nat} (h:lR us) (i:Nat):us.getD i 0<18446744073709551616:=by
 rw[Dc];cases hx:us[i]? with
 | none=>simp
 | some x=>exact h x (Cj hx)
def QO {us:List Nat} (h:lR us): ∀(l:List Int) (s:Nat),s<18446744073709551616→TY us l s<18446744073709551616
 | [],_,hs=>hs
 | c::r,s,hs=>QO h r _ (Ji hs (Kz h _))
def Gu (g:List (List Int)): ∀k,k≤60→lR (CV g k)
 | 0,_=>by intro u hu;simp[CV]at hu;omega
 | k+1,hk=>by
   intro u hu;simp only[CV,FQ,Kj]at hu;rcases hu with hu|rfl
   ·exact Gu g k (by omega) u hu
   ·exact QO (Gu g k (by omega)) _ _ (Ji (by decide) (JC (by omega)))
def gB (w:AK) (us:List Nat) (c:Int) {n:Nat} (hM:w.parents.length≤60):Bd Tryz.prog 178 [.p n 0,eI c] [.box n (wC w us)] fun r post=>r= .ret (.b (decide (3≤c)&&decide (c<3+(w.parents.length:Int))))∧post= [.box n (wC w us)]:=by
 intro σ hs;have hw:IntKind.i64.wrap (3+((EZ w.parents).length:Nat))=3+(w.parents.length:Int):=by rw[BQ,wrap64 (by omega) (by omega)]
 refine Yx kZ ?_
 conv=>whnf
 repeat'((first|apply st|(apply sq;intro K U)|(apply si;intro A B Y Z)|(apply Y;clear Z B Y A)|(apply U;clear U K)|refine⟨rfl,?_⟩|refine ld ?_|(constructor<;>intro hc<;>(try rw[hc])<;>(replace hc:=bp hc))|fail)<;>conv=>whnf)
 ·refine AP ⟨_,⟨?_,rfl⟩,hs⟩
  rw[hw,decide_eq_true (show 3≤c by omega)];rfl
 ·refine AP ⟨_,⟨?_,rfl⟩,hs⟩
  rw[decide_eq_false (show¬3≤c by omega)];rfl
def cA (w:AK) (us:List Nat) (c:Int) (hM:w.parents.length≤60):Pure Tryz.prog 178 [.rp (wC w us),eI c] (.b (decide (3≤c)&&decide (c<3+(w.parents.length:Int)))):=by
 have hw:IntKind.i64.wrap (3+((EZ w.parents).length:Nat))=3+(w.parents.length:Int):=by rw[BQ,wrap64 (by omega) (by omega)]
 refine Yx kZ ?_;have hs:=Sn
 conv=>whnf
 repeat'((first|apply st|(apply sq;intro K U)|(apply si;intro A B Y Z)|(apply Y;clear Z B Y A)|(apply U;clear U K)|refine⟨rfl,?_⟩|(constructor<;>intro hc<;>(try rw[hc])<;>(replace hc:=bp hc))|fail)<;>conv=>whnf)
 ·refine AI ?_
  rw[hw,decide_eq_true (show 3≤c by omega)];rfl
 ·refine AI ?_
  rw[decide_eq_false (show¬3≤c by omega)];rfl
def aN (w:AK) (us:List Nat) (c:Int) (hM:w.parents.length≤60):Pure Tryz.prog 222 [.rp (wC w us),eI c] (.b (Ma w c)):=by
 have hw:IntKind.i64.wrap (3+((EZ w.parents).length:Nat))=3+(w.parents.length:Int):=by rw[BQ,wrap64 (by omega) (by omega)]
 refine jH kZ ?_;have hs:=Sn
 conv=>whnf
 repeat'((first|apply st|(apply sq;intro K U)|(apply si;intro A B Y Z)|(apply Y;clear Z B Y A)|(apply U;clear U K)|refine⟨rfl,?_⟩|(constructor<;>intro hc<;>(try rw[hc])<;>(replace hc:=bp hc))|fail)<;>conv=>whnf)
 ·refine AI ?_
  rw[hw,Ma,decide_eq_true (show 0≤c by omega)];rfl
 ·refine AI ?_
  rw[Ma,decide_eq_false (show¬0≤c by omega)];rfl
def bj (w:AK) (us:List Nat) (c:Int) (hM:w.owner.length≤60):Pure Tryz.prog 254 [.rp (wC w us),eI c] (.b (Gj w c)):=by
 refine ie kZ ?_;have hs:=Sn
 conv=>whnf
 repeat'((first|apply st|(apply sq;intro K U)|(apply si;intro A B Y Z)|(apply Y;clear Z B Y A)|(apply U;clear U K)|refine⟨rfl,?_⟩|(constructor<;>intro hc<;>(try rw[hc])<;>(replace hc:=bp hc))|fail)<;>conv=>whnf)
 ·refine AI ?_
  rw[Gj,decide_eq_true (show 0≤c by omega),BQ];rfl
 ·refine AI ?_
  rw[Gj,decide_eq_false (show¬0≤c by omega)];rfl
def b6 (w:AK) (us:List Nat) (l:List Int) (f:Bool) (hM:w.owner.length≤60):Pure Tryz.prog 221 [.rp (wC w us),.l (iL l) f] (.b (Ea w l)):=by
 have hall:=dU (g:=254) (fi:=[.rp (wC w us)]) (ca:=[]) (f:=Gj w) (xs:=l) f (fun y _=>bj w us y hM);refine jI kZ ?_;have hs:=Sn
 conv=>whnf
 repeat'((first|apply st|(apply sq;intro K U)|(apply si;intro A B Y Z)|(apply Y;clear Z B Y A)|(apply U;clear U K)|refine⟨rfl,?_⟩|(constructor<;>intro hc<;>(try rw[hc])<;>(replace hc:=bp hc)<;>(try simp(disch:=omega) only[BQ,wrap64,AL]at hc))|refine Pure.use (by assumption) ?_|fail)<;>conv=>whnf)
 ·refine AI ?_
  rw[Ea,decide_eq_true (show l.length≤2 by omega),Bool.and_true];rfl
 ·refine AI ?_
  rw[Ea,decide_eq_false (show¬l.length≤2 by omega),Bool.and_false];rfl
def Gt (s:Nat) (c:Int) (hs0:s<18446744073709551616) (h0:0≤c) (hc:c<64):Pure Tryz.prog 176 [eU s,eI c] (eU (s|||2 ^ c.toNat)):=by
 have:=VE s c.toNat hs0 (by omega);rw[Int.toNat_of_nonneg h0]at this;exact this
def tx {k:Nat} (h:k<3):([1,3,5]:List Nat).take k++[1|||2 ^ k]= [1,3,5].take (k+1):=by
 rcases k with _|_|_|k
 ·rfl
 ·rfl
 ·rfl
 ·omega
set_option maxHeartbeats 4000000 in
def cE (w : AK) (hw:CE w):Pure Tryz.prog 139 [.a (A2 w)] (.t [.rp (wC w (B0 w.parents)),.b true]):=by
 obtain⟨⟨hl,hrow⟩,ho,how⟩:=hw;have hM:=Mx;refine Pure.of ?_;refine kJ kZ ?_;have hs:=Sn;have hi1:((EZ w.parents).length:Int)≤60:=by rw[BQ];omega
 have hi2:((iL w.owner).length:Int)≤40:=by rw[BQ];omega
 conv=>whnf
 repeat'((first|apply st|(apply sq;intro K U)|(apply si;intro A B Y Z)|(apply Y;clear Z B Y A)|(apply U;clear U K)|refine⟨rfl,?_⟩|refine⟨kZ,?_⟩|(constructor<;>intro hc<;>(try rw[hc])<;>(replace hc:=bp hc)<;>(try simp(disch:=omega) only[BQ,wrap64,AL]at hc)<;>try(exfalso;omega))|(intro nn hnn;generalize hg:A8 _ nn _=σ;refine CW hg fun hs=>?_;clear hg)|fail)<;>conv=>whnf)
 generalize nn=n0 at *;refine CZ 3 (fun k (_:Unit)=>[(24,eI (BL k))]) (fun k _=>[.box n0 (wC w ([1,3,5].take k))]) (fun k _=>True) () rfl trivial hs ?_;clear hs;rintro k - σ hk - hs;have hck:BL k=k:=AL (by omega);have hlen:(([1,3,5]:List Nat).take k).length=k:=by simp;omega
 by_cases hlt:k<3
 ·have hst:=YW w ([1,3,5].take k) (1|||2 ^ k) (by omega)
  rw[hlen,tx hlt]at hst
  conv=>whnf
  repeat'((first|apply st|(apply sq;intro K U)|(apply si;intro A B Y Z)|(apply Y;clear Z B Y A)|(apply U;clear U K)|apply dr|refine⟨rfl,?_⟩|refine TQ ?_|refine Pure.use (Gt 1 _ (by decide) (by omega) (by omega)) ?_|(constructor<;>intro hc<;>(try rw[hc])<;>(replace hc:=bp hc)<;>(try simp(disch:=omega) only[BQ,wrap64,AL]at hc)<;>try(exfalso;omega))|fail)<;>conv=>whnf)
  refine Jy hs 0 rfl rfl (by rw[YX w (by omega)];omega) fun σ hs=>?_
  conv=>whnf
  repeat'((first|(apply si;intro A B Y Z)|(apply Y;clear Z B Y A)|(apply U;clear U K)|apply dr|refine⟨rfl,?_⟩|clear U K)<;>conv=>whnf)
  refine⟨hlt,(),rfl,trivial,?_⟩;rw[hck,Jb,Nat.mul_one,Gb]at hs;simp only[List.set_cons_zero]at hs;rw[hst]at hs;exact hs
 ·have hke:k=3:=by omega
  subst hke;clear hk hck hlen hlt
  conv=>whnf
  repeat'((first|apply st|(apply sq;intro K U)|(apply si;intro A B Y Z)|(apply Y;clear Z B Y A)|(apply U;clear U K)|refine⟨rfl,?_⟩|(constructor<;>intro hc<;>(try rw[hc])<;>(replace hc:=bp hc)<;>(try simp(disch:=omega) only[BQ,wrap64,AL]at hc)<;>try(exfalso;omega))|clear U K)<;>conv=>whnf)
  refine CZ w.parents.length (fun k (_:Unit)=>[(38,eI (BL k))]) (fun k _=>[.box n0 (wC w (CV w.parents k))]) (fun k _=>True) () rfl trivial hs ?_;clear hs;rintro k - σ hk - hs;have hck:BL k=k:=AL (by omega);have hul:=EN w.parents k;have huo:=Gu w.parents k (by omega);have hw3:IntKind.i64.wrap (3+(k:Int))=3+(k:Int):=wrap64 (by omega) (by omega);rcases BS w.parents hk with⟨row,hr,hlt⟩|hke
  ·obtain⟨r1,r2,r3⟩:=hrow k row hr
   rw[←hck]at hw3
   conv=>whnf
   repeat'((first|apply st|(apply sq;intro K U)|(apply si;intro A B Y Z)|(apply Y;clear Z B Y A)|(apply U;clear U K)|refine⟨rfl,?_⟩|refine ix ?_|(refine Cs (fun hc=>?_)<;>(try rw[hc])<;>clear hc)|refine Pure.use (Gt 1 _ (by decide) (by omega) (by omega)) ?_|fail)<;>conv=>whnf)
   have hbig:lR (CV w.parents k):=huo;have hst0:IntKind.i64.wrap (3+BL k)=3+(k:Int):=by rw[hck];exact wrap64 (by omega) (by omega)
   have hs0lt:1|||2 ^ (3+k)<18446744073709551616:=Ji (by decide) (JC (by omega))
   have hs0e:1|||2 ^ (IntKind.i64.wrap (3+BL k)).toNat=1|||2 ^ (3+k):=by rw[hst0,show(3+(k:Int)).toNat=3+k by omega]
   rw[hs0e];refine CZ row.length (fun j (s:Nat)=>[(48,eI (BL j)),(8,eU s)]) (fun _ _=>[.box n0 (wC w (CV w.parents k))]) (fun j s=>s=TY (CV w.parents k) (row.take j) (1|||2 ^ (3+k))) (1|||2 ^ (3+k)) rfl rfl hs ?_;clear hs;rintro j s σ hj hse hs;rcases BS row hj with⟨c,hcj,hjlt⟩|hje
   ·obtain⟨q1,q2⟩:=r3 c (Cj hcj)
    have hload:(wC w (CV w.parents k))[0+2+c.toNat*1]? =some (eU ((CV w.parents k).getD c.toNat 0)):=by
     have:=U1 w (CV w.parents k) (i:=c.toNat) (by omega);rw[←this];congr 1;omega
    have hnc:(row.take j).contains c=false:=by
     rw[←Bool.not_eq_true,List.contains_iff_mem];intro hm;obtain⟨i,hi,he⟩:=List.mem_iff_getElem.1 hm;have hi':i<j:=by rw[MS]at hi;omega
     rw[List.getElem_take]at he;have hcj':=(Hr.1 hcj).2;exact absurd ((List.getElem_inj r2).1 (he.trans hcj'.symm)) (by omega)
    have hct: ∀b,Pure Tryz.prog 172 [.l (iL (row.take j)) b,eI c] (.b false):=fun b=>by
     have:=Dl (row.take j) b c
     rwa [hnc]at this
    conv=>whnf
    repeat'((first|apply st|(apply sq;intro K U)|(apply si;intro A B Y Z)|(apply Y;clear Z B Y A)|(apply U;clear U K)|refine⟨rfl,?_⟩|refine ix ?_|refine rn ?_|refine TQ ?_|refine ld ?_|refine EA ?_|(refine Cs (fun hc=>?_)<;>(try rw[hc])<;>clear hc)|refine Pure.use (hct _) ?_|(rw[hload])|(constructor<;>intro hc<;>(try rw[hc])<;>(replace hc:=bp hc)<;>(try simp(disch:=omega) only[BQ,wrap64,AL]at hc)<;>try(exfalso;omega))|clear U K)<;>conv=>whnf)
    refine⟨hjlt,s|||(CV w.parents k).getD c.toNat 0,?_,?_,hs⟩
    ·have hsl:s<18446744073709551616:=by rw[hse];exact QO huo _ _ hs0lt
     rw[J1 hsl (Kz huo _)];rfl
    ·rw[hse,AX hcj]
     simp only[TY,List.foldl_append];rfl
   ·conv=>whnf
    repeat'((first|apply st|(apply sq;intro K U)|(apply si;intro A B Y Z)|(apply Y;clear Z B Y A)|(apply U;clear U K)|refine⟨rfl,?_⟩|refine TQ ?_|(refine EV (fun hc=>?_)<;>(try rw[hc])<;>clear hc)|clear U K)<;>conv=>whnf)
    refine Jy hs 0 rfl rfl (by rw[YX w (by omega),hst0];omega) fun σ hs=>?_
    conv=>whnf
    repeat'((first|(apply si;intro A B Y Z)|(apply Y;clear Z B Y A)|(apply U;clear U K)|refine⟨rfl,?_⟩|clear U K)<;>conv=>whnf)
    refine⟨hlt,(),rfl,trivial,?_⟩
    have e:CV w.parents (k+1)=CV w.parents k++[s]:=by
     rw[hse,CV,Dc,hr,hje,List.take_length];rfl
    have hst:=YW w (CV w.parents k) s (by omega);rw[e,←hst];have e2:0+2+(IntKind.i64.wrap (3+BL k)).toNat*1=2+(CV w.parents k).length:=by rw[hst0,hul];omega
    rw[e2]at hs;exact hs
  ·have hown:=ZA 178 [.p n0 0] [] (fun _=>[.box n0 (wC w (CV w.parents k))]) (Rj fun c=>decide (3≤c)&&decide (c<3+(w.parents.length:Int))) (fun _ _=>True) (fun y s _ σ hs=>Bl (BC.mono (gB w (CV w.parents k) y (by omega) σ hs) (by
    rintro r σ' ⟨post,⟨h1,h2⟩,h3⟩;subst h2
    exact⟨h1,h3⟩))) w.owner false () (GW fun _ _ _=>trivial)
   rw[Ih]at hown
   have hall:(w.owner.all fun c=>decide (3≤c)&&decide (c<3+(w.parents.length:Int)))=true:=by
    rw[EY];intro o hoo;have:=how o hoo;simp only[BY,CY];exact this
   rw[hall]at hown
   conv=>whnf
   repeat'((first|apply st|(apply sq;intro K U)|(apply si;intro A B Y Z)|(apply Y;clear Z B Y A)|(apply U;clear U K)|refine⟨rfl,?_⟩|(refine EV (fun hc=>?_)<;>(try rw[hc])<;>clear hc)|clear U K)<;>conv=>whnf)
   refine hown.use (rest:=[]) hs ?_;rintro r post σ ⟨rfl,rfl⟩ hs
   conv=>whnf
   repeat'((first|apply st|(apply Y;clear Z B Y A)|(apply U;clear U K)|fail)<;>conv=>whnf)
   rw[hke]at hs;exact GM (σ2:=emp) (fun n o ho=>by cases ho) (.t (.cons (hs.sL 0 rfl (.refl _ _ _)) (.cons (.refl _) .nil))) rfl
def K0 (w:AK) (f:Fact):Bool:=decide (0≤f.arg)&&(decide (f.arg<3)&&(Ea w f.path&&(if f.op=2 then f.n==0&&Ma w f.cls else f.cls==0&&(decide (-1000000000≤f.n)&&decide (f.n≤1000000000)))))
def EM (w:AK) (f:Fact):Int→Int→Bool×Int:=f.Gi fun f l left deep=>
 if IntKind.i64.wrap (left - 1)<0∨deep=0∨f.op<1∨7<f.op∨f.kids.length≠B1 f.op then(false,IntKind.i64.wrap (left - 1))else
 if Bm f then(K0 w f,IntKind.i64.wrap (left - 1))else
 if f.arg≠0∨0<f.path.length∨f.cls≠0∨f.n≠0 then(false,IntKind.i64.wrap (left - 1))else
 Ca (fun(k:Int→Int→Bool×Int) s=>k s (deep - 1)) l (IntKind.i64.wrap (left - 1))
def KQ {α β S:Type} (g:α→β) (stp:β→S→Bool×S): ∀(l:List α) (s:S),Ca stp (l.map g) s=Ca (fun a s=>stp (g a) s) l s
 | [],_=>rfl
 | a::r,s=>by simp only[Et,Ca,KQ g stp r]
def Gx (w:AK) (f:Fact) (left deep:Int):EM w f left deep =
    if IntKind.i64.wrap (left - 1)<0∨deep=0∨f.op<1∨7<f.op∨f.kids.length≠B1 f.op then(false,IntKind.i64.wrap (left - 1))else
    if Bm f then(K0 w f,IntKind.i64.wrap (left - 1))else
    if f.arg≠0∨0<f.path.length∨f.cls≠0∨f.n≠0 then(false,IntKind.i64.wrap (left - 1))else
    Ca (fun k s=>EM w k s (deep - 1)) f.kids (IntKind.i64.wrap (left - 1)):=by
 rw[EM,Fact.DX,KQ];rfl
def U4 {w:AK} {f:Fact} {left deep L1:Int} {b:Bool} {nL:Nat} {σ:AH} (hs:Sat σ [.box nL [eI L1]]) (h:EM w f left deep=(b,L1)):Ax σ (.b b) fun r σ'=> ∃post:List At,(r=R.ret (.b (EM w f left deep).1)∧post= [.box nL [eI (EM w f left deep).2]])∧Sat σ' post:=by
 rw[h];exact AP ⟨_,⟨rfl,rfl⟩,hs⟩
set_option maxHeartbeats 4000000 in
def cI (w:AK) (us:List Nat) (hw1:w.parents.length≤60) (hw2:w.owner.length≤60) (nL:Nat) (f:Fact): ∀(left deep:Int),0≤deep→deep≤12→
    Bd Tryz.prog 181 [.rp (wC w us),.a (xF f),.p nL 0,eI deep] [.box nL [eI left]] fun r post=>r= .ret (.b (EM w f left deep).1)∧post= [.box nL [eI (EM w f left deep).2]]:=by
 induction f using Fact.ind with
 | h f ih=>
   intro left deep hd0 hd1 σ hs;refine BC.fit (by kernel_rfl) fun hf=>?_
   have⟨h2,h3,h4⟩:=Jm hf.2.1;have hM:=Mx;have hdw:IntKind.i64.wrap (deep - 1)=deep - 1:=wrap64 (by omega) (by omega);refine jh kZ ?_
   have hstep:C2 Tryz.prog (.f (.func 223) [] [.rp [.rp (wC w us)],.rp [.p nL 0],.rp [eI deep]]) (fun y=> .a (xF y)) (fun s=>[.box nL [eI s]]) (fun k s=>EM w k s (deep - 1)) (fun y _=>y∈f.kids∧deep≠0):=by
    rintro y s ⟨hy,hdn⟩ σ hs;refine Bl ?_;show BC Tryz.prog 223 ([]++[.a (xF y)]++[.rp [.rp (wC w us)],.rp [.p nL 0],.rp [eI deep]]) σ _;refine jG kZ ?_
    conv=>whnf
    repeat'((first|apply st|(apply sq;intro K U)|(apply si;intro A B Y Z)|(apply Y;clear Z B Y A)|(apply U;clear U K)|refine⟨rfl,?_⟩|refine⟨kZ,?_⟩|fail)<;>conv=>whnf)
    rw[hdw];refine(ih y hy s (deep - 1) (by omega) (by omega)).use (rest:=[]) hs ?_;rintro r post σ ⟨rfl,rfl⟩ hs
    conv=>whnf
    repeat'((first|apply st|(apply Y;clear Z B Y A)|(apply U;clear U K)|fail)<;>conv=>whnf)
    exact AP ⟨rfl,hs⟩
   conv=>whnf
   repeat'((first|apply st|(apply sq;intro K U)|(apply si;intro A B Y Z)|(apply Y;clear Z B Y A)|(apply U;clear U K)|apply dr|refine rk ?_ ?_|exact fun s e=>by cases e;rfl|refine⟨rfl,?_⟩|refine⟨kZ,?_⟩|refine ld ?_|refine El fun σ hs=>?_|refine Pure.use (ML _) ?_|refine Pure.use (cY _) ?_|refine Pure.use (aN w us _ hw1) ?_|refine Pure.use (b6 w us _ _ hw2) ?_|(constructor<;>intro hc<;>(try rw[hc])<;>(replace hc:=bp hc)<;>(try simp(disch:=omega) only[BQ,wrap64,AL]at hc))|clear U K)<;>conv=>whnf)
   all_goals first
    | (refine U4 hs ?_;rw[Gx,if_pos (by omega)];done)
    | (refine U4 hs ?_;rw[Gx,if_neg (by omega),if_pos (by assumption)];simp[K0, *];done)
    | (refine U4 hs ?_;rw[Gx,if_neg (by omega),if_pos (by assumption)];simp[K0, *];intros;omega)
    | (refine U4 hs ?_;rw[Gx,if_neg (by omega),if_neg (by simp[*]),if_pos (by omega)];done)
    | skip
   refine(Y9 223 [] _ _ _ _ hstep f.kids false (IntKind.i64.wrap (left - 1)) h2 (GW fun y hy _=>⟨hy,by omega⟩)).use (rest:=[]) hs ?_;have hE:=Gx w f left deep;rw[if_neg (by omega),if_neg (by simp[*]),if_neg (by omega)]at hE;rw[←hE];rintro r post σ ⟨rfl,rfl⟩ hs
   conv=>whnf
   repeat'((first|apply st|(apply Y;clear Z B Y A)|(apply U;clear U K)|fail)<;>conv=>whnf)
   exact AP ⟨_,⟨rfl,rfl⟩,hs⟩
def Jk (w:AK) (f:Fact):Bool:=(EM w f 24 12).1
def XQ (w:AK) (us:List Nat) (hw1:w.parents.length≤60) (hw2:w.owner.length≤60) (f:Fact):Pure Tryz.prog 180 [.a (xF f),.rp [.rp (wC w us)]] (.b (Jk w f)):=by
 refine Pure.of ?_;refine ji kZ ?_;have hs:=Sn
 conv=>whnf
 repeat'((first|apply st|(apply sq;intro K U)|(apply si;intro A B Y Z)|(apply Y;clear Z B Y A)|(apply U;clear U K)|refine⟨kZ,?_⟩|refine El fun σ hs=>?_|(intro nn hnn;generalize hg:A8 _ nn _=σ;refine CW hg fun hs=>?_;clear hg)|fail)<;>conv=>whnf)
 refine(cI w us hw1 hw2 _ f 24 12 (by omega) (by omega)).use (rest:=[]) hs ?_;rintro r post σ ⟨rfl,rfl⟩ hs
 conv=>whnf
 repeat'((first|apply st|(apply Y;clear Z B Y A)|(apply U;clear U K)|fail)<;>conv=>whnf)
 exact AP rfl
def dT {g:FuncId} {fi ca:List V} {f:Fact→Bool} {xs:List Fact} (b:Bool) (hl:xs.length≤Ae) (h: ∀y∈xs,Pure Tryz.prog g (fi++[.a (xF y)]++ca) (.b (f y))):Pure Tryz.prog 179 [.l (facts xs) b,.f (.func g) fi ca] (.b (xs.all f)):=by
 have:=Y9 g fi ca (fun _=>[]) (fun y (_:Unit)=>(f y,())) (fun y _=>y∈xs) (fun y s hy σ hs=>Bl (BC.mono ((h y hy).use (k:=fun v σ'=>v= .b (f y)∧Sat σ' []) (kp:=fun _ _=>False) ⟨rfl,Sat.nil⟩) (by
  rintro(v|v) σ' hq
  ·obtain⟨rfl,h⟩:=hq
   exact⟨rfl,h⟩
  ·exact hq.elim))) xs b () hl (GW fun y hy _=>hy)
 rw[Ih]at this;exact Pure.of (BC.mono (this emp Sat.nil) fun r σ' ⟨post,⟨h1,h2⟩,h3⟩=>h1)
def XS (w:AK) (us:List Nat) (hw1:w.parents.length≤60) (hw2:w.owner.length≤60) (l:List Fact) (b:Bool) (hl:l.length≤60):Pure Tryz.prog 140 [.rp (wC w us),.l (facts l) b] (.b (l.all (Jk w))):=by
 have hall:=dT (g:=180) (fi:=[]) (ca:=[.rp [.rp (wC w us)]]) (f:=Jk w) (xs:=l) b (by simp only[Ae];omega) fun y _=>XQ w us hw1 hw2 y
 refine kI kZ ?_;have hs:=Sn
 conv=>whnf
 repeat'((first|apply st|(apply sq;intro K U)|(apply si;intro A B Y Z)|(apply Y;clear Z B Y A)|(apply U;clear U K)|refine Pure.use (by assumption) ?_|fail)<;>conv=>whnf)
 exact AI rfl
def MG (w:AK) (hw:CE w) (l:List Fact) (b:Bool) (hl:l.length≤60):Pure Tryz.prog 109 [.a (A2 w),.l (facts l) b] (.t [.rp (wC w (B0 w.parents)),.b (l.all (Jk w))]):=by
 have hfo:=XS w (B0 w.parents) (by have:=hw.1.1;omega) (by have:=hw.2.1;omega) l b hl;refine kx kZ ?_;have hs:=Sn
 conv=>whnf
 repeat'((first|apply st|(apply sq;intro K U)|(apply si;intro A B Y Z)|(apply Y;clear Z B Y A)|(apply U;clear U K)|refine⟨kZ,?_⟩|refine Pure.use (cE w hw) ?_|refine hfo.use ?_|fail)<;>conv=>whnf)
 all_goals exact AI rfl
def Xt (w:AK) (hw:CE w) (f:Fact):Pure Tryz.prog 170 [.a (A2 w),.a (xF f)] (eI (if Jk w f then 0 else 2)):=by
 have hfo: ∀b,Pure Tryz.prog 109 [.a (A2 w),.l [Fq f] b] (.t [.rp (wC w (B0 w.parents)),.b (Jk w f)]):=fun b=>by
  have:=MG w hw [f] b (by simp);simpa using this
 refine jq kZ ?_;have hs:=Sn
 conv=>whnf
 repeat'((first|apply st|(apply sq;intro K U)|(apply si;intro A B Y Z)|(apply Y;clear Z B Y A)|(apply U;clear U K)|refine⟨kZ,?_⟩|fail)<;>conv=>whnf)
 rw[B5]at hfo;refine(hfo _).use ?_
 conv=>whnf
 repeat'((first|apply st|(apply sq;intro K U)|(apply si;intro A B Y Z)|(apply Y;clear Z B Y A)|(apply U;clear U K)|refine Pure.use (UB _) ?_|fail)<;>conv=>whnf)
 exact AI rfl
end Go.Gl
namespace Go.Gl
def KX {most:Int}: ∀(l:List Fact) (n:Int),(∀k∈l,∀m:Int,(Ki k:Int)≤m→CI k m=Ki k)→n+(l.map Ki).sum≤most→DU (l.map CI) n most=n+(l.map Ki).sum
 | [],n,_,_=>by simp[DU]
 | k::r,n,h,h1=>by
   simp only[Et,List.sum_cons,DU]at *;rw[if_pos (by omega),h k (.head _) (most - n) (by omega),KX r _ (fun k' hk'=>h k' (.tail _ hk')) (by omega)];omega
def Qr (f:Fact): ∀m:Int,(Ki f:Int)≤m→CI f m=Ki f:=by
 induction f using Fact.ind with
 | h f ih=>
   intro m hm;rw[G5];rw[JF]at *;rw[KX f.kids 1 ih (by omega)];omega
def W5 (f:Fact) {m:Int} (h0:0≤m):CI f m≤m↔(Ki f:Int)≤m:=
 ⟨fun h=>by rw[←JR f m h0 h];exact h,fun h=>by rw[Qr f m h];exact h⟩
def dG (f:Fact):1≤Ki f:=by rw[JF];omega
def F1 {m:Int}: ∀(l:List Int) (a:Int),l.foldl Gf a≤m↔a≤m∧ ∀x∈l,x≤m
 | [],a=>by simp
 | x ::r,a=>by
   rw[List.foldl_cons,F1 r];unfold Gf;constructor
   ·rintro⟨h1,h2⟩
    refine⟨by split at h1<;>omega,fun y hy=>?_⟩;rcases Fh.1 hy with rfl|hy
    ·split at h1<;>omega
    ·exact h2 y hy
   ·rintro⟨h1,h2⟩
    have hx:=h2 x (.head _);exact⟨by split<;>omega,fun y hy=>h2 y (.tail _ hy)⟩
def aI (f:Fact) {m:Int}:D2 f≤m↔1≤m∧ ∀k∈f.kids,D2 k≤m - 1:=by
 rw[Fe];constructor
 ·intro h
  have:=(F1 (m:=m - 1) (f.kids.map D2) 0).1 (by omega);exact⟨by omega,fun k hk=>this.2 _ (List.mem_map_of_mem hk)⟩
 ·rintro⟨h1,h2⟩
  have:=(F1 (m:=m - 1) (f.kids.map D2) 0).2 ⟨by omega,fun x hx=>by
   obtain⟨k,hk,rfl⟩:=MT.1 hx
   exact h2 k hk⟩
  omega
def YN (w:AK) (f:Fact) (left deep:Int):Prop:=(Ki f:Int)≤left∧D2 f≤deep∧Be w f=true
def Pq (w:AK) {deep:Int}: ∀(l:List Fact) (left:Int),0≤left→left≤24→(∀k∈l,∀left:Int,0≤left→left≤24→((EM w k left deep).1=true↔YN w k left deep)∧((EM w k left deep).1=true→(EM w k left deep).2=left - Ki k))→
    ((Ca (fun k s=>EM w k s deep) l left).1=true↔((l.map Ki).sum:Int)≤left∧ ∀k∈l,D2 k≤deep∧Be w k=true)∧((Ca (fun k s=>EM w k s deep) l left).1=true→(Ca (fun k s=>EM w k s deep) l left).2=left - ((l.map Ki).sum:Nat))
 | [],left,h0,h1,_=>by simp[Ca];exact h0
 | k ::r,left,h0,h1,h=>by
   obtain⟨ha,hb⟩:=h k (.head _) left h0 h1;simp only[Ca,Et,List.sum_cons];cases hk:(EM w k left deep).1
   ·simp only[LU,if_false,false_iff,false_implies,and_true]
    rintro⟨h2,h3⟩;have:=ha.2 ⟨by omega,(h3 k (.head _)).1,(h3 k (.head _)).2⟩;rw[hk]at this;cases this
   ·obtain⟨g1,g2,g3⟩:=ha.1 hk
    have hc:=dG k;rw[if_pos rfl,hb hk];obtain⟨i1,i2⟩:=Pq w r (left - Ki k) (by omega) (by omega) fun k' hk'=>h k' (.tail _ hk')
    refine⟨i1.trans ⟨fun⟨e1,e2⟩=>⟨by omega,fun x hx=>?_⟩,fun⟨e1,e2⟩=>⟨by omega,fun x hx=>e2 x (.tail _ hx)⟩⟩,fun h=>by rw[i2 h];omega⟩;rcases Fh.1 hx with rfl|hx
    ·exact⟨g2,g3⟩
    ·exact e2 x hx
def cH (w : AK) (f:Fact): ∀left deep:Int,0≤left→left≤24→0≤deep→((EM w f left deep).1=true↔YN w f left deep)∧((EM w f left deep).1=true→(EM w f left deep).2=left - Ki f):=by
 induction f using Fact.ind with
 | h f ih=>
   intro left deep h0 h1 hd;have hw:IntKind.i64.wrap (left - 1)=left - 1:=wrap64 (by omega) (by omega);rw[Gx,hw];have hc:=JF f;have hn:=CP w f;have hdl:=aI f (m:=deep)
   have hko:C1 w f=true→f.kids.length=B1 f.op:=fun h=>by
    simp only[C1,BY,Dn]at h;exact h.2.1
   have hop:C1 w f=true→1≤f.op∧f.op≤7:=fun h=>by
    simp only[C1,BY]at h;have h1:=h.1;unfold RD at h1;split at h1
    ·omega
    split at h1
    ·omega
    simp at h1;omega
   by_cases hbad:left - 1<0∨deep=0∨f.op<1∨7<f.op∨f.kids.length≠B1 f.op
   ·rw[if_pos hbad]
    simp only[LU,false_iff,false_implies,and_true];rintro⟨g1,g2,g3⟩;rw[hn,BY]at g3;have g4:=hko g3.1;have g5:=hop g3.1;have g6:=(hdl.1 g2).1;omega
   rw[if_neg hbad];by_cases hl:Bm f=true
   ·rw [if_pos hl]
    have hl':f.op=2∨f.op=3∨f.op=4:=by
     simp only[Bm,FU,Dn]at hl;omega
    have hk0:f.kids= []:=by
     have:f.kids.length=B1 f.op:=by omega
     rw[B1,if_neg (by omega),if_neg (by omega)]at this;exact bB.1 this
    have hd1:D2 f=1:=by rw[Fe,hk0];rfl
    have hc1:Ki f=1:=by rw[hc,hk0];rfl
    have hh:C1 w f=K0 w f:=by
     unfold C1 RD K0;rw[hl,hk0];have e:B1 f.op=0:=by rw[B1,if_neg (by omega),if_neg (by omega)]
     rw[e];simp only[List.length_nil,beq_self_eq_true,EW,Bool.true_or,Bool.and_true];rcases hl' with e|e|e
     ·rw[if_pos e,if_pos e]
      cases(f.n==0&&Ma w f.cls)<;>simp
     ·rw[if_neg (show¬f.op=2 by omega),if_neg (show¬f.op=2 by omega),if_pos (show f.op=3∨f.op=4 from .inl e)]
      cases(f.cls==0&&(decide (-1000000000≤f.n)&&decide (f.n≤1000000000)))<;>simp
     ·rw[if_neg (show¬f.op=2 by omega),if_neg (show¬f.op=2 by omega),if_pos (show f.op=3∨f.op=4 from .inr e)]
      cases(f.cls==0&&(decide (-1000000000≤f.n)&&decide (f.n≤1000000000)))<;>simp
    refine⟨⟨fun h=>⟨by omega,by omega,?_⟩,fun⟨_,_,h⟩=>?_⟩,fun _=>by dsimp only;omega⟩
    ·rw[hn,hk0,hh];simpa using h
    ·rw[hn,hk0,hh]at h;simpa using h
   ·have hl':f.op=1∨f.op=5∨f.op=6∨f.op=7:=by
     simp only[Bm,FU,Dn]at hl;omega
    have hlf:Bm f=false:=by simpa using hl
    rw[if_neg hl];by_cases hz:f.arg≠0∨0<f.path.length∨f.cls≠0∨f.n≠0
    ·rw[if_pos hz]
     simp only[LU,false_iff,false_implies,and_true];rintro⟨g1,g2,g3⟩;rw[hn,BY]at g3;have g4:=g3.1;simp only[C1,hlf,Bool.false_or,BY,Dn]at g4;omega
    ·rw [if_neg hz]
     obtain⟨i1,i2⟩:=Pq w (deep:=deep - 1) f.kids (left - 1) (by omega) (by omega) fun k hk left hl0 hl1=>ih k hk left (deep - 1) hl0 hl1 (by omega)
     have hh:C1 w f=true:=by
      have hp:f.path= []:=bB.1 (by omega)
      have e1:RD w f=true:=by
       unfold RD;rw[if_neg (by omega),if_neg (by omega)];simp only[FU,Dn];omega
      have z1:f.arg=0:=by omega
      have z2:f.cls=0:=by omega
      have z3:f.n=0:=by omega
      have z4:f.kids.length=B1 f.op:=by omega
      simp[C1,e1,hlf,hp,z1,z2,z3,z4,Ea]
     refine⟨i1.trans ⟨fun⟨e1,e2⟩=>⟨by omega,hdl.2 ⟨by omega,fun k hk=>(e2 k hk).1⟩,?_⟩,fun⟨g1,g2,g3⟩=>⟨by omega,fun k hk=>⟨(hdl.1 g2).2 k hk,?_⟩⟩⟩,fun h=>by rw[i2 h];omega⟩
     ·rw[hn,hh,EW,EY]
      exact fun k hk=>(e2 k hk).2
     ·rw[hn,hh,EW,EY]at g3
      exact g3 k hk
def MO (w:AK) (f:Fact):Jk w f=CN w f:=by
 have:=(cH w f 24 12 (by omega) (by omega) (by omega)).1;rw[Jk,CN,Kk,this,YN];simp only[BY,CY];rw[W5 f (by omega)]
end Go.Gl
namespace Go.Gl
open Go.Proofs
attribute [local irreducible] BC Ax Ai AU AO Ag AV AW AM Af AR AT A0 A9 Sat Ab A6 Ak W
def KI {p:Prog} (h:A7 p=true):CE (AQ p)∧Bp p.AN≤40∧p.AN.length≤10:=by
 have h1:=h;rw[OD]at h1;simp only[BY,CY]at h1;have h2:=h;simp only[A7,BY,CY]at h2;have hm:=(Ey _ _ h2.2.1).1;refine⟨⟨Dk h1.2.2.2.1,?_,fun o ho=>?_⟩,by omega,h1.1⟩
 ·rw[AQ,CL];omega
 ·have:=Fa ho
  simp only[AQ,Ay,BQ];omega
def a7 (s:List Int):Prop:= ∀x∈s,(-1:Int)≤x
def cr {s:List Int} (h:a7 s) (i:Nat) {x:Int} (hx:0≤x):a7 (s.set i x):=fun y hy=>by
 rcases List.mem_or_eq_of_mem_set hy with hy|rfl
 ·exact h y hy
 ·omega
def SP {f:Int→Int→List Int→Option (List Int)} (hf: ∀ {a b s s'},0≤b→f a b s=some s'→a7 s→a7 s') {op size:Int} (h0:0≤size): ∀(i:Nat) (l:List Int) {s s':List Int},FF f op size i l s=some s'→a7 s→a7 s'
 | _,[],s,s',h,hs=>by cases h;exact hs
 | i,k::r,s,s',h,hs=>by
   simp only[FF]at h;split at h
   ·cases h
   ·rename_i s1 h1
    refine SP hf h0 (i+1) r h (hf ?_ h1 hs);split<;>omega
def J2 {p:Prog} {next:Bool}: ∀(d:Nat) {n size:Int} {s s':List Int},0≤size→CD p next d n size s=some s'→a7 s→a7 s'
 | 0,_,_,_,_,_,h,_=>by cases h
 | d + 1,n,size,s,s',h0,h,hs=>by
   simp only[CD]at h;split at h
   ·cases h
   ·split at h
    ·cases h
    ·split at h
     ·exact SP (fun hb h hs=>J2 d hb h hs) h0 0 _ h (cr hs _ h0)
     ·cases h
def ct {s:List Int} (h:a7 s):(s.all fun n=>decide (0≤n))= !s.contains (-1):=by
 rw[Kk];simp only[EY,CY,Bool.not_eq_true',←Bool.not_eq_true,List.contains_iff_mem];constructor
 ·intro h1 h2
  have:=h1 _ h2;omega
 ·intro h1 x hx
  have:=h x hx;rcases Int.lt_or_le x 0 with hlt|hle
  ·exact absurd ((show x= -1 by omega) ▸ hx) h1
  ·exact hle
def lP (p:Prog) (nO:Nat) (r:R) (σ:AH):Prop:=
 match BM p with
 | some s=>r= .ret (.t [])∧ ∃v,Sat σ [.box nO [v],.own v 1 (iL s)]
 | none=>r= .Cy Di∧ ∃v s,Sat σ [.box nO [v],.own v 1 (iL s)]
def WC {p:Prog} {nO:Nat} {σ:AH} {v:V} {s:List Int} {l:List At} (h:BM p=none) (hs:Sat σ l) (hsub: [At.box nO [v],.own v 1 (iL s)].Sublist l):Ai σ Di (lP p nO):=DG (by
 rw[lP,h]
 exact⟨rfl,v,s,hs.less hsub⟩)
def tz {p:Prog} {nO:Nat} {σ:AH} {v:V} {s:List Int} {l:List At} (h:BM p=some s) (hs:Sat σ l) (hsub: [At.box nO [v],.own v 1 (iL s)].Sublist l):Ax σ (.t []) (lP p nO):=AP (by
 rw[lP,h]
 exact⟨rfl,v,hs.less hsub⟩)
def QC {p:Prog} (h:Cn p=false):BM p=none:=by unfold BM;rw[h];rfl
def V4 {w:AK} {f:Fact} (h:CN w f=true):Mq f=true:=Ns (w:=w) f (by simp only[CN,BY]at h;exact h.2.2)
def Ua {w:AK} (hw:CE w) (f:Fact):Pure Tryz.prog 170 [.a (A2 w),.a (xF f)] (eI (if CN w f then 0 else 2)):=by
 rw[←MO];exact Xt w hw f
def Ww {α:Type} (a b c:α): [a,b,c].Perm [c,b,a]:=by simpa using(List.reverse_perm [a,b,c]).symm
set_option maxHeartbeats 4000000 in
def Zc (p : Prog) (nO:Nat) (σ:AH) (hs:Sat σ [.box nO [.l [] true]]):BC Tryz.prog 162 [.rp (BU p),.p nO 0] σ (lP p nO):=by
 refine BC.fit (by kernel_rfl) fun hf=>?_
 have hM:=Mx
 have hfp:Ev (.a (BU p)):=by
  have:=hf.1;simp only[Qh]at this;simpa only[IC]using this
 have⟨p1,p2,p3,p4⟩:=Gq hfp;refine jx kZ ?_;have hcl:=Ur p;replace hs:Sat σ [.box nO [.l [] true],.own (.l [] true) 1 (iL [])]:=Gg hs 1;cases hcB:A7 p with
 | false=>
   rw[hcB]at hcl
   conv=>whnf
   repeat'((first|apply st|(apply sq;intro K U)|(apply si;intro A B Y Z)|refine⟨kZ,?_⟩|fail)<;>conv=>whnf)
   refine hcl.use (pre:=[]) (rest:=[.box nO [.l [] true],.own (.l [] true) 1 (iL [])]) hs ?_;rintro r post σ ⟨rfl,rfl⟩ hs
   conv=>whnf
   repeat'((first|(refine Z _ _ _ ?_;clear Z B Y A)|clear U K)<;>conv=>whnf)
   exact WC (QC (by simp[Cn,hcB])) hs (.refl _)
 | true=>
   rw[hcB]at hcl;obtain⟨hgW,hmS,h10⟩:=KI hcB
   conv=>whnf
   repeat'((first|apply st|(apply sq;intro K U)|(apply si;intro A B Y Z)|refine⟨kZ,?_⟩|fail)<;>conv=>whnf)
   refine hcl.use (pre:=[]) (rest:=[.box nO [.l [] true],.own (.l [] true) 1 (iL [])]) hs ?_;clear hs;rintro r post σ ⟨rfl,rfl⟩ hs
   conv=>whnf
   repeat'((first|apply st|(apply sq;intro K U)|(apply si;intro A B Y Z)|(apply Y;clear Z B Y A)|(refine Z _ _ _ ?_;clear Z B Y A)|(apply U;clear U K)|refine⟨rfl,?_⟩|(refine Cf (fun hc=>?_) (fun hc=>?_)<;>(replace hc:=bp hc)<;>(try simp(disch:=omega) only[BQ,wrap64,AL]at hc)<;>(try(cases hc;done)))|(constructor<;>intro hc<;>(try rw[hc])<;>(replace hc:=bp hc)<;>(try simp(disch:=omega) only[BQ,wrap64,AL]at hc))|clear U K)<;>conv=>whnf)
   rotate_left
   all_goals first
    | exact WC (QC (by simp[Cn, *];intros;omega)) hs (.refl _)
    | skip
   have a1:p.Cl.length≤8:=by omega
   have a2:p.methods.length≤16:=by omega
   have a3:1≤p.nodes.length:=by omega
   have a4:p.nodes.length≤120:=by omega
   have hg:Cn p=p.Cl.all fun g=>decide (1≤g)&&decide (g≤3):=by
    simp only[Cn,a1,a2,a3,a4,decide_true,EW];simp[*]
   refine CZ p.Cl.length (fun k (_:Unit)=>[(36,eI (BL k))]) (fun _ _=>[.box nO [.l [] true],.own (.l [] true) 1 (iL [])]) (fun k _=>Cn p=(p.Cl.drop k).all fun g=>decide (1≤g)&&decide (g≤3)) () rfl (by simpa using hg) hs ?_;clear hs hg;rintro k - σ hk hn hs;rcases BS p.Cl hk with⟨g,hgk,hlt⟩|hke
   ·rw[drop_cons hgk,TV]at hn
    conv=>whnf
    repeat'((first|apply st|(apply sq;intro K U)|(apply si;intro A B Y Z)|(apply Y;clear Z B Y A)|(refine Z _ _ _ ?_;clear Z B Y A)|(apply U;clear U K)|refine⟨rfl,?_⟩|refine ix ?_|(refine Cs (fun hc=>?_)<;>(try rw[hc])<;>clear hc)|(refine Cf (fun hc=>?_) (fun hc=>?_)<;>(replace hc:=bp hc)<;>(try simp(disch:=omega) only[BQ,wrap64,AL]at hc)<;>(try(cases hc;done)))|(constructor<;>intro hc<;>(try rw[hc])<;>(replace hc:=bp hc))|clear U K)<;>conv=>whnf)
    ·exact⟨hlt,(),rfl,by rw[hn];simp[*],hs⟩
    ·exact WC (QC (by rw[hn,decide_eq_false (show¬g≤3 by omega)];simp)) hs (.refl _)
    ·exact WC (QC (by rw[hn,decide_eq_false (show¬1≤g by omega)];simp)) hs (.refl _)
   ·have hh : Cn p=true:=by rw[hn,An hke];rfl
    have hL:=Va hh;clear hn
    conv=>whnf
    repeat'((first|apply st|(apply sq;intro K U)|(apply si;intro A B Y Z)|(apply Y;clear Z B Y A)|(apply U;clear U K)|refine⟨rfl,?_⟩|(refine EV (fun hc=>?_)<;>(try rw[hc])<;>clear hc)|clear U K)<;>conv=>whnf)
    rw[BQ];refine(Wo p.nodes.length a3 a4).use (pre:=[]) (rest:=[.box nO [.l [] true],.own (.l [] true) 1 (iL [])]) hs ?_;clear hs;rintro r post σ ⟨v,rfl,rfl,hv⟩ hs
    conv=>whnf
    repeat'((first|apply st|(apply sq;intro K U)|(apply si;intro A B Y Z)|(apply Y;clear Z B Y A)|(apply U;clear U K)|refine⟨kZ,?_⟩|refine El fun σ hs=>?_|refine DJ fun σ hs=>?_|refine Pure.use (Rt p (by omega) (by omega)) ?_|(intro nn hnn;generalize hg:A8 _ nn _=σ;refine CW hg fun hs=>?_;clear hg)|fail)<;>conv=>whnf)
    rename_i nw hnw _ hs;generalize nn=n5 at *;replace hs:=hs.less (show [At.box n5 (A2 (AQ p)),.own v 1 (iL (List.replicate p.nodes.length (-1))),.box nO [v]].Sublist _ from .cons₂ _ (.cons₂ _ (.cons₂ _ (.cons _ .slnil))));refine CZ p.methods.length (fun k (s:List Int)=>[(59,eI (BL k))]) (fun _ s=>[.box nO [v],.own v 1 (iL s),.box n5 (A2 (AQ p))]) (fun k s=>s.length=p.nodes.length∧a7 s∧BM p=Iu p (runM p (p.methods.drop k) s)) (List.replicate p.nodes.length (-1)) rfl ⟨by simp,fun x hx=>by rw[List.eq_of_mem_replicate hx];omega,hL⟩ (hs.perm (Ww _ _ _)) ?_;clear hs hnw hnn;rintro k s σ hk ⟨hl,hge,hn⟩ hs;rcases BS p.methods hk with⟨m,hm,hlt⟩|hke
    ·have hF:=Ua hgW m.fact
     cases hfB:CN (AQ p) m.fact with
     | false=>
       rw[hfB,if_neg Bool.false_ne_true]at hF;have hno:=DP hm hn (by simp[MU,hfB])
       conv=>whnf
       repeat'((first|apply st|(apply sq;intro K U)|(apply si;intro A B Y Z)|(apply Y;clear Z B Y A)|(refine Z _ _ _ ?_;clear Z B Y A)|(refine Z _ _ fun σ hsub=>?_;clear Z B Y A)|(apply U;clear U K)|apply dr|refine rk ?_ ?_|exact fun s e=>by cases e;rfl|refine⟨rfl,?_⟩|refine⟨kZ,?_⟩|refine ix ?_|refine ld ?_|refine DJ fun σ hs=>?_|(refine Cs (fun hc=>?_)<;>(try rw[hc])<;>clear hc)|(refine Cf (fun hc=>?_) (fun hc=>?_)<;>(replace hc:=bp hc)<;>(try simp(disch:=omega) only[BQ,wrap64,AL]at hc)<;>(try(cases hc;done)))|refine hF.use ?_|(constructor<;>intro hc<;>(try rw[hc])<;>(replace hc:=bp hc)<;>try(exfalso;omega))|(intro nn hnn;generalize hg:A8 _ nn _=σ;refine CW hg fun hs=>?_;clear hg)|clear U K)<;>conv=>whnf)
       all_goals first
        | (refine WC (v:=v) (s:=s) hno hs ?_;(repeat first|exact Lx _|apply List.Sublist.cons₂|apply List.Sublist.cons);done)
        | (refine WC (v:=v) (s:=s) hno (hs.up (by assumption)) ?_;(repeat first|exact Lx _|apply List.Sublist.cons₂|apply List.Sublist.cons);done)
        | skip
     | true=>
       rw[hfB,if_pos rfl]at hF;have hsp:=Wg _ (V4 hfB)
       conv=>whnf
       repeat'((first|apply st|(apply sq;intro K U)|(apply si;intro A B Y Z)|(apply Y;clear Z B Y A)|(refine Z _ _ _ ?_;clear Z B Y A)|(refine Z _ _ fun σ hsub=>?_;clear Z B Y A)|(apply U;clear U K)|apply dr|refine rk ?_ ?_|exact fun s e=>by cases e;rfl|refine⟨rfl,?_⟩|refine⟨kZ,?_⟩|refine ix ?_|refine F8 ?_|refine iq fun x hx=>?_|refine ld ?_|refine DJ fun σ hs=>?_|(refine Cs (fun hc=>?_)<;>(try rw[hc])<;>clear hc)|(refine Cf (fun hc=>?_) (fun hc=>?_)<;>(replace hc:=bp hc)<;>(try simp(disch:=omega) only[BQ,wrap64,AL]at hc)<;>(try(cases hc;done)))|refine hF.use ?_|refine hsp.use ?_|(constructor<;>intro hc<;>(try rw[hc])<;>(replace hc:=bp hc)<;>(try simp(disch:=omega) only[BQ,wrap64,AL]at hc)<;>try(exfalso;omega))|(intro nn hnn;generalize hg:A8 _ nn _=σ;refine CW hg fun hs=>?_;clear hg)|clear U K)<;>conv=>whnf)
       all_goals first
        | (refine WC (v:=v) (s:=s) (DP hm hn ?_) hs ?_;(simp[MU, *];intros;omega);(repeat first|exact Lx _|apply List.Sublist.cons₂|apply List.Sublist.cons);done)
        | (refine WC (v:=v) (s:=s) (DP hm hn ?_) (hs.up (by assumption)) ?_;(simp[MU, *];intros;omega);(repeat first|exact Lx _|apply List.Sublist.cons₂|apply List.Sublist.cons);done)
        | skip
       rotate_left 2
       ·refine WC (v:=v) (s:=s) (DP hm hn ?_) (hs.up (by assumption)) ?_
        ·simp only[MU,show p.Cl.getD m.gen.toNat 0=x by rw[Dc,hx];rfl,decide_eq_false (show¬C4 m.fact≤x by omega),Bool.and_false]
        ·repeat first|exact Lx _|apply List.Sublist.cons₂|apply List.Sublist.cons
       all_goals
        have hx13:=PR hh hx;have hgd:p.Cl.getD m.gen.toNat 0=x:=by rw[Dc,hx];rfl
        have hok:MU p m=true:=by simp only[MU,hgd,BY,CY];exact⟨by omega,by omega,by omega,by omega,hfB,by assumption⟩
        have hgo:=fun s'=>VL (s':=s') hm hn hok
        have hno:=PA hm hn hok;rw[hgd]at hgo hno
       ·have hnb:It m.kind=(m.kind==4):=by simp[It, *]
        rw[hnb]at hgo hno;refine Bl ((Qj p (m.kind==4) hv m.node x s (by omega) (by omega) hl [.box n5 (A2 (AQ p))] σ (hs.less (.cons _ (.refl _)))).mono ?_);cases hw:CD p (m.kind==4) 12 m.node x s with
        | none=>
          clear hs;rintro r σ' ⟨rfl,s',hl',hs⟩
          conv=>whnf
          repeat'((first|(refine Z _ _ fun σ hsub=>?_;clear Z B Y A)|clear U K)<;>conv=>whnf)
          exact WC (v:=v) (s:=s') (hno hw) (hs.up (by assumption)) (.cons₂ _ (.cons₂ _ (Lx _)))
        | some s2=>
          clear hs;rintro r σ' ⟨rfl,hs⟩
          conv=>whnf
          repeat'((first|(apply si;intro A B Y Z)|(apply Y;clear Z B Y A)|(apply U;clear U K)|apply dr|refine⟨rfl,?_⟩|clear U K)<;>conv=>whnf)
          exact⟨hlt,s2,rfl,⟨(IX _ hw).trans hl,J2 _ (by omega) hw hge,hgo s2 hw⟩,hs⟩
       ·have hnb:It m.kind=true:=by simp[It, *]
        rw[hnb]at hgo hno;refine Bl ((Qj p true hv m.node x s (by omega) (by omega) hl [.box n5 (A2 (AQ p))] σ (hs.less (.cons _ (.refl _)))).mono ?_);cases hw:CD p true 12 m.node x s with
        | none=>
          clear hs;rintro r σ' ⟨rfl,s',hl',hs⟩
          conv=>whnf
          repeat'((first|(refine Z _ _ fun σ hsub=>?_;clear Z B Y A)|clear U K)<;>conv=>whnf)
          exact WC (v:=v) (s:=s') (hno hw) (hs.up (by assumption)) (.cons₂ _ (.cons₂ _ (Lx _)))
        | some s2=>
          clear hs;rintro r σ' ⟨rfl,hs⟩
          conv=>whnf
          repeat'((first|(apply si;intro A B Y Z)|(apply Y;clear Z B Y A)|(apply U;clear U K)|apply dr|refine⟨rfl,?_⟩|clear U K)<;>conv=>whnf)
          exact⟨hlt,s2,rfl,⟨(IX _ hw).trans hl,J2 _ (by omega) hw hge,hgo s2 hw⟩,hs⟩
    ·subst hke
     rw[List.drop_length,runM]at hn
     conv=>whnf
     repeat'((first|apply st|(apply sq;intro K U)|(apply si;intro A B Y Z)|(apply Y;clear Z B Y A)|(apply U;clear U K)|refine⟨rfl,?_⟩|refine⟨kZ,?_⟩|refine ix ?_|refine ld ?_|refine DJ fun σ hs=>?_|(refine fc (fun x hx hlt hc=>?_) (fun hk hc=>?_)<;>(try rw[hc])<;>clear hc)|(constructor<;>intro hc<;>(try rw[hc])<;>(replace hc:=bp hc)<;>try(exfalso;omega))|(intro nn hnn;generalize hg:A8 _ nn _=σ;refine CW hg fun hs=>?_;clear hg)|clear U K)<;>conv=>whnf)
     rw[Iu]at hn;refine Bl ((Qj p false hv p.main 0 s (by omega) (by omega) hl [.box n5 (A2 (AQ p))] σ hs).mono ?_);cases hw:CD p false 12 p.main 0 s with
     | none=>
       rw[hw]at hn;clear hs;rintro r σ' ⟨rfl,s',hl',hs⟩
       conv=>whnf
       repeat'((first|(refine Z _ _ _ ?_;clear Z B Y A)|clear U K)<;>conv=>whnf)
       exact WC (v:=v) (s:=s') hn hs (.cons₂ _ (.cons₂ _ (Lx _)))
     | some s2=>
       rw[hw]at hn;have hge2:=J2 _ (by omega) hw hge;simp only[ct hge2]at hn;clear hs;rintro r σ' ⟨rfl,hs⟩;have hct:=fun f=>Dl s2 f (-1)
       cases hyes:s2.contains (-1)with
       | true=>
         rw[hyes]at hct hn
         conv=>whnf
         repeat'((first|(apply si;intro A B Y Z)|(apply Y;clear Z B Y A)|(apply U;clear U K)|refine ld ?_|fail)<;>conv=>whnf)
         refine Pure.YC (hct false) (.cons (hs.RL 1 rfl) (.cons (.refl _) .nil)) rfl ?_
         conv=>whnf
         repeat'((first|(refine Z _ _ _ ?_;clear Z B Y A)|(refine Cf (fun hc=>?_) (fun hc=>?_)<;>(replace hc:=bp hc)<;>(try simp(disch:=omega) only[BQ,wrap64,AL]at hc)<;>(try(cases hc;done)))|fail)<;>conv=>whnf)
         all_goals exact WC (v:=v) (s:=s2) hn (by first|exact hs|exact hs.up (by assumption)) (.cons₂ _ (.cons₂ _ (Lx _)))
       | false=>
         rw[hyes]at hct hn
         conv=>whnf
         repeat'((first|(apply si;intro A B Y Z)|(apply Y;clear Z B Y A)|(apply U;clear U K)|refine ld ?_|fail)<;>conv=>whnf)
         refine Pure.YC (hct false) (.cons (hs.RL 1 rfl) (.cons (.refl _) .nil)) rfl ?_
         conv=>whnf
         repeat'((first|(apply Y;clear Z B Y A)|(refine Cf (fun hc=>?_) (fun hc=>?_)<;>(replace hc:=bp hc)<;>(try simp(disch:=omega) only[BQ,wrap64,AL]at hc)<;>(try(cases hc;done)))|fail)<;>conv=>whnf)
         all_goals exact tz (v:=v) hn hs (.cons₂ _ (.cons₂ _ (Lx _)))
end Go.Gl
namespace Go.Gl
variable {P:Program} {σ:AH}
def Xu {v:V} {Q Q':R→AH→Prop} (h:Ax σ v Q) (hq: ∀r σ,Q r σ→Q' r σ):Ax σ v Q':=by
 obtain⟨vf,s2,h1,h2,h3⟩:=h;exact⟨vf,s2,h1,h2,hq _ _ h3⟩
def C2.more {α S:Type} {g:FuncId} {fi ca:List V} {ea:α→V} {H:S→List At} {stp:α→S→Bool×S} {D:α→S→Prop} (h:C2 P (.f (.func g) fi ca) ea H stp D) (pre:List At):C2 P (.f (.func g) fi ca) ea (fun s=>pre++H s) stp D:=fun y s hd σ hs=>by
 have h1:Bd P g (fi++[ea y]++ca) (H s) fun r post=>r= .ret (.b (stp y s).1)∧post=H (stp y s).2:=fun σ hs=>BC.mono (h y s hd σ hs) fun r σ' ⟨e,h2⟩=>⟨_,⟨e,rfl⟩,h2⟩
 refine Bl (h1.use (rest:=pre) (hs.perm Q8) ?_);rintro r post σ' ⟨rfl,rfl⟩ hs';exact⟨rfl,hs'.perm Q8⟩
def Le {α S:Type} (P:Program) (x:V) (ea:α→V) (H:S→List At) (f:α→Bool) (J:S→Prop) (D:α→Prop):Prop:=
 ∀y s,D y→J s→ ∀σ,Sat σ (H s)→A0 P x [ea y] σ fun r σ'=>r= .ret (.b (f y))∧ ∃s',J s'∧Sat σ' (H s')
def Le.use {α S:Type} {x:V} {ea:α→V} {H:S→List At} {f:α→Bool} {J:S→Prop} {D:α→Prop} (h:Le P x ea H f J D) {y:α} {s:S} (hd:D y) (hj:J s) (hs:Sat σ (H s)) {k kp:V→AH→Prop} (hk: ∀s' σ',J s'→Sat σ' (H s')→k (.b (f y)) σ'):A0 P x [ea y] σ (qk k kp):=
 (h y s hd hj σ hs).mono fun r σ' ⟨e,s',hj',h'⟩=>by rw[e];exact hk s' σ' hj' h'
def Lb {α:Type} (f:α→Bool):List α→Nat→Int
 | [],_=> -1
 | y::r,k=>if f y then(k:Int)else Lb f r (k+1)
def SY {α:Type} (f:α→Bool): ∀(xs:List α) (k:Nat),decide (Lb f xs k≥0)=xs.any f
 | [],_=>rfl
 | y::r,k=>by
   rw[Lb,Q7];cases f y
   ·exact SY f r (k+1)
   ·simp
end Go.Gl
namespace Go.Gl
structure Kn where
 low:Int
 high:Int
 no:List Int
 CM:Nat
 F7:Nat
 whole:Bool
 A1:Bool
 AS:List Int
def k0:Kn:=⟨-1000000000,1000000000,[],0,0,false,false,[]⟩
def H7 (l:List Int) (s:Int):List Int:=if l.contains s then l else(l++[s]).mergeSort Ga
def Ci (k:Kn) (f:Fact) (b:Bool):Kn:=
 if f.op=2 then(if b then {k with F7:=k.F7|||2 ^ f.cls.toNat}else {k with CM:=k.CM|||2 ^ f.cls.toNat})
 else if f.op=3 then(if b then {k with low:=if f.n > k.low then f.n else k.low}else {k with high:=if f.n - 1<k.high then f.n - 1 else k.high,whole:=true})
 else if b then {k with no:=k.no++[f.n]}else {k with low:=if f.n > k.low then f.n else k.low,high:=if f.n<k.high then f.n else k.high,whole:=true}
def De (k:Kn) (b:Bool):Kn:={k with A1:=k.A1|| !b}
def aw (k:Kn) (s:Int):Kn:={k with AS:=H7 k.AS s}
def DA (a:Int) (p:List Int) (k:Kn) (l:Fact):Kn:=
 if(A5 l).1.arg=a∧B2 (A5 l).1.path p=true then
  (if(A5 l).1.path=p then Ci (De k (A5 l).2) (A5 l).1 (A5 l).2 else aw (De k (A5 l).2) ((A5 l).1.path.getD p.length 0))
 else k
def kn (ls:List Fact) (a:Int) (p:List Int):Kn:=ls.foldl (DA a p) k0
def Uv (k:Kn) (f:Fact) (b:Bool):(Ci k f b).A1=k.A1:=by
 unfold Ci
 (repeat' split)<;>rfl
def Pk (k:Kn) (f:Fact) (b:Bool):(Ci k f b).AS=k.AS:=by
 unfold Ci
 (repeat' split)<;>rfl
def Qt (a:Int) (p:List Int) (k:Kn) (l:Fact):(DA a p k l).A1=(k.A1|| !((A5 l).2|| !((A5 l).1.arg==a&&B2 (A5 l).1.path p))):=by
 unfold DA;split
 ·rename_i h
  have e:((A5 l).1.arg==a)=true:=by simpa using h.1
  rw[e,h.2];split
  ·rw[Uv];simp[De]
  ·simp[aw,De]
 ·rename_i h
  have:((A5 l).1.arg==a&&B2 (A5 l).1.path p)=false:=by
   cases hb:((A5 l).1.arg==a&&B2 (A5 l).1.path p)with
   | false=>rfl
   | true=>rw[BY]at hb;exact absurd ⟨by simpa using hb.1,hb.2⟩ h
  rw[this];simp
def Kb (a:Int) (p:List Int): ∀(ls:List Fact) (k:Kn),(ls.foldl (DA a p) k).A1=(k.A1|| !FG ls a p)
 | [],k=>by simp[FG]
 | l::r,k=>by
   rw[List.foldl_cons,Kb a p r,Qt];simp only[FG,TV];generalize (r.all _)=x;generalize ((A5 l).2||_)=y;cases k.A1<;>cases x<;>cases y<;>rfl
def LL (ls:List Fact) (a:Int) (p:List Int):(kn ls a p).A1= !FG ls a p:=by rw[kn,Kb];rfl
def Xq (l:List Int) (s x:Int):x∈H7 l s↔x∈l∨x=s:=by
 unfold H7;split
 ·rename_i h
  rw[List.contains_iff_mem]at h;constructor
  ·exact .inl
  ·rintro(h'|rfl)
   ·exact h'
   ·exact h
 ·rw[(List.mergeSort_perm _ Ga).mem_iff];simp
def Q3 {l:List Int} (s:Int) (h:l.Pairwise (· < ·)):(H7 l s).Pairwise (· < ·):=by
 unfold H7;split
 ·exact h
 ·rename_i hc
  have hc':s∉l:=by simpa using hc
  have hp:=List.mergeSort_perm (l++[s]) Ga;have h1:((l++[s]).mergeSort Ga).Pairwise (fun a b=>Ga a b=true):=List.pairwise_mergeSort (fun a b c=>by simp only[Ga,CY];omega) (fun a b=>by simp only[Ga,FU,CY];omega) _
  have h2:((l++[s]).mergeSort Ga).Nodup:=hp.nodup_iff.2 (by
   rw[List.nodup_append];refine⟨h.imp fun hab=>by omega,by simp,fun a ha b hb=>?_⟩;simp only[Kj]at hb;rintro rfl
   exact hc' (hb ▸ ha))
  exact(h1.and h2).imp fun⟨h3,h4⟩=>by
   simp only[Ga,CY]at h3;omega
def JK: ∀ {l m:List Int},l.Pairwise (· < ·)→m.Pairwise (· < ·)→(∀x,x∈l↔x∈m)→l=m
 | [],[],_,_,_=>rfl
 | [],y::m,_,_,h=>absurd ((h y).2 (.head _)) (by simp)
 | x::l,[],_,_,h=>absurd ((h x).1 (.head _)) (by simp)
 | x ::l,y::m,h1,h2,h=>by
   rw[List.pairwise_cons]at h1 h2
   have hxy:x=y:=by
    rcases Fh.1 ((h x).1 (.head _))with e|hx
    ·exact e
    ·rcases Fh.1 ((h y).2 (.head _))with e|hy
     ·exact e.symm
     ·have:=h1.1 y hy
      have:=h2.1 x hx;omega
   subst hxy;congr 1;refine JK h1.2 h2.2 fun z=>?_
   constructor
   ·intro hz
    rcases Fh.1 ((h z).1 (.tail _ hz))with e|hz'
    ·have:=h1.1 z hz;omega
    ·exact hz'
   ·intro hz
    rcases Fh.1 ((h z).2 (.tail _ hz))with e|hz'
    ·have:=h2.1 z hz;omega
    ·exact hz'
def CK {path pre:List Int}:B2 path pre=true↔ ∃t,path=pre++t:=by
 simp only[B2,BY,CY,Dn];constructor
 ·rintro⟨_,h⟩
  exact⟨path.drop pre.length,by conv=>lhs;rw[←List.take_append_drop pre.length path,h]⟩
 ·rintro⟨t,rfl⟩
  simp
def TJ {path p:List Int} {s:Int}:B2 path (p++[s])=true↔B2 path p=true∧path≠p∧path.getD p.length 0=s:=by
 rw[CK,CK];constructor
 ·rintro⟨t,rfl⟩
  refine⟨⟨s::t,by simp⟩,fun e=>?_,by simp⟩;have:=congrArg List.length e;simp at this
 ·rintro⟨⟨t,rfl⟩,hne,hs⟩
  cases t with
  | nil=>simp at hne
  | cons y t=>simp at hs;subst hs;exact⟨t,by simp⟩
def Vl {a:Int} {p:List Int} {s:Int} {l:Fact}:de a p s l=true↔(A5 l).1.arg=a∧B2 (A5 l).1.path p=true∧(A5 l).1.path≠p∧(A5 l).1.path.getD p.length 0=s:=by
 rw[de,BY,TJ,Dn]
def S4 (a:Int) (p:List Int) (k:Kn) (l:Fact):(DA a p k l).AS=if(A5 l).1.arg=a∧B2 (A5 l).1.path p=true∧(A5 l).1.path≠p then H7 k.AS ((A5 l).1.path.getD p.length 0)else k.AS:=by
 unfold DA;by_cases h1:(A5 l).1.arg=a∧B2 (A5 l).1.path p=true
 ·rw[if_pos h1]
  by_cases h2:(A5 l).1.path=p
  ·rw[if_pos h2,if_neg (fun h=>h.2.2 h2),Pk];rfl
  ·rw[if_neg h2,if_pos ⟨h1.1,h1.2,h2⟩];rfl
 ·rw[if_neg h1,if_neg (fun h=>h1 ⟨h.1,h.2.1⟩)]
def N5 (a:Int) (p:List Int): ∀(ls:List Fact) (k:Kn),k.AS.Pairwise (· < ·)→(ls.foldl (DA a p) k).AS.Pairwise (· < ·)∧ ∀s,s∈(ls.foldl (DA a p) k).AS↔s∈k.AS∨ls.any (de a p s)=true
 | [],k,h=>⟨h,fun s=>by simp⟩
 | l ::r,k,h=>by
   rw[List.foldl_cons];have e:=S4 a p k l
   have h1:(DA a p k l).AS.Pairwise (· < ·):=by
    rw[e];split
    ·exact Q3 _ h
    ·exact h
   obtain⟨i1,i2⟩:=N5 a p r _ h1;refine⟨i1,fun s=>?_⟩;rw[i2,e,Q7,FU,Vl];split
   ·rename_i hc
    rw[Xq];constructor
    ·rintro((h|rfl)|h)
     ·exact .inl h
     ·exact .inr (.inl ⟨hc.1,hc.2.1,hc.2.2,rfl⟩)
     ·exact .inr (.inr h)
    ·rintro(h|⟨-,-,-,h⟩|h)
     ·exact .inl (.inl h)
     ·exact .inl (.inr h.symm)
     ·exact .inr h
   ·rename_i hc
    constructor
    ·rintro(h|h)
     ·exact .inl h
     ·exact .inr (.inr h)
    ·rintro(h|⟨q1,q2,q3,-⟩|h)
     ·exact .inl h
     ·exact absurd ⟨q1,q2,q3⟩ hc
     ·exact .inr h
def HD (n:Nat) (ls:List Fact):Prop:= ∀l∈ls,∀s∈(A5 l).1.path,(0:Int)≤s∧s<n
def E2 {n:Nat} {s:Int}:s∈Bk n↔0≤s∧s<n:=by
 simp only[Bk,MT,List.mem_range];constructor
 ·rintro⟨m,hm,rfl⟩
  exact⟨Int.natCast_nonneg m,by simpa using hm⟩
 ·rintro⟨h0,h1⟩
  exact⟨s.toNat,by omega,by simp;omega⟩
def I0 (n:Nat):(Bk n).Pairwise (· < ·):=by
 rw[Bk,List.pairwise_map];exact List.pairwise_lt_range.imp fun h=>by simpa using h
def gv {n:Nat} {ls:List Fact} (h:HD n ls) {a:Int} {p:List Int} {s:Int} {l:Fact} (hl:l∈ls) (hg:de a p s l=true):0≤s∧s<n:=by
 rw[Vl]at hg;obtain⟨-,h2,h3,h4⟩:=hg;obtain⟨t,ht⟩:=CK.1 h2;refine h l hl s ?_;rw[ht]at h3 h4 ⊢;cases t with
 | nil=>simp at h3
 | cons y t=>simp at h4;subst h4;simp
def KF {n:Nat} {ls:List Fact} (h:HD n ls) (a:Int) (p:List Int):(kn ls a p).AS=Dg n ls a p:=by
 obtain⟨h1,h2⟩:=N5 a p ls k0 .nil;refine JK h1 ((I0 n).filter _) fun s=>?_
 show s∈(ls.foldl (DA a p) k0).AS↔_;rw[h2,Dg,Kl,E2];constructor
 ·rintro(h|hs)
  ·cases h
  ·obtain⟨l,hl,hg⟩:=Ip.1 hs
   exact⟨gv h hl hg,hs⟩
 ·exact fun hs=> .inr hs.2
def EU (os:List Fact) (k:Kn):Kn:=os.foldl (fun k l=>Ci k (A5 l).1 (A5 l).2) k
abbrev Es (k:Kn):Int×Int×List Int×Nat×Nat×Bool:=(k.low,k.high,k.no,k.CM,k.F7,k.whole)
def Sb {k k':Kn} (h:Es k=Es k') (f:Fact) (b:Bool):Es (Ci k f b)=Es (Ci k' f b):=by
 cases k;cases k';simp only[Es,Prod.mk.injEq]at h;obtain⟨rfl,rfl,rfl,rfl,rfl,rfl⟩:=h;unfold Ci
 (repeat' split)<;>rfl
def Lv (p:List Int):B2 p p=true:=CK.2 ⟨[],by simp⟩
def Xc (a:Int) (p:List Int) (k:Kn) (l:Fact):Es (DA a p k l)=if LV a p l then Es (Ci k (A5 l).1 (A5 l).2)else Es k:=by
 unfold DA LV;by_cases h1:(A5 l).1.arg=a
 ·by_cases h2:(A5 l).1.path=p
  ·have e:((A5 l).1.arg==a&&(A5 l).1.path==p)=true:=by simp[h1,h2]
   rw[if_pos ⟨h1,by rw[h2];exact Lv p⟩,if_pos h2,e,if_pos rfl];exact Sb (k:=De k (A5 l).2) (k':=k) rfl _ _
  ·have e:((A5 l).1.arg==a&&(A5 l).1.path==p)=false:=by simp[h2]
   rw[if_neg h2,e,if_neg Bool.false_ne_true];split<;>rfl
 ·have e:((A5 l).1.arg==a&&(A5 l).1.path==p)=false:=by simp[h1]
  rw[if_neg (fun h=>h1 h.1),e,if_neg Bool.false_ne_true]
def LP (a:Int) (p:List Int): ∀(ls:List Fact) (k k':Kn),Es k=Es k'→Es (ls.foldl (DA a p) k)=Es (EU (ls.filter (LV a p)) k')
 | [],k,k',h=>h
 | l ::r,k,k',h=>by
   rw[List.foldl_cons,List.filter_cons];have e:=Xc a p k l;split
   ·rename_i ho
    rw[if_pos ho]at e;exact LP a p r _ _ (e.trans (Sb h _ _))
   ·rename_i ho
    rw[if_neg (by simpa using ho)]at e;exact LP a p r _ _ (e.trans h)
def MM (ls:List Fact) (a:Int) (p:List Int):Es (kn ls a p)=Es (EU (ls.filter (LV a p)) k0):=LP a p ls k0 k0 rfl
def er (x:Fact×Bool):Bool:= !(x.1.op==2)||(decide (x.1.cls > 1)==x.2)
def Wf (x:Fact×Bool) (k:Kn):Rf x (k.low,k.high,k.no)=if er x then some ((Ci k x.1 x.2).low,(Ci k x.1 x.2).high,(Ci k x.1 x.2).no)else none:=by
 unfold Rf er Ci;by_cases h2:x.1.op=2
 ·rw[if_pos h2,if_pos h2]
  cases x.2<;>cases decide (x.1.cls > 1)<;>simp[h2]
 ·rw[if_neg h2,if_neg h2]
  by_cases h3:x.1.op=3
  ·rw[if_pos h3,if_pos h3]
   cases x.2<;>simp[h2]
  ·rw[if_neg h3,if_neg h3]
   cases x.2<;>simp[h2]
def Pa: ∀(os:List Fact) (k:Kn),foldI os (k.low,k.high,k.no)=if os.all (fun l=>er (A5 l))then some ((EU os k).low,(EU os k).high,(EU os k).no)else none
 | [],k=>rfl
 | l ::r,k=>by
   rw[foldI,Wf,TV];cases hb:er (A5 l)with
   | false=>rfl
   | true=>
     rw[if_pos rfl,Option.bind_some,Pa r,EW];rfl
def aY (k:Kn) (f:Fact) (c:Bool) (b:Nat):(Ci k f c).CM.testBit b=(k.CM.testBit b||(f.op==2&& !c&&f.cls.toNat==b)):=by
 unfold Ci;by_cases h2:f.op=2
 ·rw[if_pos h2]
  cases c<;>simp[h2,Nat.testBit_or,Nat.testBit_two_pow,Bool.beq_eq_decide_eq]
 ·rw[if_neg h2]
  have:(f.op==2)=false:=by simpa using h2
  rw[this]
  repeat' split
  all_goals simp
def dR (k:Kn) (f:Fact) (c:Bool) (b:Nat):(Ci k f c).F7.testBit b=(k.F7.testBit b||(f.op==2&&c&&f.cls.toNat==b)):=by
 unfold Ci;by_cases h2:f.op=2
 ·rw[if_pos h2]
  cases c<;>simp[h2,Nat.testBit_or,Nat.testBit_two_pow,Bool.beq_eq_decide_eq]
 ·rw[if_neg h2]
  have:(f.op==2)=false:=by simpa using h2
  rw[this]
  repeat' split
  all_goals simp
def Xl (k:Kn) (f:Fact) (c:Bool):(Ci k f c).whole=(k.whole||(!c&& !(f.op==2))):=by
 unfold Ci;by_cases h2:f.op=2
 ·rw[if_pos h2]
  cases c<;>simp[h2]
 ·rw[if_neg h2]
  have:(f.op==2)=false:=by simpa using h2
  rw[this];cases c<;>(repeat' split)<;>simp_all
def LQ: ∀(os:List Fact) (k:Kn) (b:Nat),(EU os k).CM.testBit b=(k.CM.testBit b||os.any fun l=>(A5 l).1.op==2&& !(A5 l).2&&(A5 l).1.cls.toNat==b)
 | [],k,b=>by simp[EU]
 | l::r,k,b=>by
   have:=LQ r (Ci k (A5 l).1 (A5 l).2) b;rw[aY]at this;rw[Q7,←Bool.or_assoc,←this];rfl
def NS: ∀(os:List Fact) (k:Kn) (b:Nat),(EU os k).F7.testBit b=(k.F7.testBit b||os.any fun l=>(A5 l).1.op==2&&(A5 l).2&&(A5 l).1.cls.toNat==b)
 | [],k,b=>by simp[EU]
 | l::r,k,b=>by
   have:=NS r (Ci k (A5 l).1 (A5 l).2) b;rw[dR]at this;rw[Q7,←Bool.or_assoc,←this];rfl
def JW: ∀(os:List Fact) (k:Kn),(EU os k).whole=(k.whole||os.any fun l=> !(A5 l).2&& !((A5 l).1.op==2))
 | [],k=>by simp[EU]
 | l::r,k=>by
   have:=JW r (Ci k (A5 l).1 (A5 l).2);rw[Xl]at this;rw[Q7,←Bool.or_assoc,←this];rfl
def OQ (m up:Nat):Bool:=(List.range 64).all fun b=> !m.testBit b||up.testBit b
def M8 {m up:Nat} (hm:m<2 ^ 64):OQ m up=true↔ ∀b,m.testBit b=true→up.testBit b=true:=by
 simp only[OQ,EY,List.mem_range,FU,Bool.not_eq_true'];constructor
 ·intro h b hb
  have hlt:b<64:=by
   rcases Nat.lt_or_ge b 64 with h'|h'
   ·exact h'
   ·rw[Nat.testBit_lt_two_pow (Nat.lt_of_lt_of_le hm (Nat.pow_le_pow_right (by decide) h'))]at hb;cases hb
  rcases h b hlt with h'|h'
  ·rw[hb]at h';cases h'
  ·exact h'
 ·intro h b _
  cases hb:m.testBit b with
  | false=>exact .inl rfl
  | true=>exact .inr (h b hb)
def NP {m n:Nat}:(m&&&n==0)=true↔ ∀b,m.testBit b=true→n.testBit b=true→False:=by
 rw[Dn];constructor
 ·intro h b h1 h2
  have:=congrArg (fun x=>x.testBit b) h;simp[Nat.testBit_and,h1,h2]at this
 ·intro h
  refine Nat.eq_of_testBit_eq fun b=>?_
  rw[Nat.testBit_and,Nat.zero_testBit];cases h1:m.testBit b with
  | false=>rfl
  | true=>
    cases h2:n.testBit b with
    | false=>rfl
    | true=>exact(h b h1 h2).elim
def QH (c b:Nat):(1|||2 ^ c).testBit b=(b==0||b==c):=by
 rw[Nat.testBit_or,Nat.testBit_two_pow,show(1:Nat)=2 ^ 0 from rfl,Nat.testBit_two_pow];rw[Kk];simp only[FU,CY,Dn];omega
def Hv (n:Nat) (ls:List Fact):Prop:= ∀l∈ls,(A5 l).1.op=2→0≤(A5 l).1.cls∧(A5 l).1.cls<n
def N0 {m n:Nat} (h: ∀b,m.testBit b=true→b<n):m<2 ^ n:=by
 refine Nat.lt_pow_two_of_testBit _ fun i hi=>?_
 cases hb:m.testBit i with
 | false=>rfl
 | true=>have:=h i hb;omega
def QU {os:List Fact} {n:Nat} (h:Hv n os):(EU os k0).CM<2 ^ n:=N0 fun b hb=>by
 rw[LQ]at hb;simp only[k0,Nat.zero_testBit,Bool.false_or,Ip,BY,Dn]at hb;obtain⟨l,hl,⟨h2,-⟩,rfl⟩:=hb;have:=h l hl h2;omega
def gE {os:List Fact} {n:Nat} (h:Hv n os):(EU os k0).F7<2 ^ n:=N0 fun b hb=>by
 rw[NS]at hb;simp only[k0,Nat.zero_testBit,Bool.false_or,Ip,BY,Dn]at hb;obtain⟨l,hl,⟨h2,-⟩,rfl⟩:=hb;have:=h l hl h2;omega
def KC {os:List Fact} {b:Nat}:(EU os k0).CM.testBit b=true↔ ∃l∈os,(A5 l).1.op=2∧(A5 l).2=false∧(A5 l).1.cls.toNat=b:=by
 rw[LQ];simp only[k0,Nat.zero_testBit,Bool.false_or,Ip,BY,Dn,Bool.not_eq_true',and_assoc]
def VX {os:List Fact} {b:Nat}:(EU os k0).F7.testBit b=true↔ ∃l∈os,(A5 l).1.op=2∧(A5 l).2=true∧(A5 l).1.cls.toNat=b:=by
 rw[NS];simp only[k0,Nat.zero_testBit,Bool.false_or,Ip,BY,Dn,and_assoc]
def Wv {os:List Fact} {n:Nat} (hn:n≤64) (h:Hv n os):(OQ (EU os k0).CM (1|||2 ^ 1)&&((EU os k0).F7&&&(1|||2 ^ 1)==0))=os.all fun l=>er (A5 l):=by
 rw[Kk,BY,M8 (Nat.lt_of_lt_of_le (QU h) (Nat.pow_le_pow_right (by decide) hn)),NP];simp only[KC,VX,QH,EY,er,FU,Bool.not_eq_true',beq_eq_false_iff_ne,Dn,ne_eq];constructor
 ·rintro⟨h1,h2⟩ l hl
  by_cases ho:(A5 l).1.op=2
  ·right
   have hc:=h l hl ho;cases hb:(A5 l).2 with
   | false=>
     have:=h1 _ ⟨l,hl,ho,hb,rfl⟩;rw[decide_eq_false_iff_not];omega
   | true=>
     rw[CY];rcases Int.lt_or_le 1 (A5 l).1.cls with hlt|hle
     ·exact hlt
     ·exact(h2 _ ⟨l,hl,ho,hb,rfl⟩ (by omega)).elim
  ·exact .inl ho
 ·intro h1
  constructor
  ·rintro b ⟨l,hl,ho,hb,rfl⟩
   rcases h1 l hl with h'|h'
   ·exact absurd ho h'
   ·have hc:=h l hl ho
    rw[hb,decide_eq_false_iff_not]at h';omega
  ·rintro b ⟨l,hl,ho,hb,rfl⟩ hu
   rcases h1 l hl with h'|h'
   ·exact absurd ho h'
   ·have hc:=h l hl ho
    rw[hb,CY]at h';omega
def Wd (x:Fact×Bool):(!Oj x)=true↔(x.2=false→x.1.op=2∧(x.1.cls=0∨x.1.cls=2))∧(x.2=true→ ¬(x.1.op=2∧(x.1.cls=0∨x.1.cls=2))):=by
 have e:(x.1.op==2&&(x.1.cls==0||x.1.cls==2))=true↔x.1.op=2∧(x.1.cls=0∨x.1.cls=2):=by
  simp only[BY,FU,Dn]
 rw[←e,Oj];generalize (x.1.op==2&&(x.1.cls==0||x.1.cls==2))=y;cases x.2<;>cases y<;>simp
def WX {os:List Fact}:(!(EU os k0).whole)=true↔ ∀l∈os,(A5 l).2=false→(A5 l).1.op=2:=by
 rw[JW,Bool.not_eq_true',←Bool.not_eq_true];simp only[k0,Bool.false_or,Ip,BY,Bool.not_eq_true',beq_eq_false_iff_ne];constructor
 ·intro h l hl hb
  rcases Classical.em ((A5 l).1.op=2)with e|e
  ·exact e
  ·exact absurd ⟨l,hl,hb,e⟩ h
 ·rintro h ⟨l,hl,hb,e⟩
  exact e (h l hl hb)
def UI {os:List Fact} {n:Nat} (hn:n≤64) (h:Hv n os):(!(EU os k0).whole&&(OQ (EU os k0).CM (1|||2 ^ 2)&&((EU os k0).F7&&&(1|||2 ^ 2)==0)))=os.all fun l=> !Oj (A5 l):=by
 rw[Kk,BY,BY,M8 (Nat.lt_of_lt_of_le (QU h) (Nat.pow_le_pow_right (by decide) hn)),NP,WX,EY];simp only[KC,VX,QH,FU,Dn,Wd];constructor
 ·rintro⟨h0,h1,h2⟩ l hl
  refine⟨fun hb=>?_,fun hb ⟨ho,hc⟩=>h2 _ ⟨l,hl,ho,hb,rfl⟩ (by omega)⟩;have ho:=h0 l hl hb;have hc:=h l hl ho;have:=h1 _ ⟨l,hl,ho,hb,rfl⟩;exact⟨ho,by omega⟩
 ·intro h1
  refine⟨fun l hl hb=>((h1 l hl).1 hb).1,?_,?_⟩
  ·rintro b ⟨l,hl,ho,hb,rfl⟩
   have:=((h1 l hl).1 hb).2;omega
  ·rintro b ⟨l,hl,ho,hb,rfl⟩ hu
   have hc:=h l hl ho;exact(h1 l hl).2 hb ⟨ho,by omega⟩
def LB {no:List Int}: ∀(k:Nat) (m:Int),(X8 no k m).isSome=true↔ ∃j:Nat,j<k∧m+j∉no
 | 0,m=>by simp[X8]
 | k + 1,m=>by
   rw[X8];split
   ·rename_i h
    simp only[Option.isSome_some,true_iff];refine⟨0,by omega,fun hm=>?_⟩;rw[EY]at h;have:=h _ hm;simp at this
   ·rename_i h
    rw[LB k]
    have hm:m∈no:=by
     rcases Classical.em (m∈no)with h'|h'
     ·exact h'
     ·refine absurd (EY.2 fun x hx=>?_) h
      rw[rU];rintro rfl;exact h' hx
    constructor
    ·rintro⟨j,hj,h'⟩
     exact⟨j+1,by omega,by rw[show m+((j+1:Nat):Int)=m+1+j by omega];exact h'⟩
    ·rintro⟨j,hj,h'⟩
     cases j with
     | zero=>simp at h';exact absurd hm h'
     | succ j=>exact⟨j,by omega,by rw[show m+1+(j:Int)=m+((j+1:Nat):Int) by omega];exact h'⟩
def ZY {low high n:Int} {no:List Int} (h0:low≤n) (h1:n∉no) (h2: ∀m,low≤m→m<n→m∈no):(Rg (low,high,no)).isSome=decide (n≤high):=by
 rw[Kk,Rg,LB,CY];constructor
 ·rintro⟨j,hj,h⟩
  rcases Int.lt_or_le (low+j) n with hlt|hle
  ·exact absurd (h2 _ (by omega) hlt) h
  ·simp only at hj;omega
 ·intro h
  refine⟨(n - low).toNat,by simp only;omega,?_⟩;rw[show low+((n - low).toNat:Int)=n by omega];exact h1
end Go.Gl
