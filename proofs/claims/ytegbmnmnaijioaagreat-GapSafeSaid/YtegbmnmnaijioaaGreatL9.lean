import Derived.Test.YtegbmnmnaijioaaGreatL8
set_option linter.all false
set_option linter.defProp false
noncomputable section
namespace Go.Gl
open Go.Proofs
attribute [local irreducible] As Am Ac AQ AM Ab AP AR AL Aa AN AO Ao Ax Sat AW Au Ad W
def Et (p:Prog) (next:Bool) (n size depth:Int) (s:List Int):Option (List Int):=
 if n<0\/(p.nodes.length:Int)<=n\/0<=s.getD n.toNat 0\/12<depth then none else
 match p.nodes[n.toNat]? with
 | none=>none
 | some x=>if F3 p next size x then some (s.set n.toNat size)else none
def dE {S:Type}:Option S->Rd S
 | some s=> .go s
 | none=> .BZ Db
abbrev xG (y:Int×Int×Int):List V:=[eI y.1,.a [eI y.2.1,eI y.2.2]]
abbrev hOut (nO:Nat) (v:V) (s:List Int):List At:=[.box nO [v],.own v 1 (iL s)]
abbrev dP (p:Prog) (y:Int×Int×Int) (s:List Int):Prop:=0<=y.2.1/\y.2.1<=100/\1<=y.2.2/\y.2.2<=13/\s.length=p.nodes.length
abbrev Wy (p:Prog) (L nW:Nat):V:= .f (.func 328) [] [.rp [.f (.yield L) [] []],.rp (Ba p),.p nW 0]
def XU {p:Prog} {next:Bool} {n size depth:Int} {s s':List Int} (h:Et p next n size depth s=some s'):0<=n/\n<(p.nodes.length:Int)/\s.getD n.toNat 0<0/\depth<=12/\ ∃x,p.nodes[n.toNat]? =some x/\F3 p next size x=true/\s'=s.set n.toNat size:=by
 unfold Et at h;split at h
 .cases h
 .rename_i hc
  split at h
  .cases h
  .rename_i x hx
   split at h
   .rename_i hok
    simp only[II]at h;exact⟨by omega,by omega,by omega,by omega,x,hx,hok,h.symm⟩
   .cases h
def XT {p:Prog} {next:Bool} {d:Nat} {n size depth:Int} {s:List Int} (hd:depth=13 - (d+1:Nat)) (hd1:1<=depth):C8 p next (d+1) n size s=match Et p next n size depth s with
    | none=>none
    | some s'=>match p.nodes[n.toNat]? with
      | none=>none
      | some x=>Jj (C8 p next d) x.op size 0 x.kids s':=by
 unfold Et;simp only[C8];by_cases h:n<0\/(p.nodes.length:Int)<=n\/0<=s.getD n.toNat 0
 .rw[if_pos h,if_pos (by omega)]
 .rw[if_neg h,if_neg (by omega)]
  cases hx:p.nodes[n.toNat]? with
  | none=>rfl
  | some x=>
    simp only;split
    .rfl
    .rfl
def XV {p:Prog} {next:Bool} {n size depth:Int} {s:List Int} (hd:12<depth):Et p next n size depth s=none:=by
 unfold Et;rw[if_pos (by omega)]
def RD {f:Int->Int->List Int->Option (List Int)} (hf: ∀ {a b s s'},f a b s=some s'->s'.length=s.length) {op size:Int}: ∀(i:Nat) (l:List Int) {s s':List Int},Jj f op size i l s=some s'->s'.length=s.length
 | _,[],s,s',h=>by cases h;rfl
 | i,k::r,s,s',h=>by
   simp only[Jj]at h;split at h
   .cases h
   .rename_i s1 h1
    exact(RD hf (i+1) r h).trans (hf h1)
def JE {p:Prog} {next:Bool}: ∀(d:Nat) {n size:Int} {s s':List Int},C8 p next d n size s=some s'->s'.length=s.length
 | 0,_,_,_,_,h=>by cases h
 | d + 1,n,size,s,s',h=>by
   simp only[C8]at h;split at h
   .cases h
   .split at h
    .cases h
    .split at h
     .exact(RD (fun h=>JE d h) 0 _ h).trans (by simp)
     .cases h
set_option maxHeartbeats 4000000 in
def jy (p : Prog) (next:Bool) {L:Nat} {E:Env} {ok:FuncId->Array Tmp->Code->Code->Nat->Prop} {v:V} {nO:Nat}
    (hY:MT Tryz.prog L E ok xG (hOut nO v) (fun s=>s.length=p.nodes.length) (fun y s=>dE (Et p next y.1 y.2.1 y.2.2 s)) (dP p)) :
    ∀ d : Nat,d<=12-> ∀(n size depth:Int) (s:List Int),depth=13 - d->0<=size->size+d<=100->s.length=p.nodes.length-> ∀(nW:Nat) (rest:List At) (σ:AH),
      Sat σ (.obj L (.loop .ready E ok)::(hOut nO v s++(.box nW [Wy p L nW]::rest)))->
      As Tryz.prog 328 [eI n,.a [eI size,eI depth],.rp [.f (.yield L) [] []],.rp (Ba p),.p nW 0] σ
       (jd L E ok (hOut nO v) (fun s=>s.length=p.nodes.length) (.box nW [Wy p L nW]::rest) (.b true) (.b false) (dE (C8 p next d n size s))):=by
 intro d
 induction d with
 | zero=>
   intro _ n size depth s hd h0 h1 hl nW rest σ hs;refine fL kZ ?_
   conv=>whnf
   repeat'((first|apply st|(apply sq;intro K U)|(apply si;intro A B Y Z)|(apply Y;clear Z B Y A)|(apply U;clear U K)|refine⟨kZ,?_⟩|fail)<;>conv=>whnf)
   refine hY.use (y:=(n,size,depth)) (s:=s) ⟨h0,(by dsimp only;omega),(by dsimp only;omega),(by dsimp only;omega),hl⟩ hs ?_;rw[XV (by dsimp only;omega)];rintro r σ' ⟨rfl,s',hj,hs'⟩
   conv=>whnf
   repeat'((first|(refine Z _ _ _ ?_;clear Z B Y A)|clear U K)<;>conv=>whnf)
   exact C4 ⟨rfl,s',hj,hs'⟩
 | succ d ih =>
   intro hd12 n size depth s hd h0 h1 hl nW rest σ hs;refine As.fit (by kernel_rfl) fun hf=>?_
   have hM:=Mx
   have hfp:FE (.a (Ba p)):=by
    have:=hf.2.2.2.1;simp only[TL]at this;simpa only[J6]using this
   have⟨p1,p2,p3,p4⟩:=OW hfp;refine fL kZ ?_
   conv=>whnf
   repeat'((first|apply st|(apply sq;intro K U)|(apply si;intro A B Y Z)|(apply Y;clear Z B Y A)|(apply U;clear U K)|refine⟨kZ,?_⟩|fail)<;>conv=>whnf)
   refine hY.use (y:=(n,size,depth)) (s:=s) ⟨h0,(by dsimp only;omega),(by dsimp only;omega),(by dsimp only;omega),hl⟩ hs ?_;have hw:=XT (p:=p) (next:=next) (n:=n) (size:=size) (s:=s) hd (by omega);cases hv:Et p next n size depth s with
   | none=>
     rw[hv]at hw;rintro r σ' ⟨rfl,s',hj,hs'⟩
     conv=>whnf
     repeat'((first|(refine Z _ _ _ ?_;clear Z B Y A)|clear U K)<;>conv=>whnf)
     refine C4 ?_;rw[hw];exact⟨rfl,s',hj,hs'⟩
   | some s1 =>
     obtain⟨g0,g1,g2,g3,x,hx,hok,hs1⟩:=XU hv;rw[hv]at hw;simp only[hx]at hw;have hl1:s1.length=p.nodes.length:=by rw[hs1];simpa using hl
     have hkm:=qy hfp (Dm hx);clear hv hs1;rintro r σ1 ⟨rfl,hs⟩
     conv=>whnf
     repeat'((first|apply st|(apply sq;intro K U)|(apply si;intro A B Y Z)|(apply Y;clear Z B Y A)|(apply U;clear U K)|refine Kf ?_|refine Es ?_|fail)<;>conv=>whnf)
     refine D3 x.kids.length (fun k (_:List Int)=>[(23,eI (Bq k))]) (fun _ s'=> .obj L (.loop .ready E ok)::(hOut nO v s'++(.box nW [Wy p L nW]::rest))) (fun k s'=>s'.length=p.nodes.length/\C8 p next (d+1) n size s=Jj (C8 p next d) x.op size k (x.kids.drop k) s') s1 rfl ⟨hl1,by simpa using hw⟩ hs ?_;clear hs hw;rintro k s' σ hk ⟨hl',hkids⟩ hs;rcases BM x.kids hk with⟨kid,hkid,hlt⟩|hke
     .have hck:Bq k=k:=AV (by omega)
      rw[drop_cons hkid,Jj]at hkids;have e0:IntKind.i64.wrap (depth+1)=depth+1:=wrap64 (by omega) (by omega);have e1:IntKind.i64.wrap (size+1)=size+1:=wrap64 (by omega) (by omega)
      have hrec: ∀(sz:Int) (σ:AH) (l:List At),0<=sz->sz+d<=100->Sat σ (l++(.obj L (.loop .ready E ok)::(hOut nO v s'++(.box nW [Wy p L nW]::rest))))->Ao Tryz.prog (Wy p L nW) [eI kid,.a [eI sz,eI (depth+1)]] σ
       (jd L E ok (hOut nO v) (fun s=>s.length=p.nodes.length) (.box nW [Wy p L nW]::rest) (.b true) (.b false) (dE (C8 p next d kid sz s'))):=fun sz σ l h0 h1 hs=>
       BD (ih (by omega) kid sz (depth+1) s' (by omega) h0 h1 hl' nW rest σ (hs.less (List.sublist_append_right _ _)))
      conv=>whnf
      repeat'((first|apply st|(apply sq;intro K U)|(apply si;intro A B Y Z)|(apply Y;clear Z B Y A)|(apply U;clear U K)|refine⟨rfl,?_⟩|refine⟨kZ,?_⟩|refine ix ?_|refine Kf ?_|refine ld ?_|refine EK fun σ hs=>?_|refine Di fun σ hs=>?_|(refine DV (fun hc=>?_)<;>(try rw[hc])<;>clear hc)|(constructor<;>intro hc<;>(try rw[hc])<;>(replace hc:=bp hc)<;>(try simp(disch:=omega) only[Bu,wrap64,AV]at hc))|(intro nn hnn;generalize hg:A6 _ nn _=σ;refine Ci hg fun hs=>?_;clear hg)|fail)<;>conv=>whnf)
      all_goals
       simp only[e0,e1]
       first
        | rw[if_pos (by omega)]at hkids
          refine(hrec (size+1) _ [_] (by omega) (by omega) hs).mono ?_
        | rw[if_neg (by omega)]at hkids
          refine(hrec size _ [_] (by omega) (by omega) hs).mono ?_
       cases hw:C8 p next d kid _ s' with
       | none=>
         rw[hw]at hkids;rintro r σ' ⟨rfl,s',hj,hs'⟩
         conv=>whnf
         repeat'((first|(refine Z _ _ _ ?_;clear Z B Y A)|clear U K)<;>conv=>whnf)
         refine C4 ?_;rw[hkids];exact⟨rfl,s',hj,hs'⟩
       | some s2=>
         rw[hw]at hkids;rintro r σ' ⟨rfl,hs'⟩
         conv=>whnf
         repeat'((first|apply st|(apply si;intro A B Y Z)|(apply Y;clear Z B Y A)|(apply U;clear U K)|refine⟨rfl,?_⟩|refine Es ?_|clear U K)<;>conv=>whnf)
         exact⟨hlt,s2,rfl,⟨(JE _ hw).trans hl',hkids⟩,hs'⟩
     .rw[BX hke,Jj]at hkids
      conv=>whnf
      repeat'((first|apply st|(apply sq;intro K U)|(apply si;intro A B Y Z)|(apply Y;clear Z B Y A)|(apply U;clear U K)|refine⟨rfl,?_⟩|(refine EZ (fun hc=>?_)<;>(try rw[hc])<;>clear hc)|clear U K)<;>conv=>whnf)
      refine AK ?_;rw[hkids];exact⟨rfl,hs⟩
def oh {a b:Nat} {A B:Prop} (e:a=b) (h:A):(a=b->A)/\(a≠b->B):=⟨fun _=>h,fun n=>absurd e n⟩
def xN {a b:Nat} {A B:Prop} (e:a≠b) (h:B):(a=b->A)/\(a≠b->B):=⟨fun n=>absurd n e,fun _=>h⟩
def gD {P:Program} {σ:AH} {tab:List (TypeId×FuncId)} {t:TypeId} {f:FuncId} {v:V} {args:List V} {Q:R->AH->Prop} (h:look t tab=some f) (hc:As P f (v::args) σ Q):Ax P tab (.Eo t v) args σ Q:=by
 unfold Ax;simp only[h];exact hc
def iz (p:Prog) (n size depth:Int):Pure Tryz.prog 285 [.a (Ba p),eI n,.a [eI size,eI depth]] (.f (.func 327) [] [.rp (Ba p),.rp [eI n],.rp [eI size,eI depth]]):=by
 refine sE kZ ?_;have hs:=Sn
 conv=>whnf
 repeat'((first|apply st|(apply sq;intro K U)|(apply si;intro A B Y Z)|(apply Y;clear Z B Y A)|(apply U;clear U K)|fail)<;>conv=>whnf)
 all_goals exact AS rfl
set_option maxHeartbeats 4000000 in
def qw (p:Prog) (next:Bool) {L:Nat} {E:Env} {ok:FuncId->Array Tmp->Code->Code->Nat->Prop} {v:V} {nO:Nat}
    (hY:MT Tryz.prog L E ok xG (hOut nO v) (fun s=>s.length=p.nodes.length) (fun y s=>dE (Et p next y.1 y.2.1 y.2.2 s)) (dP p)) (n size:Int) (s:List Int) (h0:0<=size) (h1:size<=20) (hl:s.length=p.nodes.length) (rest:List At) (σ:AH)
    (hs : Sat σ (.obj L (.loop .ready E ok)::(hOut nO v s++rest))) :
     As Tryz.prog 327 [.f (.yield L) [] [],.rp (Ba p),.rp [eI n],.rp [eI size,eI 1]] σ
      (jd L E ok (hOut nO v) (fun s=>s.length=p.nodes.length) rest (.t []) (.t []) (dE (C8 p next 12 n size s))):=by
 refine rW kZ ?_
 conv=>whnf
 repeat'((first|apply st|(apply sq;intro K U)|(apply si;intro A B Y Z)|(apply Y;clear Z B Y A)|(apply U;clear U K)|refine⟨kZ,?_⟩|refine ld ?_|refine EK fun σ hs=>?_|(intro nn hnn;generalize hg:A6 _ nn _=σ;refine Ci hg fun hs=>?_;clear hg)|fail)<;>conv=>whnf)
 have hp:Sat σ (.obj L (.loop .ready E ok)::(hOut nO v s++(.box nn [Wy p L nn]::rest))):=hs.perm (by
  refine(List.Perm.swap _ _ _).trans (.cons _ ?_)
  exact(List.perm_middle (l₁:=hOut nO v s)).symm)
 refine BD ((jy p next hY 12 (IN _) n size 1 s rfl h0 (by omega) hl nn rest σ hp).mono ?_);cases hw:C8 p next 12 n size s with
 | none=>
   rintro r σ' ⟨rfl,s',hj,hs'⟩
   conv=>whnf
   repeat'((first|(refine Z _ _ _ ?_;clear Z B Y A)|fail)<;>conv=>whnf)
   refine C4 ?_;rw[hw];exact⟨rfl,s',hj,hs'.less (List.Sublist.append_left (Mz _ _) _)⟩
 | some s2=>
   rintro r σ' ⟨rfl,hs'⟩
   conv=>whnf
   repeat'((first|(apply Y;clear Z B Y A)|fail)<;>conv=>whnf)
   refine AK ?_;rw[hw];exact⟨rfl,hs'.less (.cons₂ _ (List.Sublist.append_left (Mz _ _) _))⟩
def WA (p:Prog) (x:Node):(x.op=5/\Qc x.op= .Eo 360 (.a []))\/(x.op≠5/\ ∃m:Int,Qc x.op= .Eo 359 (eI m)/\OT p x=m)\/(Qc x.op= .DW/\OT p x= -1):=by
 unfold Qc OT;by_cases h5:x.op=5
 .exact .inl ⟨h5,by rw[if_pos h5]⟩
 .rw[if_neg h5]
  split
  .exact .inr (.inl ⟨h5,_,rfl,rfl⟩)
  split
  .exact .inr (.inl ⟨h5,_,rfl,rfl⟩)
  split
  .exact .inr (.inl ⟨h5,_,rfl,rfl⟩)
  split
  .exact .inr (.inl ⟨h5,_,rfl,rfl⟩)
  .exact .inr (.inr ⟨rfl,by rw[if_neg (by rintro⟨h,_⟩;exact h5 h)]⟩)
def TC {p:Prog} {x:Node} (h:x.op=5) {size:Int} (hn:SB p x size=true):0<=x.n/\x.n<p.EV.length/\OT p x=p.EV.getD x.n.toNat 0:=by
 have h2:0<=x.n/\x.n<p.EV.length:=by
  simp only[SB,h]at hn;simpa using hn
 refine⟨h2.1,h2.2,?_⟩;unfold OT;rw[h,if_neg (by decide),if_neg (by decide),if_neg (by decide),if_neg (by decide),if_pos ⟨rfl,h2.1,h2.2⟩]
def gL {p:Prog} {next:Bool} {n size depth:Int} {s:List Int} (h:n<0\/(p.nodes.length:Int)<=n\/0<=s.getD n.toNat 0\/12<depth):Et p next n size depth s=none:=by
 unfold Et;rw[if_pos h]
def gM {p:Prog} {next:Bool} {n size depth:Int} {s:List Int} {y:Int} {x:Node} (h0:0<=n) (h1:n<(p.nodes.length:Int)) (hy:s[n.toNat]? =some y) (hy0:y<0) (hd:depth<=12) (hx:p.nodes[n.toNat]? =some x):Et p next n size depth s=if F3 p next size x then some (s.set n.toNat size)else none:=by
 have e:s.getD n.toNat 0=y:=by rw[Ds,hy];rfl
 unfold Et;rw[if_neg (by rw[e];omega),hx]
def wO (p:Prog) (nO:Nat) (v:V) (rest:List At) (o:Option (List Int)) (r:R) (σ:AH):Prop:=
 match o with
 | some s=>r= .ret (.t [])/\Sat σ (hOut nO v s++rest)
 | none=>r= .BZ Db/\ ∃s:List Int,s.length=p.nodes.length/\Sat σ (hOut nO v s++rest)
set_option maxHeartbeats 4000000 in
def TQ (p:Prog) (next:Bool) {v:V} {nO:Nat} (hv:(Cg v).isSome=true) (n size:Int) (s:List Int) (h0:0<=size) (h1:size<=20) (hl:s.length=p.nodes.length) (rest:List At) (σ:AH) (hs:Sat σ (hOut nO v s++rest)) :
    As Tryz.prog 284 [eI n,eI size,.b next,.rp (Ba p),.p nO 0] σ (wO p nO v rest (C8 p next 12 n size s)):=by
 refine As.fit (by kernel_rfl) fun hf=>?_
 have hM:=Mx
 have hfp:FE (.a (Ba p)):=by
  have:=hf.2.2.2.1;simp only[TL]at this;simpa only[J6]using this
 have⟨p1,p2,p3,p4⟩:=OW hfp;refine sF kZ ?_
 conv=>whnf
 repeat'((first|apply st|(apply sq;intro K U)|(apply si;intro A B Y Z)|(apply Y;clear Z B Y A)|(apply U;clear U K)|refine⟨kZ,?_⟩|refine Pure.use (iz _ _ _ _) ?_|(intro nn hnn;generalize hg:A6 _ nn _=σ;refine Ci hg fun hs=>?_;clear hg)|fail)<;>conv=>whnf)
 refine As.mono (qw p next (L:=nn) (v:=v) (nO:=nO) ?_ n size s h0 h1 hl rest σ hs) ?_
 .refine NG (fun y=>rfl) ?_
  clear hs hnn hl h0 h1;rintro⟨k,sz,dp⟩ s ⟨d0,d1,d2,d3,hl⟩ rest σ hs;dsimp only at d0 d1 d2 d3 hl;dsimp only;rw[show xG (k,sz,dp)= [eI k,.a [eI sz,eI dp]] from rfl]
  conv=>whnf
  repeat'((first|apply st|(apply sq;intro K U)|(apply si;intro A B Y Z)|(apply Y;clear Z B Y A)|(refine Z _ _ _ ?_;clear Z B Y A)|(refine Z _ _ fun σ hsub=>?_;clear Z B Y A)|(apply U;clear U K)|apply dr|refine rk ?_ ?_|exact fun s e=>by cases e;rfl|refine⟨rfl,?_⟩|refine⟨kZ,?_⟩|refine iq fun x hx=>?_|refine ld ?_|refine Di fun σ hs=>?_|refine oi ?_|refine ol fun x hx=>?_|refine oset fun σ hs=>?_|refine FX ?_|refine Es ?_|(refine Ce (fun hc=>?_) (fun hc=>?_)<;>(replace hc:=bp hc)<;>(try simp(disch:=omega) only[Bu,wrap64,AV]at hc)<;>(try(cases hc;done)))|refine Pure.use (a8 _ _ _) ?_|refine Pure.use (bI _) ?_|(rcases WA p (by assumption)with⟨e5,ek⟩|⟨e5,m,ek,hm⟩|⟨ek,hm⟩<;>rw[ek]<;>clear ek)|refine oh rfl ?_|refine xN (by decide) ?_|refine gD rfl (Pure.use (vJ _ _ _) ?_)|refine gD rfl (Pure.use (my _ _ (TC (by assumption) (by assumption)).1 (TC (by assumption) (by assumption)).2.1) ?_)|(constructor<;>intro hc<;>(try rw[hc])<;>(replace hc:=bp hc)<;>(try simp(disch:=omega) only[Bu,wrap64,AV]at hc))|(intro nn hnn;generalize hg:A6 _ nn _=σ;refine Ci hg fun hs=>?_;clear hg)|clear U K)<;>conv=>whnf)
  all_goals first
   | (intro hn;refine Qx (s:=s) (by rw[gL (by first|omega|(rw[Ds,‹s[k.toNat]? =some _›];simp only[Option.getD_some];omega))];rfl) hl (hs.less (by repeat first|exact List.Sublist.refl _|apply List.Sublist.cons)) hn)
   | skip
  all_goals
   have hva:=gM (next:=next) (size:=sz) (depth:=dp) (show 0<=k by omega) (show k<(p.nodes.length:Int) by omega) ‹s[k.toNat]? =some _› (by assumption) (by omega) ‹p.nodes[k.toNat]? =some _›
   rename Node=>x
   have hk5:x.op=5->SB p x sz=true->OT p x=p.EV.getD x.n.toNat 0:=fun h hn=>(TC h hn).2.2
   intro hn
  all_goals first
   | (rw[if_neg (by first|(intro h;rw[F3,hk5 (by assumption) (by assumption)]at h;simp only[A8,Cr]at h;exact absurd h.1 (by assumption))|(simp[F3, *];done)|(simp[F3, *];omega)|(rw[F3,hk5 (by assumption) (by assumption)];simp[*];done)|(simp[F3, *];intros;omega))]at hva
      refine Qx (s:=s.set k.toNat sz) (by rw[hva];rfl) (by simpa using hl) ?_ hn
      first
       | exact hs.less (by repeat first|exact List.Sublist.refl _|apply List.Sublist.cons)
       | exact(hs.less (by repeat first|exact List.Sublist.refl _|apply List.Sublist.cons)).up (by assumption))
   | (rw[if_pos (by first|(simp[F3, *];done)|(rw[F3,hk5 (by assumption) (by assumption)];simp[*];done))]at hva
      exact U4 (s:=s.set k.toNat sz) (by rw[hva];rfl) (hs.less (by repeat first|exact List.Sublist.refl _|apply List.Sublist.cons)) hn)
 .cases hw:C8 p next 12 n size s with
  | none=>
    rintro r σ' ⟨rfl,s',hj,hs'⟩
    conv=>whnf
    exact C4 ⟨rfl,s',hj,hs'⟩
  | some s2=>
    rintro r σ' ⟨rfl,hs'⟩;refine Io hs' fun σ2 hs2=>?_
    conv=>whnf
    exact AK ⟨rfl,hs2⟩
def CY (w:AJ):Prop:=Kr w.parents/\w.owner.length<=40/\ ∀o∈w.owner,(3:Int)<=o/\o<3+(w.parents.length:Int)
def R6 (us:List Nat) (l:List Int) (s:Nat):Nat:=l.foldl (fun s c=>s|||us.getD c.toNat 0) s
def Bj (g:List (List Int)):Nat->List Nat
 | 0=>[1,3,5]
 | k+1=>Bj g k++[R6 (Bj g k) (g.getD k []) (1|||2 ^ (3+k))]
def BQ (g:List (List Int)):List Nat:=Bj g g.length
def jm (us:List Nat):List V:=us.map eU++List.replicate (63 - us.length) (eU 0)
def wC (w:AJ) (us:List Nat):List V:=CW w++jm us
def DJ (g:List (List Int)): ∀k,(Bj g k).length=3+k
 | 0=>rfl
 | k+1=>by simp[Bj,DJ g k];omega
def dy (w:AJ) {us:List Nat} (h:us.length<=63):(wC w us).length=65:=by
 simp only[wC,CW,jm,R0,Lz,List.length_nil,Bu,List.length_replicate];omega
def dx (w:AJ) (us:List Nat) (s:Nat) (h:us.length<63):(wC w us).set (2+us.length) (eU s)=wC w (us++[s]):=by
 simp only[wC,jm];rw[List.set_append_right _ _ (by simp[CW])];congr 1;have e:2+us.length - (CW w).length=us.length:=by simp[CW]
 rw[e,List.set_append_right _ _ (by simp)];rw[Bu,Nat.sub_self,YF,P7];congr 1;rw[show 63 - us.length=(63 - (us++[s]).length)+1 by simp;omega,List.replicate_succ];rfl
def nT (w:AJ) (us:List Nat) {i:Nat} (h:i<us.length):(wC w us)[2+i]? =some (eU (us.getD i 0)):=by
 simp only[wC,jm];rw[List.getElem?_append_right (by simp[CW]),show 2+i - (CW w).length=i by simp[CW],jO (by simpa using h),P8,ES h,Ds,ES h];rfl
def oY (us:List Nat):Prop:= ∀u∈us,u<18446744073709551616
def SS {us:List Nat} (h:oY us) (i:Nat):us.getD i 0<18446744073709551616:=by
 rw[Ds];cases hx:us[i]? with
 | none=>simp
 | some x=>exact h x (Dm hx)
def Ns {us:List Nat} (h:oY us): ∀(l:List Int) (s:Nat),s<18446744073709551616->R6 us l s<18446744073709551616
 | [],_,hs=>hs
 | c::r,s,hs=>Ns h r _ (G8 hs (SS h _))
def F6 (g:List (List Int)): ∀k,k<=60->oY (Bj g k)
 | 0,_=>by intro u hu;simp[Bj]at hu;omega
 | k+1,hk=>by
   intro u hu;simp only[Bj,Dr,My]at hu;rcases hu with hu|rfl
   .exact F6 g k (by omega) u hu
   .exact Ns (F6 g k (by omega)) _ _ (G8 (by decide) (F1 (by omega)))
def qD (w:AJ) (us:List Nat) (c:Int) {n:Nat} (hM:w.parents.length<=60):BK Tryz.prog 247 [.p n 0,eI c] [.box n (wC w us)] fun r post=>r= .ret (.b (decide (3<=c)&&decide (c<3+(w.parents.length:Int))))/\post= [.box n (wC w us)]:=by
 intro σ hs;have hw:IntKind.i64.wrap (3+((JY w.parents).length:Nat))=3+(w.parents.length:Int):=by rw[Bu,wrap64 (by omega) (by omega)]
 refine sb kZ ?_
 conv=>whnf
 repeat'((first|apply st|(apply sq;intro K U)|(apply si;intro A B Y Z)|(apply Y;clear Z B Y A)|(apply U;clear U K)|refine⟨rfl,?_⟩|refine ld ?_|(constructor<;>intro hc<;>(try rw[hc])<;>(replace hc:=bp hc))|fail)<;>conv=>whnf)
 .refine AK ⟨_,⟨?_,rfl⟩,hs⟩
  rw[hw,decide_eq_true (show 3<=c by omega)];rfl
 .refine AK ⟨_,⟨?_,rfl⟩,hs⟩
  rw[decide_eq_false (show¬3<=c by omega)];rfl
def ij (w:AJ) (us:List Nat) (c:Int) (hM:w.parents.length<=60):Pure Tryz.prog 305 [.rp (wC w us),eI c] (.b (Wq w c)):=by
 have hw:IntKind.i64.wrap (3+((JY w.parents).length:Nat))=3+(w.parents.length:Int):=by rw[Bu,wrap64 (by omega) (by omega)]
 refine ru kZ ?_;have hs:=Sn
 conv=>whnf
 repeat'((first|apply st|(apply sq;intro K U)|(apply si;intro A B Y Z)|(apply Y;clear Z B Y A)|(apply U;clear U K)|refine⟨rfl,?_⟩|(constructor<;>intro hc<;>(try rw[hc])<;>(replace hc:=bp hc))|fail)<;>conv=>whnf)
 .refine AS ?_
  rw[hw,Wq,decide_eq_true (show 0<=c by omega)];rfl
 .refine AS ?_
  rw[Wq,decide_eq_false (show¬0<=c by omega)];rfl
def kH (w:AJ) (us:List Nat) (c:Int) (hM:w.owner.length<=60):Pure Tryz.prog 336 [.rp (wC w us),eI c] (.b (OL w c)):=by
 refine rT kZ ?_;have hs:=Sn
 conv=>whnf
 repeat'((first|apply st|(apply sq;intro K U)|(apply si;intro A B Y Z)|(apply Y;clear Z B Y A)|(apply U;clear U K)|refine⟨rfl,?_⟩|(constructor<;>intro hc<;>(try rw[hc])<;>(replace hc:=bp hc))|fail)<;>conv=>whnf)
 .refine AS ?_
  rw[OL,decide_eq_true (show 0<=c by omega),Bu];rfl
 .refine AS ?_
  rw[OL,decide_eq_false (show¬0<=c by omega)];rfl
def kr (w:AJ) (us:List Nat) (l:List Int) (f:Bool) (hM:w.owner.length<=60):Pure Tryz.prog 304 [.rp (wC w us),.l (iL l) f] (.b (IY w l)):=by
 have hall:=m8 (g:=336) (fi:=[.rp (wC w us)]) (ca:=[]) (f:=OL w) (xs:=l) f (fun y _=>kH w us y hM);refine ry kZ ?_;have hs:=Sn
 conv=>whnf
 repeat'((first|apply st|(apply sq;intro K U)|(apply si;intro A B Y Z)|(apply Y;clear Z B Y A)|(apply U;clear U K)|refine⟨rfl,?_⟩|(constructor<;>intro hc<;>(try rw[hc])<;>(replace hc:=bp hc)<;>(try simp(disch:=omega) only[Bu,wrap64,AV]at hc))|refine Pure.use (by assumption) ?_|fail)<;>conv=>whnf)
 .refine AS ?_
  rw[IY,decide_eq_true (show l.length<=2 by omega),Bool.and_true];rfl
 .refine AS ?_
  rw[IY,decide_eq_false (show¬l.length<=2 by omega),Bool.and_false];rfl
def HG (s:Nat) (c:Int) (hs0:s<18446744073709551616) (h0:0<=c) (hc:c<64):Pure Tryz.prog 245 [eU s,eI c] (eU (s|||2 ^ c.toNat)):=by
 have:=Yd s c.toNat hs0 (by omega);rw[Int.toNat_of_nonneg h0]at this;exact this
def up3 {k:Nat} (h:k<3):([1,3,5]:List Nat).take k++[1|||2 ^ k]= [1,3,5].take (k+1):=by
 rcases k with _|_|_|k
 .rfl
 .rfl
 .rfl
 .omega
set_option maxHeartbeats 4000000 in
def k8 (w : AJ) (hw:CY w):Pure Tryz.prog 174 [.a (CW w)] (.t [.rp (wC w (BQ w.parents)),.b true]):=by
 obtain⟨⟨hl,hrow⟩,ho,how⟩:=hw;have hM:=Mx;refine Pure.of ?_;refine tQ kZ ?_;have hs:=Sn;have hi1:((JY w.parents).length:Int)<=60:=by rw[Bu];omega
 have hi2:((iL w.owner).length:Int)<=40:=by rw[Bu];omega
 conv=>whnf
 repeat'((first|apply st|(apply sq;intro K U)|(apply si;intro A B Y Z)|(apply Y;clear Z B Y A)|(apply U;clear U K)|refine⟨rfl,?_⟩|refine⟨kZ,?_⟩|(constructor<;>intro hc<;>(try rw[hc])<;>(replace hc:=bp hc)<;>(try simp(disch:=omega) only[Bu,wrap64,AV]at hc)<;>try(exfalso;omega))|(intro nn hnn;generalize hg:A6 _ nn _=σ;refine Ci hg fun hs=>?_;clear hg)|fail)<;>conv=>whnf)
 generalize nn=n0 at *;refine D3 3 (fun k (_:Unit)=>[(24,eI (Bq k))]) (fun k _=>[.box n0 (wC w ([1,3,5].take k))]) (fun k _=>True) () rfl trivial hs ?_;clear hs;rintro k - σ hk - hs;have hck:Bq k=k:=AV (by omega);have hlen:(([1,3,5]:List Nat).take k).length=k:=by simp;omega
 by_cases hlt:k<3
 .have hst:=dx w ([1,3,5].take k) (1|||2 ^ k) (by omega)
  rw[hlen,up3 hlt]at hst
  conv=>whnf
  repeat'((first|apply st|(apply sq;intro K U)|(apply si;intro A B Y Z)|(apply Y;clear Z B Y A)|(apply U;clear U K)|apply dr|refine⟨rfl,?_⟩|refine WY ?_|refine Pure.use (HG 1 _ (by decide) (by omega) (by omega)) ?_|(constructor<;>intro hc<;>(try rw[hc])<;>(replace hc:=bp hc)<;>(try simp(disch:=omega) only[Bu,wrap64,AV]at hc)<;>try(exfalso;omega))|fail)<;>conv=>whnf)
  refine N3 hs 0 rfl rfl (by rw[dy w (by omega)];omega) fun σ hs=>?_
  conv=>whnf
  repeat'((first|(apply si;intro A B Y Z)|(apply Y;clear Z B Y A)|(apply U;clear U K)|apply dr|refine⟨rfl,?_⟩|clear U K)<;>conv=>whnf)
  refine⟨hlt,(),rfl,trivial,?_⟩;rw[hck,Hd,Nat.mul_one,GM]at hs;simp only[List.set_cons_zero]at hs;rw[hst]at hs;exact hs
 .have hke:k=3:=by omega
  subst hke;clear hk hck hlen hlt
  conv=>whnf
  repeat'((first|apply st|(apply sq;intro K U)|(apply si;intro A B Y Z)|(apply Y;clear Z B Y A)|(apply U;clear U K)|refine⟨rfl,?_⟩|(constructor<;>intro hc<;>(try rw[hc])<;>(replace hc:=bp hc)<;>(try simp(disch:=omega) only[Bu,wrap64,AV]at hc)<;>try(exfalso;omega))|clear U K)<;>conv=>whnf)
  refine D3 w.parents.length (fun k (_:Unit)=>[(38,eI (Bq k))]) (fun k _=>[.box n0 (wC w (Bj w.parents k))]) (fun k _=>True) () rfl trivial hs ?_;clear hs;rintro k - σ hk - hs;have hck:Bq k=k:=AV (by omega);have hul:=DJ w.parents k;have huo:=F6 w.parents k (by omega);have hw3:IntKind.i64.wrap (3+(k:Int))=3+(k:Int):=wrap64 (by omega) (by omega);rcases BM w.parents hk with⟨row,hr,hlt⟩|hke
  .obtain⟨r1,r2,r3⟩:=hrow k row hr
   rw[<-hck]at hw3
   conv=>whnf
   repeat'((first|apply st|(apply sq;intro K U)|(apply si;intro A B Y Z)|(apply Y;clear Z B Y A)|(apply U;clear U K)|refine⟨rfl,?_⟩|refine ix ?_|(refine DV (fun hc=>?_)<;>(try rw[hc])<;>clear hc)|refine Pure.use (HG 1 _ (by decide) (by omega) (by omega)) ?_|fail)<;>conv=>whnf)
   have hbig:oY (Bj w.parents k):=huo;have hst0:IntKind.i64.wrap (3+Bq k)=3+(k:Int):=by rw[hck];exact wrap64 (by omega) (by omega)
   have hs0lt:1|||2 ^ (3+k)<18446744073709551616:=G8 (by decide) (F1 (by omega))
   have hs0e:1|||2 ^ (IntKind.i64.wrap (3+Bq k)).toNat=1|||2 ^ (3+k):=by rw[hst0,show(3+(k:Int)).toNat=3+k by omega]
   rw[hs0e];refine D3 row.length (fun j (s:Nat)=>[(48,eI (Bq j)),(8,eU s)]) (fun _ _=>[.box n0 (wC w (Bj w.parents k))]) (fun j s=>s=R6 (Bj w.parents k) (row.take j) (1|||2 ^ (3+k))) (1|||2 ^ (3+k)) rfl rfl hs ?_;clear hs;rintro j s σ hj hse hs;rcases BM row hj with⟨c,hcj,hjlt⟩|hje
   .obtain⟨q1,q2⟩:=r3 c (Dm hcj)
    have hload:(wC w (Bj w.parents k))[0+2+c.toNat*1]? =some (eU ((Bj w.parents k).getD c.toNat 0)):=by
     have:=nT w (Bj w.parents k) (i:=c.toNat) (by omega);rw[<-this];congr 1;omega
    have hnc:(row.take j).contains c=false:=by
     rw[<-Bool.not_eq_true,List.contains_iff_mem];intro hm;obtain⟨i,hi,he⟩:=List.mem_iff_getElem.1 hm;have hi':i<j:=by rw[NT]at hi;omega
     rw[List.getElem_take]at he;have hcj':=(JX.1 hcj).2;exact absurd ((List.getElem_inj r2).1 (he.trans hcj'.symm)) (by omega)
    have hct: ∀b,Pure Tryz.prog 34 [.l (iL (row.take j)) b,eI c] (.b false):=fun b=>by
     have:=Ck (row.take j) b c
     rwa [hnc]at this
    conv=>whnf
    repeat'((first|apply st|(apply sq;intro K U)|(apply si;intro A B Y Z)|(apply Y;clear Z B Y A)|(apply U;clear U K)|refine⟨rfl,?_⟩|refine ix ?_|refine sk1 ?_|refine WY ?_|refine ld ?_|refine Es ?_|(refine DV (fun hc=>?_)<;>(try rw[hc])<;>clear hc)|refine Pure.use (hct _) ?_|(rw[hload])|(constructor<;>intro hc<;>(try rw[hc])<;>(replace hc:=bp hc)<;>(try simp(disch:=omega) only[Bu,wrap64,AV]at hc)<;>try(exfalso;omega))|clear U K)<;>conv=>whnf)
    refine⟨hjlt,s|||(Bj w.parents k).getD c.toNat 0,?_,?_,hs⟩
    .have hsl:s<18446744073709551616:=by rw[hse];exact Ns huo _ _ hs0lt
     rw[GX hsl (SS huo _)];rfl
    .rw[hse,Ar hcj]
     simp only[R6,List.foldl_append];rfl
   .conv=>whnf
    repeat'((first|apply st|(apply sq;intro K U)|(apply si;intro A B Y Z)|(apply Y;clear Z B Y A)|(apply U;clear U K)|refine⟨rfl,?_⟩|refine WY ?_|(refine EZ (fun hc=>?_)<;>(try rw[hc])<;>clear hc)|clear U K)<;>conv=>whnf)
    refine N3 hs 0 rfl rfl (by rw[dy w (by omega),hst0];omega) fun σ hs=>?_
    conv=>whnf
    repeat'((first|(apply si;intro A B Y Z)|(apply Y;clear Z B Y A)|(apply U;clear U K)|refine⟨rfl,?_⟩|clear U K)<;>conv=>whnf)
    refine⟨hlt,(),rfl,trivial,?_⟩
    have e:Bj w.parents (k+1)=Bj w.parents k++[s]:=by
     rw[hse,Bj,Ds,hr,hje,List.take_length];rfl
    have hst:=dx w (Bj w.parents k) s (by omega);rw[e,<-hst];have e2:0+2+(IntKind.i64.wrap (3+Bq k)).toNat*1=2+(Bj w.parents k).length:=by rw[hst0,hul];omega
    rw[e2]at hs;exact hs
  .have hown:=fh 247 [.p n0 0] [] (fun _=>[.box n0 (wC w (Bj w.parents k))]) (UQ fun c=>decide (3<=c)&&decide (c<3+(w.parents.length:Int))) (fun _ _=>True) (fun y s _ σ hs=>BD (As.mono (qD w (Bj w.parents k) y (by omega) σ hs) (by
    rintro r σ' ⟨post,⟨h1,h2⟩,h3⟩;subst h2
    exact⟨h1,h3⟩))) w.owner false () (Gk fun _ _ _=>trivial)
   rw[JU]at hown
   have hall:(w.owner.all fun c=>decide (3<=c)&&decide (c<3+(w.parents.length:Int)))=true:=by
    rw[Dh];intro o hoo;have:=how o hoo;simp only[A8,Cm];exact this
   rw[hall]at hown
   conv=>whnf
   repeat'((first|apply st|(apply sq;intro K U)|(apply si;intro A B Y Z)|(apply Y;clear Z B Y A)|(apply U;clear U K)|refine⟨rfl,?_⟩|(refine EZ (fun hc=>?_)<;>(try rw[hc])<;>clear hc)|clear U K)<;>conv=>whnf)
   refine hown.use (rest:=[]) hs ?_;rintro r post σ ⟨rfl,rfl⟩ hs
   conv=>whnf
   repeat'((first|apply st|(apply Y;clear Z B Y A)|(apply U;clear U K)|fail)<;>conv=>whnf)
   rw[hke]at hs;exact JC (σ2:=emp) (fun n o ho=>by cases ho) (.t (.cons (hs.jq 0 rfl (.refl _ _ _)) (.cons (.refl _) .nil))) rfl
def MF (w:AJ) (f:Fact):Bool:=decide (0<=f.arg)&&(decide (f.arg<3)&&(IY w f.path&&(if f.op=2 then f.n==0&&Wq w f.cls else f.cls==0&&(decide (-1000000000<=f.n)&&decide (f.n<=1000000000)))))
def EL (w:AJ) (f:Fact):Int->Int->Bool×Int:=f.G4 fun f l left deep=>
 if IntKind.i64.wrap (left - 1)<0\/deep=0\/f.op<1\/7<f.op\/f.kids.length≠Cy f.op then(false,IntKind.i64.wrap (left - 1))else
 if Cq f then(MF w f,IntKind.i64.wrap (left - 1))else
 if f.arg≠0\/0<f.path.length\/f.cls≠0\/f.n≠0 then(false,IntKind.i64.wrap (left - 1))else
 B5 (fun(k:Int->Int->Bool×Int) s=>k s (deep - 1)) l (IntKind.i64.wrap (left - 1))
def Lh {α β S:Type} (g:α->β) (stp:β->S->Bool×S): ∀(l:List α) (s:S),B5 stp (l.map g) s=B5 (fun a s=>stp (g a) s) l s
 | [],_=>rfl
 | a::r,s=>by simp only[E4,B5,Lh g stp r]
def HI (w:AJ) (f:Fact) (left deep:Int):EL w f left deep =
    if IntKind.i64.wrap (left - 1)<0\/deep=0\/f.op<1\/7<f.op\/f.kids.length≠Cy f.op then(false,IntKind.i64.wrap (left - 1))else
    if Cq f then(MF w f,IntKind.i64.wrap (left - 1))else
    if f.arg≠0\/0<f.path.length\/f.cls≠0\/f.n≠0 then(false,IntKind.i64.wrap (left - 1))else
    B5 (fun k s=>EL w k s (deep - 1)) f.kids (IntKind.i64.wrap (left - 1)):=by
 rw[EL,Fact.DT,Lh];rfl
def YO {w:AJ} {f:Fact} {left deep L1:Int} {b:Bool} {nL:Nat} {σ:AH} (hs:Sat σ [.box nL [eI L1]]) (h:EL w f left deep=(b,L1)):Am σ (.b b) fun r σ'=> ∃post:List At,(r=R.ret (.b (EL w f left deep).1)/\post= [.box nL [eI (EL w f left deep).2]])/\Sat σ' post:=by
 rw[h];exact AK ⟨_,⟨rfl,rfl⟩,hs⟩
set_option maxHeartbeats 4000000 in
def lF (w:AJ) (us:List Nat) (hw1:w.parents.length<=60) (hw2:w.owner.length<=60) (nL:Nat) (f:Fact): ∀(left deep:Int),0<=deep->deep<=12->
    BK Tryz.prog 250 [.rp (wC w us),.a (xF f),.p nL 0,eI deep] [.box nL [eI left]] fun r post=>r= .ret (.b (EL w f left deep).1)/\post= [.box nL [eI (EL w f left deep).2]]:=by
 induction f using Fact.ind with
 | h f ih=>
   intro left deep hd0 hd1 σ hs;refine As.fit (by kernel_rfl) fun hf=>?_
   have⟨h2,h3,h4⟩:=oB hf.2.1;have hM:=Mx;have hdw:IntKind.i64.wrap (deep - 1)=deep - 1:=wrap64 (by omega) (by omega);refine sY kZ ?_
   have hstep:Cu Tryz.prog (.f (.func 306) [] [.rp [.rp (wC w us)],.rp [.p nL 0],.rp [eI deep]]) (fun y=> .a (xF y)) (fun s=>[.box nL [eI s]]) (fun k s=>EL w k s (deep - 1)) (fun y _=>y∈f.kids/\deep≠0):=by
    rintro y s ⟨hy,hdn⟩ σ hs;refine BD ?_;show As Tryz.prog 306 ([]++[.a (xF y)]++[.rp [.rp (wC w us)],.rp [.p nL 0],.rp [eI deep]]) σ _;refine rq kZ ?_
    conv=>whnf
    repeat'((first|apply st|(apply sq;intro K U)|(apply si;intro A B Y Z)|(apply Y;clear Z B Y A)|(apply U;clear U K)|refine⟨rfl,?_⟩|refine⟨kZ,?_⟩|fail)<;>conv=>whnf)
    rw[hdw];refine(ih y hy s (deep - 1) (by omega) (by omega)).use (rest:=[]) hs ?_;rintro r post σ ⟨rfl,rfl⟩ hs
    conv=>whnf
    repeat'((first|apply st|(apply Y;clear Z B Y A)|(apply U;clear U K)|fail)<;>conv=>whnf)
    exact AK ⟨rfl,hs⟩
   conv=>whnf
   repeat'((first|apply st|(apply sq;intro K U)|(apply si;intro A B Y Z)|(apply Y;clear Z B Y A)|(apply U;clear U K)|apply dr|refine rk ?_ ?_|exact fun s e=>by cases e;rfl|refine⟨rfl,?_⟩|refine⟨kZ,?_⟩|refine ld ?_|refine EK fun σ hs=>?_|refine Pure.use (S8 _) ?_|refine Pure.use (lY _) ?_|refine Pure.use (ij w us _ hw1) ?_|refine Pure.use (kr w us _ _ hw2) ?_|(constructor<;>intro hc<;>(try rw[hc])<;>(replace hc:=bp hc)<;>(try simp(disch:=omega) only[Bu,wrap64,AV]at hc))|clear U K)<;>conv=>whnf)
   all_goals first
    | (refine YO hs ?_;rw[HI,if_pos (by omega)];done)
    | (refine YO hs ?_;rw[HI,if_neg (by omega),if_pos (by assumption)];simp[MF, *];done)
    | (refine YO hs ?_;rw[HI,if_neg (by omega),if_pos (by assumption)];simp[MF, *];intros;omega)
    | (refine YO hs ?_;rw[HI,if_neg (by omega),if_neg (by simp[*]),if_pos (by omega)];done)
    | skip
   refine(fg 306 [] _ _ _ _ hstep f.kids false (IntKind.i64.wrap (left - 1)) h2 (Gk fun y hy _=>⟨hy,by omega⟩)).use (rest:=[]) hs ?_;have hE:=HI w f left deep;rw[if_neg (by omega),if_neg (by simp[*]),if_neg (by omega)]at hE;rw[<-hE];rintro r post σ ⟨rfl,rfl⟩ hs
   conv=>whnf
   repeat'((first|apply st|(apply Y;clear Z B Y A)|(apply U;clear U K)|fail)<;>conv=>whnf)
   exact AK ⟨_,⟨rfl,rfl⟩,hs⟩
def Ks (w:AJ) (f:Fact):Bool:=(EL w f 24 12).1
def bZ (w:AJ) (us:List Nat) (hw1:w.parents.length<=60) (hw2:w.owner.length<=60) (f:Fact):Pure Tryz.prog 249 [.a (xF f),.rp [.rp (wC w us)]] (.b (Ks w f)):=by
 refine Pure.of ?_;refine sZ kZ ?_;have hs:=Sn
 conv=>whnf
 repeat'((first|apply st|(apply sq;intro K U)|(apply si;intro A B Y Z)|(apply Y;clear Z B Y A)|(apply U;clear U K)|refine⟨kZ,?_⟩|refine EK fun σ hs=>?_|(intro nn hnn;generalize hg:A6 _ nn _=σ;refine Ci hg fun hs=>?_;clear hg)|fail)<;>conv=>whnf)
 refine(lF w us hw1 hw2 _ f 24 12 (by omega) (by omega)).use (rest:=[]) hs ?_;rintro r post σ ⟨rfl,rfl⟩ hs
 conv=>whnf
 repeat'((first|apply st|(apply Y;clear Z B Y A)|(apply U;clear U K)|fail)<;>conv=>whnf)
 exact AK rfl
def m7 {g:FuncId} {fi ca:List V} {f:Fact->Bool} {xs:List Fact} (b:Bool) (hl:xs.length<=Ay) (h: ∀y∈xs,Pure Tryz.prog g (fi++[.a (xF y)]++ca) (.b (f y))):Pure Tryz.prog 248 [.l (facts xs) b,.f (.func g) fi ca] (.b (xs.all f)):=by
 have:=fg g fi ca (fun _=>[]) (fun y (_:Unit)=>(f y,())) (fun y _=>y∈xs) (fun y s hy σ hs=>BD (As.mono ((h y hy).use (k:=fun v σ'=>v= .b (f y)/\Sat σ' []) (kp:=fun _ _=>False) ⟨rfl,Sat.nil⟩) (by
  rintro(v|v) σ' hq
  .obtain⟨rfl,h⟩:=hq
   exact⟨rfl,h⟩
  .exact hq.elim))) xs b () hl (Gk fun y hy _=>hy)
 rw[JU]at this;exact Pure.of (As.mono (this emp Sat.nil) fun r σ' ⟨post,⟨h1,h2⟩,h3⟩=>h1)
def bb (w:AJ) (us:List Nat) (hw1:w.parents.length<=60) (hw2:w.owner.length<=60) (l:List Fact) (b:Bool) (hl:l.length<=60):Pure Tryz.prog 175 [.rp (wC w us),.l (facts l) b] (.b (l.all (Ks w))):=by
 have hall:=m7 (g:=249) (fi:=[]) (ca:=[.rp [.rp (wC w us)]]) (f:=Ks w) (xs:=l) b (by simp only[Ay];omega) fun y _=>bZ w us hw1 hw2 y
 refine tP kZ ?_;have hs:=Sn
 conv=>whnf
 repeat'((first|apply st|(apply sq;intro K U)|(apply si;intro A B Y Z)|(apply Y;clear Z B Y A)|(apply U;clear U K)|refine Pure.use (by assumption) ?_|fail)<;>conv=>whnf)
 exact AS rfl
def Yq (w:AJ) (hw:CY w) (l:List Fact) (b:Bool) (hl:l.length<=60):Pure Tryz.prog 118 [.a (CW w),.l (facts l) b] (.t [.rp (wC w (BQ w.parents)),.b (l.all (Ks w))]):=by
 have hfo:=bb w (BQ w.parents) (by have:=hw.1.1;omega) (by have:=hw.2.1;omega) l b hl;refine tp kZ ?_;have hs:=Sn
 conv=>whnf
 repeat'((first|apply st|(apply sq;intro K U)|(apply si;intro A B Y Z)|(apply Y;clear Z B Y A)|(apply U;clear U K)|refine⟨kZ,?_⟩|refine Pure.use (k8 w hw) ?_|refine hfo.use ?_|fail)<;>conv=>whnf)
 all_goals exact AS rfl
def cO (w:AJ) (hw:CY w) (f:Fact):Pure Tryz.prog 146 [.a (CW w),.a (xF f)] (eI (if Ks w f then 0 else 2)):=by
 have hfo: ∀b,Pure Tryz.prog 118 [.a (CW w),.l [F0 f] b] (.t [.rp (wC w (BQ w.parents)),.b (Ks w f)]):=fun b=>by
  have:=Yq w hw [f] b (by simp);simpa using this
 refine tX kZ ?_;have hs:=Sn
 conv=>whnf
 repeat'((first|apply st|(apply sq;intro K U)|(apply si;intro A B Y Z)|(apply Y;clear Z B Y A)|(apply U;clear U K)|refine⟨kZ,?_⟩|fail)<;>conv=>whnf)
 rw[CT]at hfo;refine(hfo _).use ?_
 conv=>whnf
 repeat'((first|apply st|(apply sq;intro K U)|(apply si;intro A B Y Z)|(apply Y;clear Z B Y A)|(apply U;clear U K)|refine Pure.use (Xb _) ?_|fail)<;>conv=>whnf)
 exact AS rfl
end Go.Gl
namespace Go.Gl
def Lo {most:Int}: ∀(l:List Fact) (n:Int),(∀k∈l,∀m:Int,(QC k:Int)<=m->Cw k m=QC k)->n+(l.map QC).sum<=most->D6 (l.map Cw) n most=n+(l.map QC).sum
 | [],n,_,_=>by simp[D6]
 | k::r,n,h,h1=>by
   simp only[E4,List.sum_cons,D6]at *;rw[if_pos (by omega),h k (.head _) (most - n) (by omega),Lo r _ (fun k' hk'=>h k' (.tail _ hk')) (by omega)];omega
def TX (f:Fact): ∀m:Int,(QC f:Int)<=m->Cw f m=QC f:=by
 induction f using Fact.ind with
 | h f ih=>
   intro m hm;rw[Mg];rw[Om]at *;rw[Lo f.kids 1 ih (by omega)];omega
def bA (f:Fact) {m:Int} (h0:0<=m):Cw f m<=m↔(QC f:Int)<=m:=
 ⟨fun h=>by rw[<-Pa f m h0 h];exact h,fun h=>by rw[TX f m h];exact h⟩
def mc (f:Fact):1<=QC f:=by rw[Om];omega
def GD {m:Int}: ∀(l:List Int) (a:Int),l.foldl T1 a<=m↔a<=m/\ ∀x∈l,x<=m
 | [],a=>by simp
 | x ::r,a=>by
   rw[List.foldl_cons,GD r];unfold T1;constructor
   .rintro⟨h1,h2⟩
    refine⟨by split at h1<;>omega,fun y hy=>?_⟩;rcases Fq.1 hy with rfl|hy
    .split at h1<;>omega
    .exact h2 y hy
   .rintro⟨h1,h2⟩
    have hx:=h2 x (.head _);exact⟨by split<;>omega,fun y hy=>h2 y (.tail _ hy)⟩
def ia (f:Fact) {m:Int}:Gn f<=m↔1<=m/\ ∀k∈f.kids,Gn k<=m - 1:=by
 rw[Rj];constructor
 .intro h
  have:=(GD (m:=m - 1) (f.kids.map Gn) 0).1 (by omega);exact⟨by omega,fun k hk=>this.2 _ (List.mem_map_of_mem hk)⟩
 .rintro⟨h1,h2⟩
  have:=(GD (m:=m - 1) (f.kids.map Gn) 0).2 ⟨by omega,fun x hx=>by
   obtain⟨k,hk,rfl⟩:=Iz.1 hx
   exact h2 k hk⟩
  omega
def dZ (w:AJ) (f:Fact) (left deep:Int):Prop:=(QC f:Int)<=left/\Gn f<=deep/\BT w f=true
def Ru (w:AJ) {deep:Int}: ∀(l:List Fact) (left:Int),0<=left->left<=24->(∀k∈l,∀left:Int,0<=left->left<=24->((EL w k left deep).1=true↔dZ w k left deep)/\((EL w k left deep).1=true->(EL w k left deep).2=left - QC k))->
    ((B5 (fun k s=>EL w k s deep) l left).1=true↔((l.map QC).sum:Int)<=left/\ ∀k∈l,Gn k<=deep/\BT w k=true)/\((B5 (fun k s=>EL w k s deep) l left).1=true->(B5 (fun k s=>EL w k s deep) l left).2=left - ((l.map QC).sum:Nat))
 | [],left,h0,h1,_=>by simp[B5];exact h0
 | k ::r,left,h0,h1,h=>by
   obtain⟨ha,hb⟩:=h k (.head _) left h0 h1;simp only[B5,E4,List.sum_cons];cases hk:(EL w k left deep).1
   .simp only[Kc,if_false,false_iff,false_implies,and_true]
    rintro⟨h2,h3⟩;have:=ha.2 ⟨by omega,(h3 k (.head _)).1,(h3 k (.head _)).2⟩;rw[hk]at this;cases this
   .obtain⟨g1,g2,g3⟩:=ha.1 hk
    have hc:=mc k;rw[if_pos rfl,hb hk];obtain⟨i1,i2⟩:=Ru w r (left - QC k) (by omega) (by omega) fun k' hk'=>h k' (.tail _ hk')
    refine⟨i1.trans ⟨fun⟨e1,e2⟩=>⟨by omega,fun x hx=>?_⟩,fun⟨e1,e2⟩=>⟨by omega,fun x hx=>e2 x (.tail _ hx)⟩⟩,fun h=>by rw[i2 h];omega⟩;rcases Fq.1 hx with rfl|hx
    .exact⟨g2,g3⟩
    .exact e2 x hx
def lE (w : AJ) (f:Fact): ∀left deep:Int,0<=left->left<=24->0<=deep->((EL w f left deep).1=true↔dZ w f left deep)/\((EL w f left deep).1=true->(EL w f left deep).2=left - QC f):=by
 induction f using Fact.ind with
 | h f ih=>
   intro left deep h0 h1 hd;have hw:IntKind.i64.wrap (left - 1)=left - 1:=wrap64 (by omega) (by omega);rw[HI,hw];have hc:=Om f;have hn:=CS w f;have hdl:=ia f (m:=deep)
   have hko:Dx w f=true->f.kids.length=Cy f.op:=fun h=>by
    simp only[Dx,A8,Cr]at h;exact h.2.1
   have hop:Dx w f=true->1<=f.op/\f.op<=7:=fun h=>by
    simp only[Dx,A8]at h;have h1:=h.1;unfold Zp at h1;split at h1
    .omega
    split at h1
    .omega
    simp at h1;omega
   by_cases hbad:left - 1<0\/deep=0\/f.op<1\/7<f.op\/f.kids.length≠Cy f.op
   .rw[if_pos hbad]
    simp only[Kc,false_iff,false_implies,and_true];rintro⟨g1,g2,g3⟩;rw[hn,A8]at g3;have g4:=hko g3.1;have g5:=hop g3.1;have g6:=(hdl.1 g2).1;omega
   rw[if_neg hbad];by_cases hl:Cq f=true
   .rw [if_pos hl]
    have hl':f.op=2\/f.op=3\/f.op=4:=by
     simp only[Cq,EJ,Cr]at hl;omega
    have hk0:f.kids= []:=by
     have:f.kids.length=Cy f.op:=by omega
     rw[Cy,if_neg (by omega),if_neg (by omega)]at this;exact Zm.1 this
    have hd1:Gn f=1:=by rw[Rj,hk0];rfl
    have hc1:QC f=1:=by rw[hc,hk0];rfl
    have hh:Dx w f=MF w f:=by
     unfold Dx Zp MF;rw[hl,hk0];have e:Cy f.op=0:=by rw[Cy,if_neg (by omega),if_neg (by omega)]
     rw[e];simp only[List.length_nil,beq_self_eq_true,D2,Bool.true_or,Bool.and_true];rcases hl' with e|e|e
     .rw[if_pos e,if_pos e]
      cases(f.n==0&&Wq w f.cls)<;>simp
     .rw[if_neg (show¬f.op=2 by omega),if_neg (show¬f.op=2 by omega),if_pos (show f.op=3\/f.op=4 from .inl e)]
      cases(f.cls==0&&(decide (-1000000000<=f.n)&&decide (f.n<=1000000000)))<;>simp
     .rw[if_neg (show¬f.op=2 by omega),if_neg (show¬f.op=2 by omega),if_pos (show f.op=3\/f.op=4 from .inr e)]
      cases(f.cls==0&&(decide (-1000000000<=f.n)&&decide (f.n<=1000000000)))<;>simp
    refine⟨⟨fun h=>⟨by omega,by omega,?_⟩,fun⟨_,_,h⟩=>?_⟩,fun _=>by dsimp only;omega⟩
    .rw[hn,hk0,hh];simpa using h
    .rw[hn,hk0,hh]at h;simpa using h
   .have hl':f.op=1\/f.op=5\/f.op=6\/f.op=7:=by
     simp only[Cq,EJ,Cr]at hl;omega
    have hlf:Cq f=false:=by simpa using hl
    rw[if_neg hl];by_cases hz:f.arg≠0\/0<f.path.length\/f.cls≠0\/f.n≠0
    .rw[if_pos hz]
     simp only[Kc,false_iff,false_implies,and_true];rintro⟨g1,g2,g3⟩;rw[hn,A8]at g3;have g4:=g3.1;simp only[Dx,hlf,Bool.false_or,A8,Cr]at g4;omega
    .rw [if_neg hz]
     obtain⟨i1,i2⟩:=Ru w (deep:=deep - 1) f.kids (left - 1) (by omega) (by omega) fun k hk left hl0 hl1=>ih k hk left (deep - 1) hl0 hl1 (by omega)
     have hh:Dx w f=true:=by
      have hp:f.path= []:=Zm.1 (by omega)
      have e1:Zp w f=true:=by
       unfold Zp;rw[if_neg (by omega),if_neg (by omega)];simp only[EJ,Cr];omega
      have z1:f.arg=0:=by omega
      have z2:f.cls=0:=by omega
      have z3:f.n=0:=by omega
      have z4:f.kids.length=Cy f.op:=by omega
      simp[Dx,e1,hlf,hp,z1,z2,z3,z4,IY]
     refine⟨i1.trans ⟨fun⟨e1,e2⟩=>⟨by omega,hdl.2 ⟨by omega,fun k hk=>(e2 k hk).1⟩,?_⟩,fun⟨g1,g2,g3⟩=>⟨by omega,fun k hk=>⟨(hdl.1 g2).2 k hk,?_⟩⟩⟩,fun h=>by rw[i2 h];omega⟩
     .rw[hn,hh,D2,Dh]
      exact fun k hk=>(e2 k hk).2
     .rw[hn,hh,D2,Dh]at g3
      exact g3 k hk
def ZJ (w:AJ) (f:Fact):Ks w f=EM w f:=by
 have:=(lE w f 24 12 (by omega) (by omega) (by omega)).1;rw[Ks,EM,Hf,this,dZ];simp only[A8,Cm];rw[bA f (by omega)]
end Go.Gl
namespace Go.Gl
open Go.Proofs
attribute [local irreducible] As Am Ac AQ AM Ab AP AR AL Aa AN AO Ao Ax Sat AW Au Ad W
def LY {p:Prog} (h:CL p=true):CY (AT p)/\CX p.AZ<=40/\p.AZ.length<=10:=by
 have h1:=h;rw[Pv]at h1;simp only[A8,Cm]at h1;have h2:=h;simp only[CL,A8,Cm]at h2;have hm:=(HT _ _ h2.2.1).1;refine⟨⟨EH h1.2.2.2.1,?_,fun o ho=>?_⟩,by omega,h1.1⟩
 .rw[AT,DH];omega
 .have:=Fl ho
  simp only[AT,BG,Bu];omega
def jP (s:List Int):Prop:= ∀x∈s,(-1:Int)<=x
def l5 {s:List Int} (h:jP s) (i:Nat) {x:Int} (hx:0<=x):jP (s.set i x):=fun y hy=>by
 rcases List.mem_or_eq_of_mem_set hy with hy|rfl
 .exact h y hy
 .omega
def VI {f:Int->Int->List Int->Option (List Int)} (hf: ∀ {a b s s'},0<=b->f a b s=some s'->jP s->jP s') {op size:Int} (h0:0<=size): ∀(i:Nat) (l:List Int) {s s':List Int},Jj f op size i l s=some s'->jP s->jP s'
 | _,[],s,s',h,hs=>by cases h;exact hs
 | i,k::r,s,s',h,hs=>by
   simp only[Jj]at h;split at h
   .cases h
   .rename_i s1 h1
    refine VI hf h0 (i+1) r h (hf ?_ h1 hs);split<;>omega
def LD {p:Prog} {next:Bool}: ∀(d:Nat) {n size:Int} {s s':List Int},0<=size->C8 p next d n size s=some s'->jP s->jP s'
 | 0,_,_,_,_,_,h,_=>by cases h
 | d + 1,n,size,s,s',h0,h,hs=>by
   simp only[C8]at h;split at h
   .cases h
   .split at h
    .cases h
    .split at h
     .exact VI (fun hb h hs=>LD d hb h hs) h0 0 _ h (l5 hs _ h0)
     .cases h
def l6 {s:List Int} (h:jP s):(s.all fun n=>decide (0<=n))= !s.contains (-1):=by
 rw[Hf];simp only[Dh,Cm,Bool.not_eq_true',<-Bool.not_eq_true,List.contains_iff_mem];constructor
 .intro h1 h2
  have:=h1 _ h2;omega
 .intro h1 x hx
  have:=h x hx;rcases Int.lt_or_le x 0 with hlt|hle
  .exact absurd ((show x= -1 by omega) ▸ hx) h1
  .exact hle
def uP (p:Prog) (nO:Nat) (r:R) (σ:AH):Prop:=
 match Bf p with
 | some s=>r= .ret (.t [])/\ ∃v,Sat σ [.box nO [v],.own v 1 (iL s)]
 | none=>r= .BZ Db/\ ∃v s,Sat σ [.box nO [v],.own v 1 (iL s)]
def Zn {p:Prog} {nO:Nat} {σ:AH} {v:V} {s:List Int} {l:List At} (h:Bf p=none) (hs:Sat σ l) (hsub: [At.box nO [v],.own v 1 (iL s)].Sublist l):Ac σ Db (uP p nO):=C4 (by
 rw[uP,h]
 exact⟨rfl,v,s,hs.less hsub⟩)
def szT {p:Prog} {nO:Nat} {σ:AH} {v:V} {s:List Int} {l:List At} (h:Bf p=some s) (hs:Sat σ l) (hsub: [At.box nO [v],.own v 1 (iL s)].Sublist l):Am σ (.t []) (uP p nO):=AK (by
 rw[uP,h]
 exact⟨rfl,v,hs.less hsub⟩)
def SW {p:Prog} (h:Fb p=false):Bf p=none:=by unfold Bf;rw[h];rfl
def mw {w:AJ} {f:Fact} (h:EM w f=true):Ug f=true:=Xk (w:=w) f (by simp only[EM,A8]at h;exact h.2.2)
def X0 {w:AJ} (hw:CY w) (f:Fact):Pure Tryz.prog 146 [.a (CW w),.a (xF f)] (eI (if EM w f then 0 else 2)):=by
 rw[<-ZJ];exact cO w hw f
def a6 {α:Type} (a b c:α): [a,b,c].Perm [c,b,a]:=by simpa using(List.reverse_perm [a,b,c]).symm
set_option maxHeartbeats 4000000 in
def gY (p : Prog) (nO:Nat) (σ:AH) (hs:Sat σ [.box nO [.l [] true]]):As Tryz.prog 281 [.rp (Ba p),.p nO 0] σ (uP p nO):=by
 refine As.fit (by kernel_rfl) fun hf=>?_
 have hM:=Mx
 have hfp:FE (.a (Ba p)):=by
  have:=hf.1;simp only[TL]at this;simpa only[J6]using this
 have⟨p1,p2,p3,p4⟩:=OW hfp;refine sH kZ ?_;have hcl:=YC p;replace hs:Sat σ [.box nO [.l [] true],.own (.l [] true) 1 (iL [])]:=OF hs 1;cases hcB:CL p with
 | false=>
   rw[hcB]at hcl
   conv=>whnf
   repeat'((first|apply st|(apply sq;intro K U)|(apply si;intro A B Y Z)|refine⟨kZ,?_⟩|fail)<;>conv=>whnf)
   refine hcl.use (pre:=[]) (rest:=[.box nO [.l [] true],.own (.l [] true) 1 (iL [])]) hs ?_;rintro r post σ ⟨rfl,rfl⟩ hs
   conv=>whnf
   repeat'((first|(refine Z _ _ _ ?_;clear Z B Y A)|clear U K)<;>conv=>whnf)
   exact Zn (SW (by simp[Fb,hcB])) hs (.refl _)
 | true=>
   rw[hcB]at hcl;obtain⟨hgW,hmS,h10⟩:=LY hcB
   conv=>whnf
   repeat'((first|apply st|(apply sq;intro K U)|(apply si;intro A B Y Z)|refine⟨kZ,?_⟩|fail)<;>conv=>whnf)
   refine hcl.use (pre:=[]) (rest:=[.box nO [.l [] true],.own (.l [] true) 1 (iL [])]) hs ?_;clear hs;rintro r post σ ⟨rfl,rfl⟩ hs
   conv=>whnf
   repeat'((first|apply st|(apply sq;intro K U)|(apply si;intro A B Y Z)|(apply Y;clear Z B Y A)|(refine Z _ _ _ ?_;clear Z B Y A)|(apply U;clear U K)|refine⟨rfl,?_⟩|(refine Ce (fun hc=>?_) (fun hc=>?_)<;>(replace hc:=bp hc)<;>(try simp(disch:=omega) only[Bu,wrap64,AV]at hc)<;>(try(cases hc;done)))|(constructor<;>intro hc<;>(try rw[hc])<;>(replace hc:=bp hc)<;>(try simp(disch:=omega) only[Bu,wrap64,AV]at hc))|clear U K)<;>conv=>whnf)
   rotate_left
   all_goals first
    | exact Zn (SW (by simp[Fb, *];intros;omega)) hs (.refl _)
    | skip
   have a1:p.EV.length<=8:=by omega
   have a2:p.methods.length<=16:=by omega
   have a3:1<=p.nodes.length:=by omega
   have a4:p.nodes.length<=120:=by omega
   have hg:Fb p=p.EV.all fun g=>decide (1<=g)&&decide (g<=3):=by
    simp only[Fb,a1,a2,a3,a4,decide_true,D2];simp[*]
   refine D3 p.EV.length (fun k (_:Unit)=>[(36,eI (Bq k))]) (fun _ _=>[.box nO [.l [] true],.own (.l [] true) 1 (iL [])]) (fun k _=>Fb p=(p.EV.drop k).all fun g=>decide (1<=g)&&decide (g<=3)) () rfl (by simpa using hg) hs ?_;clear hs hg;rintro k - σ hk hn hs;rcases BM p.EV hk with⟨g,hgk,hlt⟩|hke
   .rw[drop_cons hgk,WX]at hn
    conv=>whnf
    repeat'((first|apply st|(apply sq;intro K U)|(apply si;intro A B Y Z)|(apply Y;clear Z B Y A)|(refine Z _ _ _ ?_;clear Z B Y A)|(apply U;clear U K)|refine⟨rfl,?_⟩|refine ix ?_|(refine DV (fun hc=>?_)<;>(try rw[hc])<;>clear hc)|(refine Ce (fun hc=>?_) (fun hc=>?_)<;>(replace hc:=bp hc)<;>(try simp(disch:=omega) only[Bu,wrap64,AV]at hc)<;>(try(cases hc;done)))|(constructor<;>intro hc<;>(try rw[hc])<;>(replace hc:=bp hc))|clear U K)<;>conv=>whnf)
    .exact⟨hlt,(),rfl,by rw[hn];simp[*],hs⟩
    .exact Zn (SW (by rw[hn,decide_eq_false (show¬g<=3 by omega)];simp)) hs (.refl _)
    .exact Zn (SW (by rw[hn,decide_eq_false (show¬1<=g by omega)];simp)) hs (.refl _)
   .have hh : Fb p=true:=by rw[hn,BX hke];rfl
    have hL:=lM hh;clear hn
    conv=>whnf
    repeat'((first|apply st|(apply sq;intro K U)|(apply si;intro A B Y Z)|(apply Y;clear Z B Y A)|(apply U;clear U K)|refine⟨rfl,?_⟩|(refine EZ (fun hc=>?_)<;>(try rw[hc])<;>clear hc)|clear U K)<;>conv=>whnf)
    rw[Bu];refine(ae p.nodes.length a3 a4).use (pre:=[]) (rest:=[.box nO [.l [] true],.own (.l [] true) 1 (iL [])]) hs ?_;clear hs;rintro r post σ ⟨v,rfl,rfl,hv⟩ hs
    conv=>whnf
    repeat'((first|apply st|(apply sq;intro K U)|(apply si;intro A B Y Z)|(apply Y;clear Z B Y A)|(apply U;clear U K)|refine⟨kZ,?_⟩|refine EK fun σ hs=>?_|refine Di fun σ hs=>?_|refine Pure.use (Uk p (by omega) (by omega)) ?_|(intro nn hnn;generalize hg:A6 _ nn _=σ;refine Ci hg fun hs=>?_;clear hg)|fail)<;>conv=>whnf)
    rename_i nw hnw _ hs;generalize nn=n5 at *;replace hs:=hs.less (show [At.box n5 (CW (AT p)),.own v 1 (iL (List.replicate p.nodes.length (-1))),.box nO [v]].Sublist _ from .cons₂ _ (.cons₂ _ (.cons₂ _ (.cons _ .slnil))));refine D3 p.methods.length (fun k (s:List Int)=>[(59,eI (Bq k))]) (fun _ s=>[.box nO [v],.own v 1 (iL s),.box n5 (CW (AT p))]) (fun k s=>s.length=p.nodes.length/\jP s/\Bf p=OP p (runM p (p.methods.drop k) s)) (List.replicate p.nodes.length (-1)) rfl ⟨by simp,fun x hx=>by rw[List.eq_of_mem_replicate hx];omega,hL⟩ (hs.perm (a6 _ _ _)) ?_;clear hs hnw hnn;rintro k s σ hk ⟨hl,hge,hn⟩ hs;rcases BM p.methods hk with⟨m,hm,hlt⟩|hke
    .have hF:=X0 hgW m.fact
     cases hfB:EM (AT p) m.fact with
     | false=>
       rw[hfB,if_neg Bool.false_ne_true]at hF;have hno:=JH hm hn (by simp[Wd,hfB])
       conv=>whnf
       repeat'((first|apply st|(apply sq;intro K U)|(apply si;intro A B Y Z)|(apply Y;clear Z B Y A)|(refine Z _ _ _ ?_;clear Z B Y A)|(refine Z _ _ fun σ hsub=>?_;clear Z B Y A)|(apply U;clear U K)|apply dr|refine rk ?_ ?_|exact fun s e=>by cases e;rfl|refine⟨rfl,?_⟩|refine⟨kZ,?_⟩|refine ix ?_|refine ld ?_|refine Di fun σ hs=>?_|(refine DV (fun hc=>?_)<;>(try rw[hc])<;>clear hc)|(refine Ce (fun hc=>?_) (fun hc=>?_)<;>(replace hc:=bp hc)<;>(try simp(disch:=omega) only[Bu,wrap64,AV]at hc)<;>(try(cases hc;done)))|refine hF.use ?_|(constructor<;>intro hc<;>(try rw[hc])<;>(replace hc:=bp hc)<;>try(exfalso;omega))|(intro nn hnn;generalize hg:A6 _ nn _=σ;refine Ci hg fun hs=>?_;clear hg)|clear U K)<;>conv=>whnf)
       all_goals first
        | (refine Zn (v:=v) (s:=s) hno hs ?_;(repeat first|exact QV _|apply List.Sublist.cons₂|apply List.Sublist.cons);done)
        | (refine Zn (v:=v) (s:=s) hno (hs.up (by assumption)) ?_;(repeat first|exact QV _|apply List.Sublist.cons₂|apply List.Sublist.cons);done)
        | skip
     | true=>
       rw[hfB,if_pos rfl]at hF;have hsp:=aR _ (mw hfB)
       conv=>whnf
       repeat'((first|apply st|(apply sq;intro K U)|(apply si;intro A B Y Z)|(apply Y;clear Z B Y A)|(refine Z _ _ _ ?_;clear Z B Y A)|(refine Z _ _ fun σ hsub=>?_;clear Z B Y A)|(apply U;clear U K)|apply dr|refine rk ?_ ?_|exact fun s e=>by cases e;rfl|refine⟨rfl,?_⟩|refine⟨kZ,?_⟩|refine ix ?_|refine Kf ?_|refine iq fun x hx=>?_|refine ld ?_|refine Di fun σ hs=>?_|(refine DV (fun hc=>?_)<;>(try rw[hc])<;>clear hc)|(refine Ce (fun hc=>?_) (fun hc=>?_)<;>(replace hc:=bp hc)<;>(try simp(disch:=omega) only[Bu,wrap64,AV]at hc)<;>(try(cases hc;done)))|refine hF.use ?_|refine hsp.use ?_|(constructor<;>intro hc<;>(try rw[hc])<;>(replace hc:=bp hc)<;>(try simp(disch:=omega) only[Bu,wrap64,AV]at hc)<;>try(exfalso;omega))|(intro nn hnn;generalize hg:A6 _ nn _=σ;refine Ci hg fun hs=>?_;clear hg)|clear U K)<;>conv=>whnf)
       all_goals first
        | (refine Zn (v:=v) (s:=s) (JH hm hn ?_) hs ?_;(simp[Wd, *];intros;omega);(repeat first|exact QV _|apply List.Sublist.cons₂|apply List.Sublist.cons);done)
        | (refine Zn (v:=v) (s:=s) (JH hm hn ?_) (hs.up (by assumption)) ?_;(simp[Wd, *];intros;omega);(repeat first|exact QV _|apply List.Sublist.cons₂|apply List.Sublist.cons);done)
        | skip
       rotate_left 2
       .refine Zn (v:=v) (s:=s) (JH hm hn ?_) (hs.up (by assumption)) ?_
        .simp only[Wd,show p.EV.getD m.gen.toNat 0=x by rw[Ds,hx];rfl,decide_eq_false (show¬Ig m.fact<=x by omega),Bool.and_false]
        .repeat first|exact QV _|apply List.Sublist.cons₂|apply List.Sublist.cons
       all_goals
        have hx13:=bO hh hx;have hgd:p.EV.getD m.gen.toNat 0=x:=by rw[Ds,hx];rfl
        have hok:Wd p m=true:=by simp only[Wd,hgd,A8,Cm];exact⟨by omega,by omega,by omega,by omega,hfB,by assumption⟩
        have hgo:=fun s'=>kQ (s':=s') hm hn hok
        have hno:=aW hm hn hok;rw[hgd]at hgo hno
       .have hnb:ON m.kind=(m.kind==4):=by simp[ON, *]
        rw[hnb]at hgo hno;refine BD ((TQ p (m.kind==4) hv m.node x s (by omega) (by omega) hl [.box n5 (CW (AT p))] σ (hs.less (.cons _ (.refl _)))).mono ?_);cases hw:C8 p (m.kind==4) 12 m.node x s with
        | none=>
          clear hs;rintro r σ' ⟨rfl,s',hl',hs⟩
          conv=>whnf
          repeat'((first|(refine Z _ _ fun σ hsub=>?_;clear Z B Y A)|clear U K)<;>conv=>whnf)
          exact Zn (v:=v) (s:=s') (hno hw) (hs.up (by assumption)) (.cons₂ _ (.cons₂ _ (QV _)))
        | some s2=>
          clear hs;rintro r σ' ⟨rfl,hs⟩
          conv=>whnf
          repeat'((first|(apply si;intro A B Y Z)|(apply Y;clear Z B Y A)|(apply U;clear U K)|apply dr|refine⟨rfl,?_⟩|clear U K)<;>conv=>whnf)
          exact⟨hlt,s2,rfl,⟨(JE _ hw).trans hl,LD _ (by omega) hw hge,hgo s2 hw⟩,hs⟩
       .have hnb:ON m.kind=true:=by simp[ON, *]
        rw[hnb]at hgo hno;refine BD ((TQ p true hv m.node x s (by omega) (by omega) hl [.box n5 (CW (AT p))] σ (hs.less (.cons _ (.refl _)))).mono ?_);cases hw:C8 p true 12 m.node x s with
        | none=>
          clear hs;rintro r σ' ⟨rfl,s',hl',hs⟩
          conv=>whnf
          repeat'((first|(refine Z _ _ fun σ hsub=>?_;clear Z B Y A)|clear U K)<;>conv=>whnf)
          exact Zn (v:=v) (s:=s') (hno hw) (hs.up (by assumption)) (.cons₂ _ (.cons₂ _ (QV _)))
        | some s2=>
          clear hs;rintro r σ' ⟨rfl,hs⟩
          conv=>whnf
          repeat'((first|(apply si;intro A B Y Z)|(apply Y;clear Z B Y A)|(apply U;clear U K)|apply dr|refine⟨rfl,?_⟩|clear U K)<;>conv=>whnf)
          exact⟨hlt,s2,rfl,⟨(JE _ hw).trans hl,LD _ (by omega) hw hge,hgo s2 hw⟩,hs⟩
    .subst hke
     rw[List.drop_length,runM]at hn
     conv=>whnf
     repeat'((first|apply st|(apply sq;intro K U)|(apply si;intro A B Y Z)|(apply Y;clear Z B Y A)|(apply U;clear U K)|refine⟨rfl,?_⟩|refine⟨kZ,?_⟩|refine ix ?_|refine ld ?_|refine Di fun σ hs=>?_|(refine fc (fun x hx hlt hc=>?_) (fun hk hc=>?_)<;>(try rw[hc])<;>clear hc)|(constructor<;>intro hc<;>(try rw[hc])<;>(replace hc:=bp hc)<;>try(exfalso;omega))|(intro nn hnn;generalize hg:A6 _ nn _=σ;refine Ci hg fun hs=>?_;clear hg)|clear U K)<;>conv=>whnf)
     rw[OP]at hn;refine BD ((TQ p false hv p.main 0 s (by omega) (by omega) hl [.box n5 (CW (AT p))] σ hs).mono ?_);cases hw:C8 p false 12 p.main 0 s with
     | none=>
       rw[hw]at hn;clear hs;rintro r σ' ⟨rfl,s',hl',hs⟩
       conv=>whnf
       repeat'((first|(refine Z _ _ _ ?_;clear Z B Y A)|clear U K)<;>conv=>whnf)
       exact Zn (v:=v) (s:=s') hn hs (.cons₂ _ (.cons₂ _ (QV _)))
     | some s2=>
       rw[hw]at hn;have hge2:=LD _ (by omega) hw hge;simp only[l6 hge2]at hn;clear hs;rintro r σ' ⟨rfl,hs⟩;have hct:=fun f=>Ck s2 f (-1)
       cases hyes:s2.contains (-1)with
       | true=>
         rw[hyes]at hct hn
         conv=>whnf
         repeat'((first|(apply si;intro A B Y Z)|(apply Y;clear Z B Y A)|(apply U;clear U K)|refine ld ?_|fail)<;>conv=>whnf)
         refine Pure.T3 (hct false) (.cons (hs.IJ 1 rfl) (.cons (.refl _) .nil)) rfl ?_
         conv=>whnf
         repeat'((first|(refine Z _ _ _ ?_;clear Z B Y A)|(refine Ce (fun hc=>?_) (fun hc=>?_)<;>(replace hc:=bp hc)<;>(try simp(disch:=omega) only[Bu,wrap64,AV]at hc)<;>(try(cases hc;done)))|fail)<;>conv=>whnf)
         all_goals exact Zn (v:=v) (s:=s2) hn (by first|exact hs|exact hs.up (by assumption)) (.cons₂ _ (.cons₂ _ (QV _)))
       | false=>
         rw[hyes]at hct hn
         conv=>whnf
         repeat'((first|(apply si;intro A B Y Z)|(apply Y;clear Z B Y A)|(apply U;clear U K)|refine ld ?_|fail)<;>conv=>whnf)
         refine Pure.T3 (hct false) (.cons (hs.IJ 1 rfl) (.cons (.refl _) .nil)) rfl ?_
         conv=>whnf
         repeat'((first|(apply Y;clear Z B Y A)|(refine Ce (fun hc=>?_) (fun hc=>?_)<;>(replace hc:=bp hc)<;>(try simp(disch:=omega) only[Bu,wrap64,AV]at hc)<;>(try(cases hc;done)))|fail)<;>conv=>whnf)
         all_goals exact szT (v:=v) hn hs (.cons₂ _ (.cons₂ _ (QV _)))
end Go.Gl
namespace Go.Gl
variable {P:Program} {σ:AH}
def cQ {v:V} {Q Q':R->AH->Prop} (h:Am σ v Q) (hq: ∀r σ,Q r σ->Q' r σ):Am σ v Q':=by
 obtain⟨vf,s2,h1,h2,h3⟩:=h;exact⟨vf,s2,h1,h2,hq _ _ h3⟩
def Cu.more {α S:Type} {g:FuncId} {fi ca:List V} {ea:α->V} {H:S->List At} {stp:α->S->Bool×S} {D:α->S->Prop} (h:Cu P (.f (.func g) fi ca) ea H stp D) (pre:List At):Cu P (.f (.func g) fi ca) ea (fun s=>pre++H s) stp D:=fun y s hd σ hs=>by
 have h1:BK P g (fi++[ea y]++ca) (H s) fun r post=>r= .ret (.b (stp y s).1)/\post=H (stp y s).2:=fun σ hs=>As.mono (h y s hd σ hs) fun r σ' ⟨e,h2⟩=>⟨_,⟨e,rfl⟩,h2⟩
 refine BD (h1.use (rest:=pre) (hs.perm Np) ?_);rintro r post σ' ⟨rfl,rfl⟩ hs';exact⟨rfl,hs'.perm Np⟩
def NA {α S:Type} (P:Program) (x:V) (ea:α->V) (H:S->List At) (f:α->Bool) (J:S->Prop) (D:α->Prop):Prop:=
 ∀y s,D y->J s-> ∀σ,Sat σ (H s)->Ao P x [ea y] σ fun r σ'=>r= .ret (.b (f y))/\ ∃s',J s'/\Sat σ' (H s')
def NA.use {α S:Type} {x:V} {ea:α->V} {H:S->List At} {f:α->Bool} {J:S->Prop} {D:α->Prop} (h:NA P x ea H f J D) {y:α} {s:S} (hd:D y) (hj:J s) (hs:Sat σ (H s)) {k kp:V->AH->Prop} (hk: ∀s' σ',J s'->Sat σ' (H s')->k (.b (f y)) σ'):Ao P x [ea y] σ (qk k kp):=
 (h y s hd hj σ hs).mono fun r σ' ⟨e,s',hj',h'⟩=>by rw[e];exact hk s' σ' hj' h'
def M7 {α:Type} (f:α->Bool):List α->Nat->Int
 | [],_=> -1
 | y::r,k=>if f y then(k:Int)else M7 f r (k+1)
def VW {α:Type} (f:α->Bool): ∀(xs:List α) (k:Nat),decide (M7 f xs k≥0)=xs.any f
 | [],_=>rfl
 | y::r,k=>by
   rw[M7,QB];cases f y
   .exact VW f r (k+1)
   .simp
end Go.Gl
namespace Go.Gl
structure Kn where
 low:Int
 high:Int
 no:List Int
 BJ:Nat
 DU:Nat
 whole:Bool
 Af:Bool
 AI:List Int
def k0:Kn:=⟨-1000000000,1000000000,[],0,0,false,false,[]⟩
def IE (l:List Int) (s:Int):List Int:=if l.contains s then l else(l++[s]).mergeSort Gy
def Bt (k:Kn) (f:Fact) (b:Bool):Kn:=
 if f.op=2 then(if b then {k with DU:=k.DU|||2 ^ f.cls.toNat}else {k with BJ:=k.BJ|||2 ^ f.cls.toNat})
 else if f.op=3 then(if b then {k with low:=if f.n > k.low then f.n else k.low}else {k with high:=if f.n - 1<k.high then f.n - 1 else k.high,whole:=true})
 else if b then {k with no:=k.no++[f.n]}else {k with low:=if f.n > k.low then f.n else k.low,high:=if f.n<k.high then f.n else k.high,whole:=true}
def Bv (k:Kn) (b:Bool):Kn:={k with Af:=k.Af|| !b}
def ct (k:Kn) (s:Int):Kn:={k with AI:=IE k.AI s}
def Cj (a:Int) (p:List Int) (k:Kn) (l:Fact):Kn:=
 if(Ai l).1.arg=a/\Be (Ai l).1.path p=true then
  (if(Ai l).1.path=p then Bt (Bv k (Ai l).2) (Ai l).1 (Ai l).2 else ct (Bv k (Ai l).2) ((Ai l).1.path.getD p.length 0))
 else k
def kn (ls:List Fact) (a:Int) (p:List Int):Kn:=ls.foldl (Cj a p) k0
def KX (k:Kn) (f:Fact) (b:Bool):(Bt k f b).Af=k.Af:=by
 unfold Bt
 (repeat' split)<;>rfl
def Hc (k:Kn) (f:Fact) (b:Bool):(Bt k f b).AI=k.AI:=by
 unfold Bt
 (repeat' split)<;>rfl
def TZ (a:Int) (p:List Int) (k:Kn) (l:Fact):(Cj a p k l).Af=(k.Af|| !((Ai l).2|| !((Ai l).1.arg==a&&Be (Ai l).1.path p))):=by
 unfold Cj;split
 .rename_i h
  have e:((Ai l).1.arg==a)=true:=by simpa using h.1
  rw[e,h.2];split
  .rw[KX];simp[Bv]
  .simp[ct,Bv]
 .rename_i h
  have:((Ai l).1.arg==a&&Be (Ai l).1.path p)=false:=by
   cases hb:((Ai l).1.arg==a&&Be (Ai l).1.path p)with
   | false=>rfl
   | true=>rw[A8]at hb;exact absurd ⟨by simpa using hb.1,hb.2⟩ h
  rw[this];simp
def Lt (a:Int) (p:List Int): ∀(ls:List Fact) (k:Kn),(ls.foldl (Cj a p) k).Af=(k.Af|| !Ec ls a p)
 | [],k=>by simp[Ec]
 | l::r,k=>by
   rw[List.foldl_cons,Lt a p r,TZ];simp only[Ec,WX];generalize (r.all _)=x;generalize ((Ai l).2||_)=y;cases k.Af<;>cases x<;>cases y<;>rfl
def JL (ls:List Fact) (a:Int) (p:List Int):(kn ls a p).Af= !Ec ls a p:=by rw[kn,Lt];rfl
def Rv (l:List Int) (s x:Int):x∈IE l s↔x∈l\/x=s:=by
 unfold IE;split
 .rename_i h
  rw[List.contains_iff_mem]at h;constructor
  .exact .inl
  .rintro(h'|rfl)
   .exact h'
   .exact h
 .rw[(List.mergeSort_perm _ Gy).mem_iff];simp
def Th {l:List Int} (s:Int) (h:l.Pairwise (· < ·)):(IE l s).Pairwise (· < ·):=by
 unfold IE;split
 .exact h
 .rename_i hc
  have hc':s∉l:=by simpa using hc
  have hp:=List.mergeSort_perm (l++[s]) Gy;have h1:((l++[s]).mergeSort Gy).Pairwise (fun a b=>Gy a b=true):=List.pairwise_mergeSort (fun a b c=>by simp only[Gy,Cm];omega) (fun a b=>by simp only[Gy,EJ,Cm];omega) _
  have h2:((l++[s]).mergeSort Gy).Nodup:=hp.nodup_iff.2 (by
   rw[List.nodup_append];refine⟨h.imp fun hab=>by omega,by simp,fun a ha b hb=>?_⟩;simp only[My]at hb;rintro rfl
   exact hc' (hb ▸ ha))
  exact(h1.and h2).imp fun⟨h3,h4⟩=>by
   simp only[Gy,Cm]at h3;omega
def KE: ∀ {l m:List Int},l.Pairwise (· < ·)->m.Pairwise (· < ·)->(∀x,x∈l↔x∈m)->l=m
 | [],[],_,_,_=>rfl
 | [],y::m,_,_,h=>absurd ((h y).2 (.head _)) (by simp)
 | x::l,[],_,_,h=>absurd ((h x).1 (.head _)) (by simp)
 | x ::l,y::m,h1,h2,h=>by
   rw[List.pairwise_cons]at h1 h2
   have hxy:x=y:=by
    rcases Fq.1 ((h x).1 (.head _))with e|hx
    .exact e
    .rcases Fq.1 ((h y).2 (.head _))with e|hy
     .exact e.symm
     .have:=h1.1 y hy
      have:=h2.1 x hx;omega
   subst hxy;congr 1;refine KE h1.2 h2.2 fun z=>?_
   constructor
   .intro hz
    rcases Fq.1 ((h z).1 (.tail _ hz))with e|hz'
    .have:=h1.1 z hz;omega
    .exact hz'
   .intro hz
    rcases Fq.1 ((h z).2 (.tail _ hz))with e|hz'
    .have:=h2.1 z hz;omega
    .exact hz'
def Bw {path pre:List Int}:Be path pre=true↔ ∃t,path=pre++t:=by
 simp only[Be,A8,Cm,Cr];constructor
 .rintro⟨_,h⟩
  exact⟨path.drop pre.length,by conv=>lhs;rw[<-List.take_append_drop pre.length path,h]⟩
 .rintro⟨t,rfl⟩
  simp
def WU {path p:List Int} {s:Int}:Be path (p++[s])=true↔Be path p=true/\path≠p/\path.getD p.length 0=s:=by
 rw[Bw,Bw];constructor
 .rintro⟨t,rfl⟩
  refine⟨⟨s::t,by simp⟩,fun e=>?_,by simp⟩;have:=congrArg List.length e;simp at this
 .rintro⟨⟨t,rfl⟩,hne,hs⟩
  cases t with
  | nil=>simp at hne
  | cons y t=>simp at hs;subst hs;exact⟨t,by simp⟩
def ZC {a:Int} {p:List Int} {s:Int} {l:Fact}:nI a p s l=true↔(Ai l).1.arg=a/\Be (Ai l).1.path p=true/\(Ai l).1.path≠p/\(Ai l).1.path.getD p.length 0=s:=by
 rw[nI,A8,WU,Cr]
def WC (a:Int) (p:List Int) (k:Kn) (l:Fact):(Cj a p k l).AI=if(Ai l).1.arg=a/\Be (Ai l).1.path p=true/\(Ai l).1.path≠p then IE k.AI ((Ai l).1.path.getD p.length 0)else k.AI:=by
 unfold Cj;by_cases h1:(Ai l).1.arg=a/\Be (Ai l).1.path p=true
 .rw[if_pos h1]
  by_cases h2:(Ai l).1.path=p
  .rw[if_pos h2,if_neg (fun h=>h.2.2 h2),Hc];rfl
  .rw[if_neg h2,if_pos ⟨h1.1,h1.2,h2⟩];rfl
 .rw[if_neg h1,if_neg (fun h=>h1 ⟨h.1,h.2.1⟩)]
def Pq (a:Int) (p:List Int): ∀(ls:List Fact) (k:Kn),k.AI.Pairwise (· < ·)->(ls.foldl (Cj a p) k).AI.Pairwise (· < ·)/\ ∀s,s∈(ls.foldl (Cj a p) k).AI↔s∈k.AI\/ls.any (nI a p s)=true
 | [],k,h=>⟨h,fun s=>by simp⟩
 | l ::r,k,h=>by
   rw[List.foldl_cons];have e:=WC a p k l
   have h1:(Cj a p k l).AI.Pairwise (· < ·):=by
    rw[e];split
    .exact Th _ h
    .exact h
   obtain⟨i1,i2⟩:=Pq a p r _ h1;refine⟨i1,fun s=>?_⟩;rw[i2,e,QB,EJ,ZC];split
   .rename_i hc
    rw[Rv];constructor
    .rintro((h|rfl)|h)
     .exact .inl h
     .exact .inr (.inl ⟨hc.1,hc.2.1,hc.2.2,rfl⟩)
     .exact .inr (.inr h)
    .rintro(h|⟨-,-,-,h⟩|h)
     .exact .inl (.inl h)
     .exact .inl (.inr h.symm)
     .exact .inr h
   .rename_i hc
    constructor
    .rintro(h|h)
     .exact .inl h
     .exact .inr (.inr h)
    .rintro(h|⟨q1,q2,q3,-⟩|h)
     .exact .inl h
     .exact absurd ⟨q1,q2,q3⟩ hc
     .exact .inr h
def Gi (n:Nat) (ls:List Fact):Prop:= ∀l∈ls,∀s∈(Ai l).1.path,(0:Int)<=s/\s<n
def Cp {n:Nat} {s:Int}:s∈Bd n↔0<=s/\s<n:=by
 simp only[Bd,Iz,List.mem_range];constructor
 .rintro⟨m,hm,rfl⟩
  exact⟨Int.natCast_nonneg m,by simpa using hm⟩
 .rintro⟨h0,h1⟩
  exact⟨s.toNat,by omega,by simp;omega⟩
def Jo (n:Nat):(Bd n).Pairwise (· < ·):=by
 rw[Bd,List.pairwise_map];exact List.pairwise_lt_range.imp fun h=>by simpa using h
def qt {n:Nat} {ls:List Fact} (h:Gi n ls) {a:Int} {p:List Int} {s:Int} {l:Fact} (hl:l∈ls) (hg:nI a p s l=true):0<=s/\s<n:=by
 rw[ZC]at hg;obtain⟨-,h2,h3,h4⟩:=hg;obtain⟨t,ht⟩:=Bw.1 h2;refine h l hl s ?_;rw[ht]at h3 h4 ⊢;cases t with
 | nil=>simp at h3
 | cons y t=>simp at h4;subst h4;simp
def Ip {n:Nat} {ls:List Fact} (h:Gi n ls) (a:Int) (p:List Int):(kn ls a p).AI=Cb n ls a p:=by
 obtain⟨h1,h2⟩:=Pq a p ls k0 .nil;refine KE h1 ((Jo n).filter _) fun s=>?_
 show s∈(ls.foldl (Cj a p) k0).AI↔_;rw[h2,Cb,Jc,Cp];constructor
 .rintro(h|hs)
  .cases h
  .obtain⟨l,hl,hg⟩:=He.1 hs
   exact⟨qt h hl hg,hs⟩
 .exact fun hs=> .inr hs.2
def Du (os:List Fact) (k:Kn):Kn:=os.foldl (fun k l=>Bt k (Ai l).1 (Ai l).2) k
abbrev DB (k:Kn):Int×Int×List Int×Nat×Nat×Bool:=(k.low,k.high,k.no,k.BJ,k.DU,k.whole)
def PF {k k':Kn} (h:DB k=DB k') (f:Fact) (b:Bool):DB (Bt k f b)=DB (Bt k' f b):=by
 cases k;cases k';simp only[DB,Prod.mk.injEq]at h;obtain⟨rfl,rfl,rfl,rfl,rfl,rfl⟩:=h;unfold Bt
 (repeat' split)<;>rfl
def Ix (p:List Int):Be p p=true:=Bw.2 ⟨[],by simp⟩
def cB (a:Int) (p:List Int) (k:Kn) (l:Fact):DB (Cj a p k l)=if Jd a p l then DB (Bt k (Ai l).1 (Ai l).2)else DB k:=by
 unfold Cj Jd;by_cases h1:(Ai l).1.arg=a
 .by_cases h2:(Ai l).1.path=p
  .have e:((Ai l).1.arg==a&&(Ai l).1.path==p)=true:=by simp[h1,h2]
   rw[if_pos ⟨h1,by rw[h2];exact Ix p⟩,if_pos h2,e,if_pos rfl];exact PF (k:=Bv k (Ai l).2) (k':=k) rfl _ _
  .have e:((Ai l).1.arg==a&&(Ai l).1.path==p)=false:=by simp[h2]
   rw[if_neg h2,e,if_neg Bool.false_ne_true];split<;>rfl
 .have e:((Ai l).1.arg==a&&(Ai l).1.path==p)=false:=by simp[h1]
  rw[if_neg (fun h=>h1 h.1),e,if_neg Bool.false_ne_true]
def Mq (a:Int) (p:List Int): ∀(ls:List Fact) (k k':Kn),DB k=DB k'->DB (ls.foldl (Cj a p) k)=DB (Du (ls.filter (Jd a p)) k')
 | [],k,k',h=>h
 | l ::r,k,k',h=>by
   rw[List.foldl_cons,List.filter_cons];have e:=cB a p k l;split
   .rename_i ho
    rw[if_pos ho]at e;exact Mq a p r _ _ (e.trans (PF h _ _))
   .rename_i ho
    rw[if_neg (by simpa using ho)]at e;exact Mq a p r _ _ (e.trans h)
def K3 (ls:List Fact) (a:Int) (p:List Int):DB (kn ls a p)=DB (Du (ls.filter (Jd a p)) k0):=Mq a p ls k0 k0 rfl
def oZ (x:Fact×Bool):Bool:= !(x.1.op==2)||(decide (x.1.cls > 1)==x.2)
def aQ (x:Fact×Bool) (k:Kn):UM x (k.low,k.high,k.no)=if oZ x then some ((Bt k x.1 x.2).low,(Bt k x.1 x.2).high,(Bt k x.1 x.2).no)else none:=by
 unfold UM oZ Bt;by_cases h2:x.1.op=2
 .rw[if_pos h2,if_pos h2]
  cases x.2<;>cases decide (x.1.cls > 1)<;>simp[h2]
 .rw[if_neg h2,if_neg h2]
  by_cases h3:x.1.op=3
  .rw[if_pos h3,if_pos h3]
   cases x.2<;>simp[h2]
  .rw[if_neg h3,if_neg h3]
   cases x.2<;>simp[h2]
def RY: ∀(os:List Fact) (k:Kn),foldI os (k.low,k.high,k.no)=if os.all (fun l=>oZ (Ai l))then some ((Du os k).low,(Du os k).high,(Du os k).no)else none
 | [],k=>rfl
 | l ::r,k=>by
   rw[foldI,aQ,WX];cases hb:oZ (Ai l)with
   | false=>rfl
   | true=>
     rw[if_pos rfl,Option.bind_some,RY r,D2];rfl
def jC (k:Kn) (f:Fact) (c:Bool) (b:Nat):(Bt k f c).BJ.testBit b=(k.BJ.testBit b||(f.op==2&& !c&&f.cls.toNat==b)):=by
 unfold Bt;by_cases h2:f.op=2
 .rw[if_pos h2]
  cases c<;>simp[h2,Nat.testBit_or,Nat.testBit_two_pow,Bool.beq_eq_decide_eq]
 .rw[if_neg h2]
  have:(f.op==2)=false:=by simpa using h2
  rw[this]
  repeat' split
  all_goals simp
def mu (k:Kn) (f:Fact) (c:Bool) (b:Nat):(Bt k f c).DU.testBit b=(k.DU.testBit b||(f.op==2&&c&&f.cls.toNat==b)):=by
 unfold Bt;by_cases h2:f.op=2
 .rw[if_pos h2]
  cases c<;>simp[h2,Nat.testBit_or,Nat.testBit_two_pow,Bool.beq_eq_decide_eq]
 .rw[if_neg h2]
  have:(f.op==2)=false:=by simpa using h2
  rw[this]
  repeat' split
  all_goals simp
def cJ (k:Kn) (f:Fact) (c:Bool):(Bt k f c).whole=(k.whole||(!c&& !(f.op==2))):=by
 unfold Bt;by_cases h2:f.op=2
 .rw[if_pos h2]
  cases c<;>simp[h2]
 .rw[if_neg h2]
  have:(f.op==2)=false:=by simpa using h2
  rw[this];cases c<;>(repeat' split)<;>simp_all
def Mt: ∀(os:List Fact) (k:Kn) (b:Nat),(Du os k).BJ.testBit b=(k.BJ.testBit b||os.any fun l=>(Ai l).1.op==2&& !(Ai l).2&&(Ai l).1.cls.toNat==b)
 | [],k,b=>by simp[Du]
 | l::r,k,b=>by
   have:=Mt r (Bt k (Ai l).1 (Ai l).2) b;rw[jC]at this;rw[QB,<-Bool.or_assoc,<-this];rfl
def PH: ∀(os:List Fact) (k:Kn) (b:Nat),(Du os k).DU.testBit b=(k.DU.testBit b||os.any fun l=>(Ai l).1.op==2&&(Ai l).2&&(Ai l).1.cls.toNat==b)
 | [],k,b=>by simp[Du]
 | l::r,k,b=>by
   have:=PH r (Bt k (Ai l).1 (Ai l).2) b;rw[mu]at this;rw[QB,<-Bool.or_assoc,<-this];rfl
def KY: ∀(os:List Fact) (k:Kn),(Du os k).whole=(k.whole||os.any fun l=> !(Ai l).2&& !((Ai l).1.op==2))
 | [],k=>by simp[Du]
 | l::r,k=>by
   have:=KY r (Bt k (Ai l).1 (Ai l).2);rw[cJ]at this;rw[QB,<-Bool.or_assoc,<-this];rfl
def Gz (m up:Nat):Bool:=(List.range 64).all fun b=> !m.testBit b||up.testBit b
def LH {m up:Nat} (hm:m<2 ^ 64):Gz m up=true↔ ∀b,m.testBit b=true->up.testBit b=true:=by
 simp only[Gz,Dh,List.mem_range,EJ,Bool.not_eq_true'];constructor
 .intro h b hb
  have hlt:b<64:=by
   rcases Nat.lt_or_ge b 64 with h'|h'
   .exact h'
   .rw[Nat.testBit_lt_two_pow (Nat.lt_of_lt_of_le hm (Nat.pow_le_pow_right (by decide) h'))]at hb;cases hb
  rcases h b hlt with h'|h'
  .rw[hb]at h';cases h'
  .exact h'
 .intro h b _
  cases hb:m.testBit b with
  | false=>exact .inl rfl
  | true=>exact .inr (h b hb)
def Lb {m n:Nat}:(m&&&n==0)=true↔ ∀b,m.testBit b=true->n.testBit b=true->False:=by
 rw[Cr];constructor
 .intro h b h1 h2
  have:=congrArg (fun x=>x.testBit b) h;simp[Nat.testBit_and,h1,h2]at this
 .intro h
  refine Nat.eq_of_testBit_eq fun b=>?_
  rw[Nat.testBit_and,Nat.zero_testBit];cases h1:m.testBit b with
  | false=>rfl
  | true=>
    cases h2:n.testBit b with
    | false=>rfl
    | true=>exact(h b h1 h2).elim
def Sl (c b:Nat):(1|||2 ^ c).testBit b=(b==0||b==c):=by
 rw[Nat.testBit_or,Nat.testBit_two_pow,show(1:Nat)=2 ^ 0 from rfl,Nat.testBit_two_pow];rw[Hf];simp only[EJ,Cm,Cr];omega
def GK (n:Nat) (ls:List Fact):Prop:= ∀l∈ls,(Ai l).1.op=2->0<=(Ai l).1.cls/\(Ai l).1.cls<n
def Pg {m n:Nat} (h: ∀b,m.testBit b=true->b<n):m<2 ^ n:=by
 refine Nat.lt_pow_two_of_testBit _ fun i hi=>?_
 cases hb:m.testBit i with
 | false=>rfl
 | true=>have:=h i hb;omega
def K1 {os:List Fact} {n:Nat} (h:GK n os):(Du os k0).BJ<2 ^ n:=Pg fun b hb=>by
 rw[Mt]at hb;simp only[k0,Nat.zero_testBit,Bool.false_or,He,A8,Cr]at hb;obtain⟨l,hl,⟨h2,-⟩,rfl⟩:=hb;have:=h l hl h2;omega
def ed {os:List Fact} {n:Nat} (h:GK n os):(Du os k0).DU<2 ^ n:=Pg fun b hb=>by
 rw[PH]at hb;simp only[k0,Nat.zero_testBit,Bool.false_or,He,A8,Cr]at hb;obtain⟨l,hl,⟨h2,-⟩,rfl⟩:=hb;have:=h l hl h2;omega
def HJ {os:List Fact} {b:Nat}:(Du os k0).BJ.testBit b=true↔ ∃l∈os,(Ai l).1.op=2/\(Ai l).2=false/\(Ai l).1.cls.toNat=b:=by
 rw[Mt];simp only[k0,Nat.zero_testBit,Bool.false_or,He,A8,Cr,Bool.not_eq_true',and_assoc]
def S3 {os:List Fact} {b:Nat}:(Du os k0).DU.testBit b=true↔ ∃l∈os,(Ai l).1.op=2/\(Ai l).2=true/\(Ai l).1.cls.toNat=b:=by
 rw[PH];simp only[k0,Nat.zero_testBit,Bool.false_or,He,A8,Cr,and_assoc]
def az {os:List Fact} {n:Nat} (hn:n<=64) (h:GK n os):(Gz (Du os k0).BJ (1|||2 ^ 1)&&((Du os k0).DU&&&(1|||2 ^ 1)==0))=os.all fun l=>oZ (Ai l):=by
 rw[Hf,A8,LH (Nat.lt_of_lt_of_le (K1 h) (Nat.pow_le_pow_right (by decide) hn)),Lb];simp only[HJ,S3,Sl,Dh,oZ,EJ,Bool.not_eq_true',beq_eq_false_iff_ne,Cr,ne_eq];constructor
 .rintro⟨h1,h2⟩ l hl
  by_cases ho:(Ai l).1.op=2
  .right
   have hc:=h l hl ho;cases hb:(Ai l).2 with
   | false=>
     have:=h1 _ ⟨l,hl,ho,hb,rfl⟩;rw[decide_eq_false_iff_not];omega
   | true=>
     rw[Cm];rcases Int.lt_or_le 1 (Ai l).1.cls with hlt|hle
     .exact hlt
     .exact(h2 _ ⟨l,hl,ho,hb,rfl⟩ (by omega)).elim
  .exact .inl ho
 .intro h1
  constructor
  .rintro b ⟨l,hl,ho,hb,rfl⟩
   rcases h1 l hl with h'|h'
   .exact absurd ho h'
   .have hc:=h l hl ho
    rw[hb,decide_eq_false_iff_not]at h';omega
  .rintro b ⟨l,hl,ho,hb,rfl⟩ hu
   rcases h1 l hl with h'|h'
   .exact absurd ho h'
   .have hc:=h l hl ho
    rw[hb,Cm]at h';omega
def aO (x:Fact×Bool):(!QX x)=true↔(x.2=false->x.1.op=2/\(x.1.cls=0\/x.1.cls=2))/\(x.2=true-> ¬(x.1.op=2/\(x.1.cls=0\/x.1.cls=2))):=by
 have e:(x.1.op==2&&(x.1.cls==0||x.1.cls==2))=true↔x.1.op=2/\(x.1.cls=0\/x.1.cls=2):=by
  simp only[A8,EJ,Cr]
 rw[<-e,QX];generalize (x.1.op==2&&(x.1.cls==0||x.1.cls==2))=y;cases x.2<;>cases y<;>simp
def Qj {os:List Fact}:(!(Du os k0).whole)=true↔ ∀l∈os,(Ai l).2=false->(Ai l).1.op=2:=by
 rw[KY,Bool.not_eq_true',<-Bool.not_eq_true];simp only[k0,Bool.false_or,He,A8,Bool.not_eq_true',beq_eq_false_iff_ne];constructor
 .intro h l hl hb
  rcases Classical.em ((Ai l).1.op=2)with e|e
  .exact e
  .exact absurd ⟨l,hl,hb,e⟩ h
 .rintro h ⟨l,hl,hb,e⟩
  exact e (h l hl hb)
def Xi {os:List Fact} {n:Nat} (hn:n<=64) (h:GK n os):(!(Du os k0).whole&&(Gz (Du os k0).BJ (1|||2 ^ 2)&&((Du os k0).DU&&&(1|||2 ^ 2)==0)))=os.all fun l=> !QX (Ai l):=by
 rw[Hf,A8,A8,LH (Nat.lt_of_lt_of_le (K1 h) (Nat.pow_le_pow_right (by decide) hn)),Lb,Qj,Dh];simp only[HJ,S3,Sl,EJ,Cr,aO];constructor
 .rintro⟨h0,h1,h2⟩ l hl
  refine⟨fun hb=>?_,fun hb ⟨ho,hc⟩=>h2 _ ⟨l,hl,ho,hb,rfl⟩ (by omega)⟩;have ho:=h0 l hl hb;have hc:=h l hl ho;have:=h1 _ ⟨l,hl,ho,hb,rfl⟩;exact⟨ho,by omega⟩
 .intro h1
  refine⟨fun l hl hb=>((h1 l hl).1 hb).1,?_,?_⟩
  .rintro b ⟨l,hl,ho,hb,rfl⟩
   have:=((h1 l hl).1 hb).2;omega
  .rintro b ⟨l,hl,ho,hb,rfl⟩ hu
   have hc:=h l hl ho;exact(h1 l hl).2 hb ⟨ho,by omega⟩
def MZ {no:List Int}: ∀(k:Nat) (m:Int),(c8 no k m).isSome=true↔ ∃j:Nat,j<k/\m+j∉no
 | 0,m=>by simp[c8]
 | k + 1,m=>by
   rw[c8];split
   .rename_i h
    simp only[Option.isSome_some,true_iff];refine⟨0,by omega,fun hm=>?_⟩;rw[Dh]at h;have:=h _ hm;simp at this
   .rename_i h
    rw[MZ k]
    have hm:m∈no:=by
     rcases Classical.em (m∈no)with h'|h'
     .exact h'
     .refine absurd (Dh.2 fun x hx=>?_) h
      rw[wU];rintro rfl;exact h' hx
    constructor
    .rintro⟨j,hj,h'⟩
     exact⟨j+1,by omega,by rw[show m+((j+1:Nat):Int)=m+1+j by omega];exact h'⟩
    .rintro⟨j,hj,h'⟩
     cases j with
     | zero=>simp at h';exact absurd hm h'
     | succ j=>exact⟨j,by omega,by rw[show m+1+(j:Int)=m+((j+1:Nat):Int) by omega];exact h'⟩
def gR {low high n:Int} {no:List Int} (h0:low<=n) (h1:n∉no) (h2: ∀m,low<=m->m<n->m∈no):(UN (low,high,no)).isSome=decide (n<=high):=by
 rw[Hf,UN,MZ,Cm];constructor
 .rintro⟨j,hj,h⟩
  rcases Int.lt_or_le (low+j) n with hlt|hle
  .exact absurd (h2 _ (by omega) hlt) h
  .simp only at hj;omega
 .intro h
  refine⟨(n - low).toNat,by simp only;omega,?_⟩;rw[show low+((n - low).toNat:Int)=n by omega];exact h1
end Go.Gl
