import Derived.Test.YtegbmnmnaijioaaGreatH9
set_option linter.all false
set_option linter.defProp false
noncomputable section
namespace Go.Gl
open Go.Proofs
attribute [local irreducible] A7 Ap Af AT AM Ae AS AU AL Ad AO AP Aw A1 Sat AX Az Ah W
def bj (n:Nat) (h1:1≤n) (hn:n≤120):B3 Tryz.prog 102 [.l [[eI (-1)]] true,eI n] [] fun r post=> ∃v,r= .ret v∧post= [.own v 1 (iL (List.replicate n (-1)))]∧(EI v).isSome=true:=by
 intro σ hs;have hM:=Mx;have hw1:IntKind.u64.wrap 1=1:=rfl;have hwn:IntKind.u64.wrap (n:Int)=n:=Hc (by omega);have hwi:IntKind.i64.wrap (n:Int)=n:=wrap64 (by omega) (by omega);refine vO kZ ?_
 conv=>whnf
 repeat'((first|apply st|(apply sq;intro K U)|(apply si;intro A B Y Z)|(apply Y;clear Z B Y A)|(apply U;clear U K)|refine⟨rfl,?_⟩|(constructor<;>intro hc<;>(try rw[hc])<;>(replace hc:=bp hc)<;>try(exfalso;omega))|fail)<;>conv=>whnf)
 rw[show IntKind.u64.wrap (([[eI (-1)]]:List (List V)).length:Nat)=1 from rfl,hwn];refine(rZ n hn).use ?_
 conv=>whnf
 repeat'((first|apply st|(apply sq;intro K U)|(apply si;intro A B Y Z)|(apply Y;clear Z B Y A)|(apply U;clear U K)|refine⟨rfl,?_⟩|(constructor<;>intro hc<;>(try rw[hc])<;>(replace hc:=bp hc)<;>try(exfalso;omega))|fail)<;>conv=>whnf)
 all_goals try(exfalso;omega)
 rw[hwi];refine wh hs (Ht n) (by omega) fun v σ hs hv=>?_
 obtain⟨id,rfl⟩:=hv
 conv=>whnf
 repeat'((first|(apply sq;intro K U)|(apply si;intro A B Y Z)|(apply Y;clear Z B Y A)|(apply U;clear U K)|fail)<;>conv=>whnf)
 refine xZ hs 0 (ys:=[[eI (-1)]]) rfl (by simp;omega) (fun e he=>by simp at he;subst he;rfl) (fun e he v hv=>by simp at he;subst he;simp at hv;subst hv;rfl) fun σ hs=>?_
 have hst:([[eI (-1)]]:List (List V))++(List.replicate n [V.i .i64 0]).drop ([[eI (-1)]]:List (List V)).length=List.replicate 1 [eI (-1)]++List.replicate (n - 1) [eI 0]:=by simp[List.drop_replicate]
 rw[hst]at hs
 conv=>whnf
 repeat'((first|apply st|(apply sq;intro K U)|(apply Y;clear Z B Y A)|(apply U;clear U K)|fail)<;>conv=>whnf)
 refine KI (fun m:Nat=>n - m) (fun m=>[(8,eI m)]) (fun m=>[.own (.sl id n n) 1 (List.replicate m [eI (-1)]++List.replicate (n - m) [eI 0])]) (fun m=>1≤m∧m≤n) 1 rfl ⟨by omega,h1⟩ hs ?_;clear hs hst;rintro m σ ⟨hm1,hmn⟩ hs
 have hgl: ∀e∈(List.replicate m [eI (-1)]++List.replicate (n - m) [eI 0]:List (List V)),e.length=1∧ ∀v∈e,CO v=true:=fun e he=>by
  rcases FK.1 he with he|he
  ·rw[(List.mem_replicate.1 he).2];exact⟨rfl,fun v hv=>by simp at hv;subst hv;rfl⟩
  ·rw[(List.mem_replicate.1 he).2];exact⟨rfl,fun v hv=>by simp at hv;subst hv;rfl⟩
 have hlen:(List.replicate m [eI (-1)]++List.replicate (n - m) [eI 0]:List (List V)).length=n:=by simp;omega
 rcases Nat.lt_or_ge m n with hlt|hge
 ·have hcpy:(List.replicate m [eI (-1)]++List.replicate (n - m) [eI 0]:List (List V)).take m++(((List.replicate m [eI (-1)]++List.replicate (n - m) [eI 0]:List (List V)).take m).take (min m (n - m))++(List.replicate m [eI (-1)]++List.replicate (n - m) [eI 0]:List (List V)).drop (m+min m (n - m)))=List.replicate (m+min m (n - m)) [eI (-1)]++List.replicate (n - (m+min m (n - m))) [eI 0]:=by
   have e1:(List.replicate m [eI (-1)]++List.replicate (n - m) [eI 0]:List (List V)).take m=List.replicate m [eI (-1)]:=by
    rw[List.take_append_of_le_length (by simp)];simp
   rw[e1,List.take_replicate,List.drop_append,List.drop_replicate,List.drop_replicate,List.length_replicate,←W5,List.replicate_append_replicate];have e2:m - (m+min m (n - m))=0:=by omega
   have e3:n - m - (m+min m (n - m) - m)=n - (m+min m (n - m)):=by omega
   rw[e2,e3,List.replicate_zero,List.nil_append];congr 2;omega
  conv=>whnf
  repeat'((first|apply st|(apply sq;intro K U)|(apply si;intro A B Y Z)|(apply Y;clear Z B Y A)|(apply U;clear U K)|apply dr|refine⟨rfl,?_⟩|refine lo ?_|(constructor<;>intro hc<;>(try rw[hc])<;>(replace hc:=bp hc)<;>try(exfalso;omega))|fail)<;>conv=>whnf)
  all_goals try(exfalso;omega)
  refine yu ?_
  conv=>whnf
  repeat'((first|apply dr|fail)<;>conv=>whnf)
  refine yv ?_
  conv=>whnf
  repeat'((first|apply dr|fail)<;>conv=>whnf)
  rw[MH,show((n:Int) - m).toNat=n - m by omega];refine xY hs 0 rfl (by rw[hlen];omega) (by rw[hlen];omega) (fun e he=>(hgl e he).1) (fun e he=>(hgl e he).2) fun σ hs=>?_
  rw[hcpy]at hs
  conv=>whnf
  repeat'((first|(apply Y;clear Z B Y A)|apply dr|refine⟨rfl,?_⟩|clear U K)<;>conv=>whnf)
  refine⟨m+min m (n - m),by omega,?_,⟨by omega,by omega⟩,hs⟩;rw[wrap64 (by omega) (by omega)];rfl
 ·have hme:m=n:=by omega
  subst hme
  conv=>whnf
  repeat'((first|apply st|(apply sq;intro K U)|(apply si;intro A B Y Z)|(apply Y;clear Z B Y A)|(apply U;clear U K)|refine⟨rfl,?_⟩|refine lo ?_|(constructor<;>intro hc<;>(try rw[hc])<;>(replace hc:=bp hc)<;>try(exfalso;omega))|clear U K)<;>conv=>whnf)
  all_goals try(exfalso;omega)
  refine A4 hs (List.Sublist.refl _) (.refl _) fun σ' hs'=>⟨_,⟨_,rfl,?_,rfl⟩,hs'⟩
  simp[iL]
def RH (op:Int):V:=
 if op=5 then .FJ 360 (.a [])else
 if op=1∨op=2∨op=3∨op=6∨op=18 then .FJ 359 (eI 0)else
 if op=4∨op=8∨op=17 then .FJ 359 (eI 1)else
 if op=7∨op=9∨op=11∨op=12∨op=13∨op=14∨op=15∨op=16 then .FJ 359 (eI 2)else
 if op=10 then .FJ 359 (eI 3)else .Dv
def cL (op:Int):Pure Tryz.prog 287 [eI op] (RH op):=by
 refine tS kZ ?_;have hs:=Sn
 conv=>whnf
 repeat'((first|apply st|(apply sq;intro K U)|(apply si;intro A B Y Z)|(apply Y;clear Z B Y A)|(apply U;clear U K)|refine⟨rfl,?_⟩|(constructor<;>intro hc<;>(try rw[hc])<;>(replace hc:=bp hc))|clear U K)<;>conv=>whnf)
 all_goals exact AI (by simp[RH, *])
def w9 (n:Int) (p:Prog) (x:Node):Pure Tryz.prog 399 [eI n,.a (Be p),.a (I8 x)] (eI n):=by
 refine sO kZ ?_;have hs:=Sn
 conv=>whnf
 repeat'((first|apply st|(apply sq;intro K U)|(apply si;intro A B Y Z)|(apply Y;clear Z B Y A)|(apply U;clear U K)|fail)<;>conv=>whnf)
 all_goals exact AI rfl
def oC (p:Prog) (x:Node) (h0:0≤x.n) (h1:x.n<p.C1.length):Pure Tryz.prog 400 [.a [],.a (Be p),.a (I8 x)] (eI (p.C1.getD x.n.toNat 0)):=by
 refine Pure.fit (by kernel_rfl) fun hf=>?_
 have⟨p1,p2,p3,p4⟩:=GD hf.2.1
 have hx:p.C1[x.n.toNat]? =some (p.C1.getD x.n.toNat 0):=by
  rw[D9,EN (by omega)];rfl
 refine sN kZ ?_;have hs:=Sn
 conv=>whnf
 repeat'((first|apply st|(apply sq;intro K U)|(apply si;intro A B Y Z)|(apply Y;clear Z B Y A)|(apply U;clear U K)|refine MI ?_|fail)<;>conv=>whnf)
 all_goals exact AI rfl
end Go.Gl
namespace Go.Gl
variable {P:Program} {σ:AH}
def Sat.up {σ':AH} {l:List At} (h:Sat σ l) (hs:Sub σ σ'):Sat σ' l:=by
 refine⟨fun a ha=>?_,h.2⟩;have:=h.1 a ha;cases a with
 | obj n o=>exact hs n o this
 | own v sz es=>
   rcases this with h|⟨n,cap,e,hn⟩
   ·exact .inl h
   ·exact .inr ⟨n,cap,e,hs n _ hn⟩
def Sat.del {l:List At} {n:Nat} {o:O} (h:Sat σ (.obj n o::l)):Sat (del σ n) l:=by
 refine⟨fun b hb=>Fq (h.1 b (.tail _ hb)) fun m hm=>?_,(List.pairwise_cons.1 h.2).2⟩;rw[HD];intro e;subst e;exact(List.pairwise_cons.1 h.2).1 b hb m rfl hm
def Sat.qW {l:List At} {n:Nat} {o:O} (h:Sat σ l) (hn:σ n=none):Sat (A5 σ n o) (.obj n o::l):=(eP h hn).wK
def Sat.new {l:List At} {n:Nat} {o o':O} (h:Sat σ (.obj n o::l)):Sat (A5 σ n o') (.obj n o'::l):=lC (i:=0) h rfl o'
def AW {v:V} {Q:R→AH→Prop} (h:Q (.ret v) σ):Ap σ v Q:=⟨v,σ,fun _ _ h=>h,.refl v,h⟩
inductive Rd (S:Type) where
 | go (s:S)
 | stop (st:wG) (s:S)
 | Bo (v:V)
def ko {S:Type} (L:Nat) (E:Env) (ok:FuncId→Array Tmp→Code→Code→Nat→Prop) (H:S→List At) (J:S→Prop) (rest:List At) (yes no:V):Rd S→R→AH→Prop
 | .go s,r,σ=>r= .ret yes∧Sat σ (.obj L (.loop .ready E ok)::(H s++rest))
 | .stop st s,r,σ=>r= .ret no∧Sat σ (.obj L (.loop st E ok)::(H s++rest))
 | .Bo v,r,σ=>r= .Bo v∧ ∃s,J s∧Sat (del σ L) (H s++rest)
def Mp {α S:Type} (P:Program) (L:Nat) (E:Env) (ok:FuncId→Array Tmp→Code→Code→Nat→Prop) (ea:α→List V) (H:S→List At) (J:S→Prop) (stp:α→S→Rd S) (D:α→S→Prop):Prop:=
 ∀y s,D y s→ ∀(rest:List At) (σ:AH),Sat σ (.obj L (.loop .ready E ok)::(H s++rest))→N7 P L (ea y) σ (ko L E ok H J rest (.b true) (.b false) (stp y s))
def Mp.use {α S:Type} {L:Nat} {E:Env} {ok:FuncId→Array Tmp→Code→Code→Nat→Prop} {ea:α→List V} {H:S→List At} {J:S→Prop} {stp:α→S→Rd S} {D:α→S→Prop} (h:Mp P L E ok ea H J stp D) {y:α} {s:S} (hd:D y s) {rest:List At} (hs:Sat σ (.obj L (.loop .ready E ok)::(H s++rest)))
    {Q:R→AH→Prop} (hk: ∀r σ',ko L E ok H J rest (.b true) (.b false) (stp y s) r σ'→Q r σ'):Aw P (.f (.yield L) [] []) (ea y) σ Q:=(h y s hd rest σ hs).mono hk
def QZ {L:Nat} {env:Env} {ps:List Nat} {a b:AY} (hσ:σ L=some (.loop .ready env (B6 P ps a b))) {args:List V} (hl:args.length=ps.length) {Q:R→AH→Prop}
    (h:W P a (Ck (W P b fun ex env' σ'=>σ' L=none→TK L env (B6 P ps a b) Q ex env' σ')) (E7 ps args env) (del σ L)):N7 P L args σ Q:=
 Qa hσ hl (Xx h (J8 fun _ _ h=>oU h))
def Nh {α S:Type} {L:Nat} {E:Env} {ps:List Nat} {a b:AY} {ea:α→List V} {H:S→List At} {J:S→Prop} {stp:α→S→Rd S} {D:α→S→Prop} (hl: ∀y,(ea y).length=ps.length)
    (h: ∀y s,D y s→ ∀(rest:List At) (σ:AH),Sat σ (H s++rest)→W P a (Ck (W P b fun ex env' σ'=>σ' L=none→TK L E (B6 P ps a b) (ko L E (B6 P ps a b) H J rest (.b true) (.b false) (stp y s)) ex env' σ')) (E7 ps (ea y) E) σ):Mp P L E (B6 P ps a b) ea H J stp D:=
 fun y s hd rest σ hs=>QZ (hs.get (i:=0) rfl) (hl y) (h y s hd rest _ hs.del)
def Vb {S:Type} {L:Nat} {E:Env} {ok:FuncId→Array Tmp→Code→Code→Nat→Prop} {H:S→List At} {J:S→Prop} {rest:List At} {o:Rd S} {s:S} (h:o= .go s) (hs:Sat σ (H s++rest)) (hn:σ L=none) :
    ko L E ok H J rest (.b true) (.b false) o (.ret (.b true)) (A5 σ L (.loop .ready E ok)):=by
 subst h;exact⟨rfl,hs.qW hn⟩
def X9 {S:Type} {L:Nat} {E:Env} {ok:FuncId→Array Tmp→Code→Code→Nat→Prop} {H:S→List At} {J:S→Prop} {rest:List At} {o:Rd S} {s:S} {st:wG} (h:o= .stop st s) (hs:Sat σ (H s++rest)) (hn:σ L=none) :
    ko L E ok H J rest (.b true) (.b false) o (.ret (.b false)) (A5 σ L (.loop st E ok)):=by
 subst h;exact⟨rfl,hs.qW hn⟩
def Ri {S:Type} {L:Nat} {E:Env} {ok:FuncId→Array Tmp→Code→Code→Nat→Prop} {H:S→List At} {J:S→Prop} {rest:List At} {o:Rd S} {s:S} {v:V} (h:o= .Bo v) (hj:J s) (hs:Sat σ (H s++rest)) (hn:σ L=none) :
    ko L E ok H J rest (.b true) (.b false) o (.Bo v) σ:=by
 subst h;refine⟨rfl,s,hj,fun a ha=>Fq (hs.1 a ha) fun n hd=>?_,hs.2⟩;obtain⟨o,ho⟩:=DB (hs.1 a ha) hd;rw[HD];intro e;subst e;rw[hn]at ho;cases ho
def PX {L:Nat} {E env:Env} {ok:FuncId→Array Tmp→Code→Code→Nat→Prop} {Q:Ag→Env→AH→Prop} {l:List At} {v:V} (hs:Sat σ (.obj L (.loop .ready E ok)::l)) (hk: ∀σ',Sat σ' l→Q .normal env σ'):Kg L Q env (.ret v) σ:=
 ⟨_,_,_,hs.get (i:=0) rfl,hk _ hs.del⟩
def YC {L id:Nat} {E env:Env} {ok:FuncId→Array Tmp→Code→Code→Nat→Prop} {Q:Ag→Env→AH→Prop} {l:List At} {v:V} (hs:Sat σ (.obj L (.loop (.exit id) E ok)::l)) (hk: ∀σ',Sat σ' l→Q (.exit id) env σ'):Kg L Q env (.ret v) σ:=
 ⟨_,_,_,hs.get (i:=0) rfl,hk _ hs.del⟩
end Go.Gl
namespace Go.Gl
open Go.Proofs
attribute [local irreducible] A7 Ap Af AT AM Ae AS AU AL Ad AO AP Aw A1 Sat AX Az Ah W
def FV (p:Prog) (next:Bool) (n size depth:Int) (s:List Int):Option (List Int):=
 if n<0∨(p.nodes.length:Int)≤n∨0≤s.getD n.toNat 0∨12<depth then none else
 match p.nodes[n.toNat]? with
 | none=>none
 | some x=>if EK p next size x then some (s.set n.toNat size)else none
def eJ {S:Type}:Option S→Rd S
 | some s=> .go s
 | none=> .Bo D3
abbrev yi (y:Int×Int×Int):List V:=[eI y.1,.a [eI y.2.1,eI y.2.2]]
abbrev hOut (nO:Nat) (v:V) (s:List Int):List At:=[.box nO [v],.own v 1 (iL s)]
abbrev dP (p:Prog) (y:Int×Int×Int) (s:List Int):Prop:=0≤y.2.1∧y.2.1≤100∧1≤y.2.2∧y.2.2≤13∧s.length=p.nodes.length
abbrev XS (p:Prog) (L nW:Nat):V:= .f (.func 328) [] [.rp [.f (.yield L) [] []],.rp (Be p),.p nW 0]
def X0 {p:Prog} {next:Bool} {n size depth:Int} {s s':List Int} (h:FV p next n size depth s=some s'):0≤n∧n<(p.nodes.length:Int)∧s.getD n.toNat 0<0∧depth≤12∧ ∃x,p.nodes[n.toNat]? =some x∧EK p next size x=true∧s'=s.set n.toNat size:=by
 unfold FV at h;split at h
 ·cases h
 ·rename_i hc
  split at h
  ·cases h
  ·rename_i x hx
   split at h
   ·rename_i hok
    simp only[IU]at h;exact⟨by omega,by omega,by omega,by omega,x,hx,hok,h.symm⟩
   ·cases h
def Xz {p:Prog} {next:Bool} {d:Nat} {n size depth:Int} {s:List Int} (hd:depth=13 - (d+1:Nat)) (hd1:1≤depth):CU p next (d+1) n size s=match FV p next n size depth s with
    | none=>none
    | some s'=>match p.nodes[n.toNat]? with
      | none=>none
      | some x=>Fv (CU p next d) x.op size 0 x.kids s':=by
 unfold FV;simp only[CU];by_cases h:n<0∨(p.nodes.length:Int)≤n∨0≤s.getD n.toNat 0
 ·rw[if_pos h,if_pos (by omega)]
 ·rw[if_neg h,if_neg (by omega)]
  cases hx:p.nodes[n.toNat]? with
  | none=>rfl
  | some x=>
    simp only;split
    ·rfl
    ·rfl
def X1 {p:Prog} {next:Bool} {n size depth:Int} {s:List Int} (hd:12<depth):FV p next n size depth s=none:=by
 unfold FV;rw[if_pos (by omega)]
def Rx {f:Int→Int→List Int→Option (List Int)} (hf: ∀ {a b s s'},f a b s=some s'→s'.length=s.length) {op size:Int}: ∀(i:Nat) (l:List Int) {s s':List Int},Fv f op size i l s=some s'→s'.length=s.length
 | _,[],s,s',h=>by cases h;rfl
 | i,k::r,s,s',h=>by
   simp only[Fv]at h;split at h
   ·cases h
   ·rename_i s1 h1
    exact(Rx hf (i+1) r h).trans (hf h1)
def Je {p:Prog} {next:Bool}: ∀(d:Nat) {n size:Int} {s s':List Int},CU p next d n size s=some s'→s'.length=s.length
 | 0,_,_,_,_,h=>by cases h
 | d + 1,n,size,s,s',h=>by
   simp only[CU]at h;split at h
   ·cases h
   ·split at h
    ·cases h
    ·split at h
     ·exact(Rx (fun h=>Je d h) 0 _ h).trans (by simp)
     ·cases h
set_option maxHeartbeats 4000000 in
def lL (p : Prog) (next:Bool) {L:Nat} {E:Env} {ok:FuncId→Array Tmp→Code→Code→Nat→Prop} {v:V} {nO:Nat}
    (hY:Mp Tryz.prog L E ok yi (hOut nO v) (fun s=>s.length=p.nodes.length) (fun y s=>eJ (FV p next y.1 y.2.1 y.2.2 s)) (dP p)) :
    ∀ d : Nat,d≤12→ ∀(n size depth:Int) (s:List Int),depth=13 - d→0≤size→size+d≤100→s.length=p.nodes.length→ ∀(nW:Nat) (rest:List At) (σ:AH),
      Sat σ (.obj L (.loop .ready E ok)::(hOut nO v s++(.box nW [XS p L nW]::rest)))→
      A7 Tryz.prog 328 [eI n,.a [eI size,eI depth],.rp [.f (.yield L) [] []],.rp (Be p),.p nW 0] σ
       (ko L E ok (hOut nO v) (fun s=>s.length=p.nodes.length) (.box nW [XS p L nW]::rest) (.b true) (.b false) (eJ (CU p next d n size s))):=by
 intro d
 induction d with
 | zero=>
   intro _ n size depth s hd h0 h1 hl nW rest σ hs;refine gN kZ ?_
   conv=>whnf
   repeat'((first|apply st|(apply sq;intro K U)|(apply si;intro A B Y Z)|(apply Y;clear Z B Y A)|(apply U;clear U K)|refine⟨kZ,?_⟩|fail)<;>conv=>whnf)
   refine hY.use (y:=(n,size,depth)) (s:=s) ⟨h0,(by dsimp only;omega),(by dsimp only;omega),(by dsimp only;omega),hl⟩ hs ?_;rw[X1 (by dsimp only;omega)];rintro r σ' ⟨rfl,s',hj,hs'⟩
   conv=>whnf
   repeat'((first|(refine Z _ _ _ ?_;clear Z B Y A)|clear U K)<;>conv=>whnf)
   exact DX ⟨rfl,s',hj,hs'⟩
 | succ d ih =>
   intro hd12 n size depth s hd h0 h1 hl nW rest σ hs;refine A7.fit (by kernel_rfl) fun hf=>?_
   have hM:=Mx
   have hfp:FU (.a (Be p)):=by
    have:=hf.2.2.2.1;simp only[Tk]at this;simpa only[JE]using this
   have⟨p1,p2,p3,p4⟩:=GD hfp;refine gN kZ ?_
   conv=>whnf
   repeat'((first|apply st|(apply sq;intro K U)|(apply si;intro A B Y Z)|(apply Y;clear Z B Y A)|(apply U;clear U K)|refine⟨kZ,?_⟩|fail)<;>conv=>whnf)
   refine hY.use (y:=(n,size,depth)) (s:=s) ⟨h0,(by dsimp only;omega),(by dsimp only;omega),(by dsimp only;omega),hl⟩ hs ?_;have hw:=Xz (p:=p) (next:=next) (n:=n) (size:=size) (s:=s) hd (by omega);cases hv:FV p next n size depth s with
   | none=>
     rw[hv]at hw;rintro r σ' ⟨rfl,s',hj,hs'⟩
     conv=>whnf
     repeat'((first|(refine Z _ _ _ ?_;clear Z B Y A)|clear U K)<;>conv=>whnf)
     refine DX ?_;rw[hw];exact⟨rfl,s',hj,hs'⟩
   | some s1 =>
     obtain⟨g0,g1,g2,g3,x,hx,hok,hs1⟩:=X0 hv;rw[hv]at hw;simp only[hx]at hw;have hl1:s1.length=p.nodes.length:=by rw[hs1];simpa using hl
     have hkm:=gF hfp (DL hx);clear hv hs1;rintro r σ1 ⟨rfl,hs⟩
     conv=>whnf
     repeat'((first|apply st|(apply sq;intro K U)|(apply si;intro A B Y Z)|(apply Y;clear Z B Y A)|(apply U;clear U K)|refine MI ?_|refine GS ?_|fail)<;>conv=>whnf)
     refine C3 x.kids.length (fun k (_:List Int)=>[(23,eI (Bc k))]) (fun _ s'=> .obj L (.loop .ready E ok)::(hOut nO v s'++(.box nW [XS p L nW]::rest))) (fun k s'=>s'.length=p.nodes.length∧CU p next (d+1) n size s=Fv (CU p next d) x.op size k (x.kids.drop k) s') s1 rfl ⟨hl1,by simpa using hw⟩ hs ?_;clear hs hw;rintro k s' σ hk ⟨hl',hkids⟩ hs;rcases BU x.kids hk with⟨kid,hkid,hlt⟩|hke
     ·have hck:Bc k=k:=AN (by omega)
      rw[drop_cons hkid,Fv]at hkids;have e0:IntKind.i64.wrap (depth+1)=depth+1:=wrap64 (by omega) (by omega);have e1:IntKind.i64.wrap (size+1)=size+1:=wrap64 (by omega) (by omega)
      have hrec: ∀(sz:Int) (σ:AH) (l:List At),0≤sz→sz+d≤100→Sat σ (l++(.obj L (.loop .ready E ok)::(hOut nO v s'++(.box nW [XS p L nW]::rest))))→Aw Tryz.prog (XS p L nW) [eI kid,.a [eI sz,eI (depth+1)]] σ
       (ko L E ok (hOut nO v) (fun s=>s.length=p.nodes.length) (.box nW [XS p L nW]::rest) (.b true) (.b false) (eJ (CU p next d kid sz s'))):=fun sz σ l h0 h1 hs=>
       Bg (ih (by omega) kid sz (depth+1) s' (by omega) h0 h1 hl' nW rest σ (hs.less (List.sublist_append_right _ _)))
      conv=>whnf
      repeat'((first|apply st|(apply sq;intro K U)|(apply si;intro A B Y Z)|(apply Y;clear Z B Y A)|(apply U;clear U K)|refine⟨rfl,?_⟩|refine⟨kZ,?_⟩|refine ix ?_|refine MI ?_|refine ld ?_|refine Io fun σ hs=>?_|refine Cg fun σ hs=>?_|(refine DR (fun hc=>?_)<;>(try rw[hc])<;>clear hc)|(constructor<;>intro hc<;>(try rw[hc])<;>(replace hc:=bp hc)<;>(try simp(disch:=omega) only[BT,wrap64,AN]at hc))|(intro nn hnn;generalize hg:A5 _ nn _=σ;refine CN hg fun hs=>?_;clear hg)|fail)<;>conv=>whnf)
      all_goals
       simp only[e0,e1]
       first
        | rw[if_pos (by omega)]at hkids
          refine(hrec (size+1) _ [_] (by omega) (by omega) hs).mono ?_
        | rw[if_neg (by omega)]at hkids
          refine(hrec size _ [_] (by omega) (by omega) hs).mono ?_
       cases hw:CU p next d kid _ s' with
       | none=>
         rw[hw]at hkids;rintro r σ' ⟨rfl,s',hj,hs'⟩
         conv=>whnf
         repeat'((first|(refine Z _ _ _ ?_;clear Z B Y A)|clear U K)<;>conv=>whnf)
         refine DX ?_;rw[hkids];exact⟨rfl,s',hj,hs'⟩
       | some s2=>
         rw[hw]at hkids;rintro r σ' ⟨rfl,hs'⟩
         conv=>whnf
         repeat'((first|apply st|(apply si;intro A B Y Z)|(apply Y;clear Z B Y A)|(apply U;clear U K)|refine⟨rfl,?_⟩|refine GS ?_|clear U K)<;>conv=>whnf)
         exact⟨hlt,s2,rfl,⟨(Je _ hw).trans hl',hkids⟩,hs'⟩
     ·rw[Au hke,Fv]at hkids
      conv=>whnf
      repeat'((first|apply st|(apply sq;intro K U)|(apply si;intro A B Y Z)|(apply Y;clear Z B Y A)|(apply U;clear U K)|refine⟨rfl,?_⟩|(refine Ew (fun hc=>?_)<;>(try rw[hc])<;>clear hc)|clear U K)<;>conv=>whnf)
      refine AW ?_;rw[hkids];exact⟨rfl,hs⟩
def pv {a b:Nat} {A B:Prop} (e:a=b) (h:A):(a=b→A)∧(a≠b→B):=⟨fun _=>h,fun n=>absurd e n⟩
def yr {a b:Nat} {A B:Prop} (e:a≠b) (h:B):(a=b→A)∧(a≠b→B):=⟨fun n=>absurd n e,fun _=>h⟩
def iE {P:Program} {σ:AH} {tab:List (TypeId×FuncId)} {t:TypeId} {f:FuncId} {v:V} {args:List V} {Q:R→AH→Prop} (h:look t tab=some f) (hc:A7 P f (v::args) σ Q):A1 P tab (.FJ t v) args σ Q:=by
 unfold A1;simp only[h];exact hc
def kA (p:Prog) (n size depth:Int):Pure Tryz.prog 285 [.a (Be p),eI n,.a [eI size,eI depth]] (.f (.func 327) [] [.rp (Be p),.rp [eI n],.rp [eI size,eI depth]]):=by
 refine tU kZ ?_;have hs:=Sn
 conv=>whnf
 repeat'((first|apply st|(apply sq;intro K U)|(apply si;intro A B Y Z)|(apply Y;clear Z B Y A)|(apply U;clear U K)|fail)<;>conv=>whnf)
 all_goals exact AI rfl
set_option maxHeartbeats 4000000 in
def sF (p:Prog) (next:Bool) {L:Nat} {E:Env} {ok:FuncId→Array Tmp→Code→Code→Nat→Prop} {v:V} {nO:Nat}
    (hY:Mp Tryz.prog L E ok yi (hOut nO v) (fun s=>s.length=p.nodes.length) (fun y s=>eJ (FV p next y.1 y.2.1 y.2.2 s)) (dP p)) (n size:Int) (s:List Int) (h0:0≤size) (h1:size≤20) (hl:s.length=p.nodes.length) (rest:List At) (σ:AH)
    (hs : Sat σ (.obj L (.loop .ready E ok)::(hOut nO v s++rest))) :
     A7 Tryz.prog 327 [.f (.yield L) [] [],.rp (Be p),.rp [eI n],.rp [eI size,eI 1]] σ
      (ko L E ok (hOut nO v) (fun s=>s.length=p.nodes.length) rest (.t []) (.t []) (eJ (CU p next 12 n size s))):=by
 refine su kZ ?_
 conv=>whnf
 repeat'((first|apply st|(apply sq;intro K U)|(apply si;intro A B Y Z)|(apply Y;clear Z B Y A)|(apply U;clear U K)|refine⟨kZ,?_⟩|refine ld ?_|refine Io fun σ hs=>?_|(intro nn hnn;generalize hg:A5 _ nn _=σ;refine CN hg fun hs=>?_;clear hg)|fail)<;>conv=>whnf)
 have hp:Sat σ (.obj L (.loop .ready E ok)::(hOut nO v s++(.box nn [XS p L nn]::rest))):=hs.perm (by
  refine(List.Perm.swap _ _ _).trans (.cons _ ?_)
  exact(List.perm_middle (l₁:=hOut nO v s)).symm)
 refine Bg ((lL p next hY 12 (Ht _) n size 1 s rfl h0 (by omega) hl nn rest σ hp).mono ?_);cases hw:CU p next 12 n size s with
 | none=>
   rintro r σ' ⟨rfl,s',hj,hs'⟩
   conv=>whnf
   repeat'((first|(refine Z _ _ _ ?_;clear Z B Y A)|fail)<;>conv=>whnf)
   refine DX ?_;rw[hw];exact⟨rfl,s',hj,hs'.less (List.Sublist.append_left (K0 _ _) _)⟩
 | some s2=>
   rintro r σ' ⟨rfl,hs'⟩
   conv=>whnf
   repeat'((first|(apply Y;clear Z B Y A)|fail)<;>conv=>whnf)
   refine AW ?_;rw[hw];exact⟨rfl,hs'.less (.cons₂ _ (List.Sublist.append_left (K0 _ _) _))⟩
def Wg (p:Prog) (x:Node):(x.op=5∧RH x.op= .FJ 360 (.a []))∨(x.op≠5∧ ∃m:Int,RH x.op= .FJ 359 (eI m)∧I5 p x=m)∨(RH x.op= .Dv∧I5 p x= -1):=by
 unfold RH I5;by_cases h5:x.op=5
 ·exact .inl ⟨h5,by rw[if_pos h5]⟩
 ·rw[if_neg h5]
  split
  ·exact .inr (.inl ⟨h5,_,rfl,rfl⟩)
  split
  ·exact .inr (.inl ⟨h5,_,rfl,rfl⟩)
  split
  ·exact .inr (.inl ⟨h5,_,rfl,rfl⟩)
  split
  ·exact .inr (.inl ⟨h5,_,rfl,rfl⟩)
  ·exact .inr (.inr ⟨rfl,by rw[if_neg (by rintro⟨h,_⟩;exact h5 h)]⟩)
def Tf {p:Prog} {x:Node} (h:x.op=5) {size:Int} (hn:MS p x size=true):0≤x.n∧x.n<p.C1.length∧I5 p x=p.C1.getD x.n.toNat 0:=by
 have h2:0≤x.n∧x.n<p.C1.length:=by
  simp only[MS,h]at hn;simpa using hn
 refine⟨h2.1,h2.2,?_⟩;unfold I5;rw[h,if_neg (by decide),if_neg (by decide),if_neg (by decide),if_neg (by decide),if_pos ⟨rfl,h2.1,h2.2⟩]
def iK {p:Prog} {next:Bool} {n size depth:Int} {s:List Int} (h:n<0∨(p.nodes.length:Int)≤n∨0≤s.getD n.toNat 0∨12<depth):FV p next n size depth s=none:=by
 unfold FV;rw[if_pos h]
def iM {p:Prog} {next:Bool} {n size depth:Int} {s:List Int} {y:Int} {x:Node} (h0:0≤n) (h1:n<(p.nodes.length:Int)) (hy:s[n.toNat]? =some y) (hy0:y<0) (hd:depth≤12) (hx:p.nodes[n.toNat]? =some x):FV p next n size depth s=if EK p next size x then some (s.set n.toNat size)else none:=by
 have e:s.getD n.toNat 0=y:=by rw[D9,hy];rfl
 unfold FV;rw[if_neg (by rw[e];omega),hx]
def x9 (p:Prog) (nO:Nat) (v:V) (rest:List At) (o:Option (List Int)) (r:R) (σ:AH):Prop:=
 match o with
 | some s=>r= .ret (.t [])∧Sat σ (hOut nO v s++rest)
 | none=>r= .Bo D3∧ ∃s:List Int,s.length=p.nodes.length∧Sat σ (hOut nO v s++rest)
set_option maxHeartbeats 4000000 in
def Ts (p:Prog) (next:Bool) {v:V} {nO:Nat} (hv:(EI v).isSome=true) (n size:Int) (s:List Int) (h0:0≤size) (h1:size≤20) (hl:s.length=p.nodes.length) (rest:List At) (σ:AH) (hs:Sat σ (hOut nO v s++rest)) :
    A7 Tryz.prog 284 [eI n,eI size,.b next,.rp (Be p),.p nO 0] σ (x9 p nO v rest (CU p next 12 n size s)):=by
 refine A7.fit (by kernel_rfl) fun hf=>?_
 have hM:=Mx
 have hfp:FU (.a (Be p)):=by
  have:=hf.2.2.2.1;simp only[Tk]at this;simpa only[JE]using this
 have⟨p1,p2,p3,p4⟩:=GD hfp;refine tV kZ ?_
 conv=>whnf
 repeat'((first|apply st|(apply sq;intro K U)|(apply si;intro A B Y Z)|(apply Y;clear Z B Y A)|(apply U;clear U K)|refine⟨kZ,?_⟩|refine Pure.use (kA _ _ _ _) ?_|(intro nn hnn;generalize hg:A5 _ nn _=σ;refine CN hg fun hs=>?_;clear hg)|fail)<;>conv=>whnf)
 refine A7.mono (sF p next (L:=nn) (v:=v) (nO:=nO) ?_ n size s h0 h1 hl rest σ hs) ?_
 ·refine Nh (fun y=>rfl) ?_
  clear hs hnn hl h0 h1;rintro⟨k,sz,dp⟩ s ⟨d0,d1,d2,d3,hl⟩ rest σ hs;dsimp only at d0 d1 d2 d3 hl;dsimp only;rw[show yi (k,sz,dp)= [eI k,.a [eI sz,eI dp]] from rfl]
  conv=>whnf
  repeat'((first|apply st|(apply sq;intro K U)|(apply si;intro A B Y Z)|(apply Y;clear Z B Y A)|(refine Z _ _ _ ?_;clear Z B Y A)|(refine Z _ _ fun σ hsub=>?_;clear Z B Y A)|(apply U;clear U K)|apply dr|refine rk ?_ ?_|exact fun s e=>by cases e;rfl|refine⟨rfl,?_⟩|refine⟨kZ,?_⟩|refine iq fun x hx=>?_|refine ld ?_|refine Cg fun σ hs=>?_|refine oi ?_|refine ol fun x hx=>?_|refine oset fun σ hs=>?_|refine Iw ?_|refine GS ?_|(refine C0 (fun hc=>?_) (fun hc=>?_)<;>(replace hc:=bp hc)<;>(try simp(disch:=omega) only[BT,wrap64,AN]at hc)<;>(try(cases hc;done)))|refine Pure.use (b7 _ _ _) ?_|refine Pure.use (cL _) ?_|(rcases Wg p (by assumption)with⟨e5,ek⟩|⟨e5,m,ek,hm⟩|⟨ek,hm⟩<;>rw[ek]<;>clear ek)|refine pv rfl ?_|refine yr (by decide) ?_|refine iE rfl (Pure.use (w9 _ _ _) ?_)|refine iE rfl (Pure.use (oC _ _ (Tf (by assumption) (by assumption)).1 (Tf (by assumption) (by assumption)).2.1) ?_)|(constructor<;>intro hc<;>(try rw[hc])<;>(replace hc:=bp hc)<;>(try simp(disch:=omega) only[BT,wrap64,AN]at hc))|(intro nn hnn;generalize hg:A5 _ nn _=σ;refine CN hg fun hs=>?_;clear hg)|clear U K)<;>conv=>whnf)
  all_goals first
   | (intro hn;refine Ri (s:=s) (by rw[iK (by first|omega|(rw[D9,‹s[k.toNat]? =some _›];simp only[Option.getD_some];omega))];rfl) hl (hs.less (by repeat first|exact List.Sublist.refl _|apply List.Sublist.cons)) hn)
   | skip
  all_goals
   have hva:=iM (next:=next) (size:=sz) (depth:=dp) (show 0≤k by omega) (show k<(p.nodes.length:Int) by omega) ‹s[k.toNat]? =some _› (by assumption) (by omega) ‹p.nodes[k.toNat]? =some _›
   rename Node=>x
   have hk5:x.op=5→MS p x sz=true→I5 p x=p.C1.getD x.n.toNat 0:=fun h hn=>(Tf h hn).2.2
   intro hn
  all_goals first
   | (rw[if_neg (by first|(intro h;rw[EK,hk5 (by assumption) (by assumption)]at h;simp only[A9,DK]at h;exact absurd h.1 (by assumption))|(simp[EK, *];done)|(simp[EK, *];omega)|(rw[EK,hk5 (by assumption) (by assumption)];simp[*];done)|(simp[EK, *];intros;omega))]at hva
      refine Ri (s:=s.set k.toNat sz) (by rw[hva];rfl) (by simpa using hl) ?_ hn
      first
       | exact hs.less (by repeat first|exact List.Sublist.refl _|apply List.Sublist.cons)
       | exact(hs.less (by repeat first|exact List.Sublist.refl _|apply List.Sublist.cons)).up (by assumption))
   | (rw[if_pos (by first|(simp[EK, *];done)|(rw[EK,hk5 (by assumption) (by assumption)];simp[*];done))]at hva
      exact Vb (s:=s.set k.toNat sz) (by rw[hva];rfl) (hs.less (by repeat first|exact List.Sublist.refl _|apply List.Sublist.cons)) hn)
 ·cases hw:CU p next 12 n size s with
  | none=>
    rintro r σ' ⟨rfl,s',hj,hs'⟩
    conv=>whnf
    exact DX ⟨rfl,s',hj,hs'⟩
  | some s2=>
    rintro r σ' ⟨rfl,hs'⟩;refine PX hs' fun σ2 hs2=>?_
    conv=>whnf
    exact AW ⟨rfl,hs2⟩
def DH (w:AJ):Prop:=Ib w.parents∧w.owner.length≤40∧ ∀o∈w.owner,(3:Int)≤o∧o<3+(w.parents.length:Int)
def XC (us:List Nat) (l:List Int) (s:Nat):Nat:=l.foldl (fun s c=>s|||us.getD c.toNat 0) s
def Co (g:List (List Int)):Nat→List Nat
 | 0=>[1,3,5]
 | k+1=>Co g k++[XC (Co g k) (g.getD k []) (1|||2 ^ (3+k))]
def B9 (g:List (List Int)):List Nat:=Co g g.length
def k8 (us:List Nat):List V:=us.map eU++List.replicate (63 - us.length) (eU 0)
def wC (w:AJ) (us:List Nat):List V:=BC w++k8 us
def Eo (g:List (List Int)): ∀k,(Co g k).length=3+k
 | 0=>rfl
 | k+1=>by simp[Co,Eo g k];omega
def fK (w:AJ) {us:List Nat} (h:us.length≤63):(wC w us).length=65:=by
 simp only[wC,BC,k8,Qi,K1,List.length_nil,BT,List.length_replicate];omega
def fI (w:AJ) (us:List Nat) (s:Nat) (h:us.length<63):(wC w us).set (2+us.length) (eU s)=wC w (us++[s]):=by
 simp only[wC,k8];rw[List.set_append_right _ _ (by simp[BC])];congr 1;have e:2+us.length - (BC w).length=us.length:=by simp[BC]
 rw[e,List.set_append_right _ _ (by simp)];rw[BT,Nat.sub_self,Qn,W5];congr 1;rw[show 63 - us.length=(63 - (us++[s]).length)+1 by simp;omega,List.replicate_succ];rfl
def Yz (w:AJ) (us:List Nat) {i:Nat} (h:i<us.length):(wC w us)[2+i]? =some (eU (us.getD i 0)):=by
 simp only[wC,k8];rw[List.getElem?_append_right (by simp[BC]),show 2+i - (BC w).length=i by simp[BC],oN (by simpa using h),Q8,EN h,D9,EN h];rfl
def v7 (us:List Nat):Prop:= ∀u∈us,u<18446744073709551616
def Mb {us:List Nat} (h:v7 us) (i:Nat):us.getD i 0<18446744073709551616:=by
 rw[D9];cases hx:us[i]? with
 | none=>simp
 | some x=>exact h x (DL hx)
def TO {us:List Nat} (h:v7 us): ∀(l:List Int) (s:Nat),s<18446744073709551616→XC us l s<18446744073709551616
 | [],_,hs=>hs
 | c::r,s,hs=>TO h r _ (LC hs (Mb h _))
def Hb (g:List (List Int)): ∀k,k≤60→v7 (Co g k)
 | 0,_=>by intro u hu;simp[Co]at hu;omega
 | k+1,hk=>by
   intro u hu;simp only[Co,FK,Nx]at hu;rcases hu with hu|rfl
   ·exact Hb g k (by omega) u hu
   ·exact TO (Hb g k (by omega)) _ _ (LC (by decide) (KO (by omega)))
def rE (w:AJ) (us:List Nat) (c:Int) {n:Nat} (hM:w.parents.length≤60):B3 Tryz.prog 247 [.p n 0,eI c] [.box n (wC w us)] fun r post=>r= .ret (.b (decide (3≤c)&&decide (c<3+(w.parents.length:Int))))∧post= [.box n (wC w us)]:=by
 intro σ hs;have hw:IntKind.i64.wrap (3+((E3 w.parents).length:Nat))=3+(w.parents.length:Int):=by rw[BT,wrap64 (by omega) (by omega)]
 refine gS kZ ?_
 conv=>whnf
 repeat'((first|apply st|(apply sq;intro K U)|(apply si;intro A B Y Z)|(apply Y;clear Z B Y A)|(apply U;clear U K)|refine⟨rfl,?_⟩|refine ld ?_|(constructor<;>intro hc<;>(try rw[hc])<;>(replace hc:=bp hc))|fail)<;>conv=>whnf)
 ·refine AW ⟨_,⟨?_,rfl⟩,hs⟩
  rw[hw,decide_eq_true (show 3≤c by omega)];rfl
 ·refine AW ⟨_,⟨?_,rfl⟩,hs⟩
  rw[decide_eq_false (show¬3≤c by omega)];rfl
def mA (w:AJ) (us:List Nat) (c:Int) (hM:w.parents.length≤60):Pure Tryz.prog 247 [.rp (wC w us),eI c] (.b (decide (3≤c)&&decide (c<3+(w.parents.length:Int)))):=by
 have hw:IntKind.i64.wrap (3+((E3 w.parents).length:Nat))=3+(w.parents.length:Int):=by rw[BT,wrap64 (by omega) (by omega)]
 refine gS kZ ?_;have hs:=Sn
 conv=>whnf
 repeat'((first|apply st|(apply sq;intro K U)|(apply si;intro A B Y Z)|(apply Y;clear Z B Y A)|(apply U;clear U K)|refine⟨rfl,?_⟩|(constructor<;>intro hc<;>(try rw[hc])<;>(replace hc:=bp hc))|fail)<;>conv=>whnf)
 ·refine AI ?_
  rw[hw,decide_eq_true (show 3≤c by omega)];rfl
 ·refine AI ?_
  rw[decide_eq_false (show¬3≤c by omega)];rfl
def jq (w:AJ) (us:List Nat) (c:Int) (hM:w.parents.length≤60):Pure Tryz.prog 305 [.rp (wC w us),eI c] (.b (Oj w c)):=by
 have hw:IntKind.i64.wrap (3+((E3 w.parents).length:Nat))=3+(w.parents.length:Int):=by rw[BT,wrap64 (by omega) (by omega)]
 refine tD kZ ?_;have hs:=Sn
 conv=>whnf
 repeat'((first|apply st|(apply sq;intro K U)|(apply si;intro A B Y Z)|(apply Y;clear Z B Y A)|(apply U;clear U K)|refine⟨rfl,?_⟩|(constructor<;>intro hc<;>(try rw[hc])<;>(replace hc:=bp hc))|fail)<;>conv=>whnf)
 ·refine AI ?_
  rw[hw,Oj,decide_eq_true (show 0≤c by omega)];rfl
 ·refine AI ?_
  rw[Oj,decide_eq_false (show¬0≤c by omega)];rfl
def lU (w:AJ) (us:List Nat) (c:Int) (hM:w.owner.length≤60):Pure Tryz.prog 336 [.rp (wC w us),eI c] (.b (HT w c)):=by
 refine sg kZ ?_;have hs:=Sn
 conv=>whnf
 repeat'((first|apply st|(apply sq;intro K U)|(apply si;intro A B Y Z)|(apply Y;clear Z B Y A)|(apply U;clear U K)|refine⟨rfl,?_⟩|(constructor<;>intro hc<;>(try rw[hc])<;>(replace hc:=bp hc))|fail)<;>conv=>whnf)
 ·refine AI ?_
  rw[HT,decide_eq_true (show 0≤c by omega),BT];rfl
 ·refine AI ?_
  rw[HT,decide_eq_false (show¬0≤c by omega)];rfl
def l7 (w:AJ) (us:List Nat) (l:List Int) (f:Bool) (hM:w.owner.length≤60):Pure Tryz.prog 304 [.rp (wC w us),.l (iL l) f] (.b (EH w l)):=by
 have hall:=oG (g:=336) (fi:=[.rp (wC w us)]) (ca:=[]) (f:=HT w) (xs:=l) f (fun y _=>lU w us y hM);refine tE kZ ?_;have hs:=Sn
 conv=>whnf
 repeat'((first|apply st|(apply sq;intro K U)|(apply si;intro A B Y Z)|(apply Y;clear Z B Y A)|(apply U;clear U K)|refine⟨rfl,?_⟩|(constructor<;>intro hc<;>(try rw[hc])<;>(replace hc:=bp hc)<;>(try simp(disch:=omega) only[BT,wrap64,AN]at hc))|refine Pure.use (by assumption) ?_|fail)<;>conv=>whnf)
 ·refine AI ?_
  rw[EH,decide_eq_true (show l.length≤2 by omega),Bool.and_true];rfl
 ·refine AI ?_
  rw[EH,decide_eq_false (show¬l.length≤2 by omega),Bool.and_false];rfl
def Ha (s:Nat) (c:Int) (hs0:s<18446744073709551616) (h0:0≤c) (hc:c<64):Pure Tryz.prog 245 [eU s,eI c] (eU (s|||2 ^ c.toNat)):=by
 have:=ZJ s c.toNat hs0 (by omega);rw[Int.toNat_of_nonneg h0]at this;exact this
def up3 {k:Nat} (h:k<3):([1,3,5]:List Nat).take k++[1|||2 ^ k]= [1,3,5].take (k+1):=by
 rcases k with _|_|_|k
 ·rfl
 ·rfl
 ·rfl
 ·omega
set_option maxHeartbeats 4000000 in
def mF (w : AJ) (hw:DH w):Pure Tryz.prog 174 [.a (BC w)] (.t [.rp (wC w (B9 w.parents)),.b true]):=by
 obtain⟨⟨hl,hrow⟩,ho,how⟩:=hw;have hM:=Mx;refine Pure.of ?_;refine ue kZ ?_;have hs:=Sn;have hi1:((E3 w.parents).length:Int)≤60:=by rw[BT];omega
 have hi2:((iL w.owner).length:Int)≤40:=by rw[BT];omega
 conv=>whnf
 repeat'((first|apply st|(apply sq;intro K U)|(apply si;intro A B Y Z)|(apply Y;clear Z B Y A)|(apply U;clear U K)|refine⟨rfl,?_⟩|refine⟨kZ,?_⟩|(constructor<;>intro hc<;>(try rw[hc])<;>(replace hc:=bp hc)<;>(try simp(disch:=omega) only[BT,wrap64,AN]at hc)<;>try(exfalso;omega))|(intro nn hnn;generalize hg:A5 _ nn _=σ;refine CN hg fun hs=>?_;clear hg)|fail)<;>conv=>whnf)
 generalize nn=n0 at *;refine C3 3 (fun k (_:Unit)=>[(24,eI (Bc k))]) (fun k _=>[.box n0 (wC w ([1,3,5].take k))]) (fun k _=>True) () rfl trivial hs ?_;clear hs;rintro k - σ hk - hs;have hck:Bc k=k:=AN (by omega);have hlen:(([1,3,5]:List Nat).take k).length=k:=by simp;omega
 by_cases hlt:k<3
 ·have hst:=fI w ([1,3,5].take k) (1|||2 ^ k) (by omega)
  rw[hlen,up3 hlt]at hst
  conv=>whnf
  repeat'((first|apply st|(apply sq;intro K U)|(apply si;intro A B Y Z)|(apply Y;clear Z B Y A)|(apply U;clear U K)|apply dr|refine⟨rfl,?_⟩|refine pq ?_|refine Pure.use (Ha 1 _ (by decide) (by omega) (by omega)) ?_|(constructor<;>intro hc<;>(try rw[hc])<;>(replace hc:=bp hc)<;>(try simp(disch:=omega) only[BT,wrap64,AN]at hc)<;>try(exfalso;omega))|fail)<;>conv=>whnf)
  refine LR hs 0 rfl rfl (by rw[fK w (by omega)];omega) fun σ hs=>?_
  conv=>whnf
  repeat'((first|(apply si;intro A B Y Z)|(apply Y;clear Z B Y A)|(apply U;clear U K)|apply dr|refine⟨rfl,?_⟩|clear U K)<;>conv=>whnf)
  refine⟨hlt,(),rfl,trivial,?_⟩;rw[hck,MH,Nat.mul_one,G7]at hs;simp only[List.set_cons_zero]at hs;rw[hst]at hs;exact hs
 ·have hke:k=3:=by omega
  subst hke;clear hk hck hlen hlt
  conv=>whnf
  repeat'((first|apply st|(apply sq;intro K U)|(apply si;intro A B Y Z)|(apply Y;clear Z B Y A)|(apply U;clear U K)|refine⟨rfl,?_⟩|(constructor<;>intro hc<;>(try rw[hc])<;>(replace hc:=bp hc)<;>(try simp(disch:=omega) only[BT,wrap64,AN]at hc)<;>try(exfalso;omega))|clear U K)<;>conv=>whnf)
  refine C3 w.parents.length (fun k (_:Unit)=>[(38,eI (Bc k))]) (fun k _=>[.box n0 (wC w (Co w.parents k))]) (fun k _=>True) () rfl trivial hs ?_;clear hs;rintro k - σ hk - hs;have hck:Bc k=k:=AN (by omega);have hul:=Eo w.parents k;have huo:=Hb w.parents k (by omega);have hw3:IntKind.i64.wrap (3+(k:Int))=3+(k:Int):=wrap64 (by omega) (by omega);rcases BU w.parents hk with⟨row,hr,hlt⟩|hke
  ·obtain⟨r1,r2,r3⟩:=hrow k row hr
   rw[←hck]at hw3
   conv=>whnf
   repeat'((first|apply st|(apply sq;intro K U)|(apply si;intro A B Y Z)|(apply Y;clear Z B Y A)|(apply U;clear U K)|refine⟨rfl,?_⟩|refine ix ?_|(refine DR (fun hc=>?_)<;>(try rw[hc])<;>clear hc)|refine Pure.use (Ha 1 _ (by decide) (by omega) (by omega)) ?_|fail)<;>conv=>whnf)
   have hbig:v7 (Co w.parents k):=huo;have hst0:IntKind.i64.wrap (3+Bc k)=3+(k:Int):=by rw[hck];exact wrap64 (by omega) (by omega)
   have hs0lt:1|||2 ^ (3+k)<18446744073709551616:=LC (by decide) (KO (by omega))
   have hs0e:1|||2 ^ (IntKind.i64.wrap (3+Bc k)).toNat=1|||2 ^ (3+k):=by rw[hst0,show(3+(k:Int)).toNat=3+k by omega]
   rw[hs0e];refine C3 row.length (fun j (s:Nat)=>[(48,eI (Bc j)),(8,eU s)]) (fun _ _=>[.box n0 (wC w (Co w.parents k))]) (fun j s=>s=XC (Co w.parents k) (row.take j) (1|||2 ^ (3+k))) (1|||2 ^ (3+k)) rfl rfl hs ?_;clear hs;rintro j s σ hj hse hs;rcases BU row hj with⟨c,hcj,hjlt⟩|hje
   ·obtain⟨q1,q2⟩:=r3 c (DL hcj)
    have hload:(wC w (Co w.parents k))[0+2+c.toNat*1]? =some (eU ((Co w.parents k).getD c.toNat 0)):=by
     have:=Yz w (Co w.parents k) (i:=c.toNat) (by omega);rw[←this];congr 1;omega
    have hnc:(row.take j).contains c=false:=by
     rw[←Bool.not_eq_true,List.contains_iff_mem];intro hm;obtain⟨i,hi,he⟩:=List.mem_iff_getElem.1 hm;have hi':i<j:=by rw[Ny]at hi;omega
     rw[List.getElem_take]at he;have hcj':=(MK.1 hcj).2;exact absurd ((List.getElem_inj r2).1 (he.trans hcj'.symm)) (by omega)
    have hct: ∀b,Pure Tryz.prog 34 [.l (iL (row.take j)) b,eI c] (.b false):=fun b=>by
     have:=D7 (row.take j) b c
     rwa [hnc]at this
    conv=>whnf
    repeat'((first|apply st|(apply sq;intro K U)|(apply si;intro A B Y Z)|(apply Y;clear Z B Y A)|(apply U;clear U K)|refine⟨rfl,?_⟩|refine ix ?_|refine ya ?_|refine pq ?_|refine ld ?_|refine GS ?_|(refine DR (fun hc=>?_)<;>(try rw[hc])<;>clear hc)|refine Pure.use (hct _) ?_|(rw[hload])|(constructor<;>intro hc<;>(try rw[hc])<;>(replace hc:=bp hc)<;>(try simp(disch:=omega) only[BT,wrap64,AN]at hc)<;>try(exfalso;omega))|clear U K)<;>conv=>whnf)
    refine⟨hjlt,s|||(Co w.parents k).getD c.toNat 0,?_,?_,hs⟩
    ·have hsl:s<18446744073709551616:=by rw[hse];exact TO huo _ _ hs0lt
     rw[La hsl (Mb huo _)];rfl
    ·rw[hse,Aa hcj]
     simp only[XC,List.foldl_append];rfl
   ·conv=>whnf
    repeat'((first|apply st|(apply sq;intro K U)|(apply si;intro A B Y Z)|(apply Y;clear Z B Y A)|(apply U;clear U K)|refine⟨rfl,?_⟩|refine pq ?_|(refine Ew (fun hc=>?_)<;>(try rw[hc])<;>clear hc)|clear U K)<;>conv=>whnf)
    refine LR hs 0 rfl rfl (by rw[fK w (by omega),hst0];omega) fun σ hs=>?_
    conv=>whnf
    repeat'((first|(apply si;intro A B Y Z)|(apply Y;clear Z B Y A)|(apply U;clear U K)|refine⟨rfl,?_⟩|clear U K)<;>conv=>whnf)
    refine⟨hlt,(),rfl,trivial,?_⟩
    have e:Co w.parents (k+1)=Co w.parents k++[s]:=by
     rw[hse,Co,D9,hr,hje,List.take_length];rfl
    have hst:=fI w (Co w.parents k) s (by omega);rw[e,←hst];have e2:0+2+(IntKind.i64.wrap (3+Bc k)).toNat*1=2+(Co w.parents k).length:=by rw[hst0,hul];omega
    rw[e2]at hs;exact hs
  ·have hown:=gn 247 [.p n0 0] [] (fun _=>[.box n0 (wC w (Co w.parents k))]) (Uv fun c=>decide (3≤c)&&decide (c<3+(w.parents.length:Int))) (fun _ _=>True) (fun y s _ σ hs=>Bg (A7.mono (rE w (Co w.parents k) y (by omega) σ hs) (by
    rintro r σ' ⟨post,⟨h1,h2⟩,h3⟩;subst h2
    exact⟨h1,h3⟩))) w.owner false () (KT fun _ _ _=>trivial)
   rw[Jq]at hown
   have hall:(w.owner.all fun c=>decide (3≤c)&&decide (c<3+(w.parents.length:Int)))=true:=by
    rw[Ev];intro o hoo;have:=how o hoo;simp only[A9,Cf];exact this
   rw[hall]at hown
   conv=>whnf
   repeat'((first|apply st|(apply sq;intro K U)|(apply si;intro A B Y Z)|(apply Y;clear Z B Y A)|(apply U;clear U K)|refine⟨rfl,?_⟩|(refine Ew (fun hc=>?_)<;>(try rw[hc])<;>clear hc)|clear U K)<;>conv=>whnf)
   refine hown.use (rest:=[]) hs ?_;rintro r post σ ⟨rfl,rfl⟩ hs
   conv=>whnf
   repeat'((first|apply st|(apply Y;clear Z B Y A)|(apply U;clear U K)|fail)<;>conv=>whnf)
   rw[hke]at hs;exact Jc (σ2:=emp) (fun n o ho=>by cases ho) (.t (.cons (hs.y7 0 rfl (.refl _ _ _)) (.cons (.refl _) .nil))) rfl
def Me (w:AJ) (f:Fact):Bool:=decide (0≤f.arg)&&(decide (f.arg<3)&&(EH w f.path&&(if f.op=2 then f.n==0&&Oj w f.cls else f.cls==0&&(decide (-1000000000≤f.n)&&decide (f.n≤1000000000)))))
def El (w:AJ) (f:Fact):Int→Int→Bool×Int:=f.FL fun f l left deep=>
 if IntKind.i64.wrap (left - 1)<0∨deep=0∨f.op<1∨7<f.op∨f.kids.length≠Bp f.op then(false,IntKind.i64.wrap (left - 1))else
 if Bj f then(Me w f,IntKind.i64.wrap (left - 1))else
 if f.arg≠0∨0<f.path.length∨f.cls≠0∨f.n≠0 then(false,IntKind.i64.wrap (left - 1))else
 Cu (fun(k:Int→Int→Bool×Int) s=>k s (deep - 1)) l (IntKind.i64.wrap (left - 1))
def Lz {α β S:Type} (g:α→β) (stp:β→S→Bool×S): ∀(l:List α) (s:S),Cu stp (l.map g) s=Cu (fun a s=>stp (g a) s) l s
 | [],_=>rfl
 | a::r,s=>by simp only[Ct,Cu,Lz g stp r]
def Hd (w:AJ) (f:Fact) (left deep:Int):El w f left deep =
    if IntKind.i64.wrap (left - 1)<0∨deep=0∨f.op<1∨7<f.op∨f.kids.length≠Bp f.op then(false,IntKind.i64.wrap (left - 1))else
    if Bj f then(Me w f,IntKind.i64.wrap (left - 1))else
    if f.arg≠0∨0<f.path.length∨f.cls≠0∨f.n≠0 then(false,IntKind.i64.wrap (left - 1))else
    Cu (fun k s=>El w k s (deep - 1)) f.kids (IntKind.i64.wrap (left - 1)):=by
 rw[El,Fact.CG,Lz];rfl
def Y3 {w:AJ} {f:Fact} {left deep L1:Int} {b:Bool} {nL:Nat} {σ:AH} (hs:Sat σ [.box nL [eI L1]]) (h:El w f left deep=(b,L1)):Ap σ (.b b) fun r σ'=> ∃post:List At,(r=R.ret (.b (El w f left deep).1)∧post= [.box nL [eI (El w f left deep).2]])∧Sat σ' post:=by
 rw[h];exact AW ⟨_,⟨rfl,rfl⟩,hs⟩
set_option maxHeartbeats 4000000 in
def mN (w:AJ) (us:List Nat) (hw1:w.parents.length≤60) (hw2:w.owner.length≤60) (nL:Nat) (f:Fact): ∀(left deep:Int),0≤deep→deep≤12→
    B3 Tryz.prog 250 [.rp (wC w us),.a (xF f),.p nL 0,eI deep] [.box nL [eI left]] fun r post=>r= .ret (.b (El w f left deep).1)∧post= [.box nL [eI (El w f left deep).2]]:=by
 induction f using Fact.ind with
 | h f ih=>
   intro left deep hd0 hd1 σ hs;refine A7.fit (by kernel_rfl) fun hf=>?_
   have⟨h2,h3,h4⟩:=J5 hf.2.1;have hM:=Mx;have hdw:IntKind.i64.wrap (deep - 1)=deep - 1:=wrap64 (by omega) (by omega);refine tl kZ ?_
   have hstep:DI Tryz.prog (.f (.func 306) [] [.rp [.rp (wC w us)],.rp [.p nL 0],.rp [eI deep]]) (fun y=> .a (xF y)) (fun s=>[.box nL [eI s]]) (fun k s=>El w k s (deep - 1)) (fun y _=>y∈f.kids∧deep≠0):=by
    rintro y s ⟨hy,hdn⟩ σ hs;refine Bg ?_;show A7 Tryz.prog 306 ([]++[.a (xF y)]++[.rp [.rp (wC w us)],.rp [.p nL 0],.rp [eI deep]]) σ _;refine tC kZ ?_
    conv=>whnf
    repeat'((first|apply st|(apply sq;intro K U)|(apply si;intro A B Y Z)|(apply Y;clear Z B Y A)|(apply U;clear U K)|refine⟨rfl,?_⟩|refine⟨kZ,?_⟩|fail)<;>conv=>whnf)
    rw[hdw];refine(ih y hy s (deep - 1) (by omega) (by omega)).use (rest:=[]) hs ?_;rintro r post σ ⟨rfl,rfl⟩ hs
    conv=>whnf
    repeat'((first|apply st|(apply Y;clear Z B Y A)|(apply U;clear U K)|fail)<;>conv=>whnf)
    exact AW ⟨rfl,hs⟩
   conv=>whnf
   repeat'((first|apply st|(apply sq;intro K U)|(apply si;intro A B Y Z)|(apply Y;clear Z B Y A)|(apply U;clear U K)|apply dr|refine rk ?_ ?_|exact fun s e=>by cases e;rfl|refine⟨rfl,?_⟩|refine⟨kZ,?_⟩|refine ld ?_|refine Io fun σ hs=>?_|refine Pure.use (OP _) ?_|refine Pure.use (me _) ?_|refine Pure.use (jq w us _ hw1) ?_|refine Pure.use (l7 w us _ _ hw2) ?_|(constructor<;>intro hc<;>(try rw[hc])<;>(replace hc:=bp hc)<;>(try simp(disch:=omega) only[BT,wrap64,AN]at hc))|clear U K)<;>conv=>whnf)
   all_goals first
    | (refine Y3 hs ?_;rw[Hd,if_pos (by omega)];done)
    | (refine Y3 hs ?_;rw[Hd,if_neg (by omega),if_pos (by assumption)];simp[Me, *];done)
    | (refine Y3 hs ?_;rw[Hd,if_neg (by omega),if_pos (by assumption)];simp[Me, *];intros;omega)
    | (refine Y3 hs ?_;rw[Hd,if_neg (by omega),if_neg (by simp[*]),if_pos (by omega)];done)
    | skip
   refine(gm 306 [] _ _ _ _ hstep f.kids false (IntKind.i64.wrap (left - 1)) h2 (KT fun y hy _=>⟨hy,by omega⟩)).use (rest:=[]) hs ?_;have hE:=Hd w f left deep;rw[if_neg (by omega),if_neg (by simp[*]),if_neg (by omega)]at hE;rw[←hE];rintro r post σ ⟨rfl,rfl⟩ hs
   conv=>whnf
   repeat'((first|apply st|(apply Y;clear Z B Y A)|(apply U;clear U K)|fail)<;>conv=>whnf)
   exact AW ⟨_,⟨rfl,rfl⟩,hs⟩
def LG (w:AJ) (f:Fact):Bool:=(El w f 24 12).1
def cj (w:AJ) (us:List Nat) (hw1:w.parents.length≤60) (hw2:w.owner.length≤60) (f:Fact):Pure Tryz.prog 249 [.a (xF f),.rp [.rp (wC w us)]] (.b (LG w f)):=by
 refine Pure.of ?_;refine tn kZ ?_;have hs:=Sn
 conv=>whnf
 repeat'((first|apply st|(apply sq;intro K U)|(apply si;intro A B Y Z)|(apply Y;clear Z B Y A)|(apply U;clear U K)|refine⟨kZ,?_⟩|refine Io fun σ hs=>?_|(intro nn hnn;generalize hg:A5 _ nn _=σ;refine CN hg fun hs=>?_;clear hg)|fail)<;>conv=>whnf)
 refine(mN w us hw1 hw2 _ f 24 12 (by omega) (by omega)).use (rest:=[]) hs ?_;rintro r post σ ⟨rfl,rfl⟩ hs
 conv=>whnf
 repeat'((first|apply st|(apply Y;clear Z B Y A)|(apply U;clear U K)|fail)<;>conv=>whnf)
 exact AW rfl
def oF {g:FuncId} {fi ca:List V} {f:Fact→Bool} {xs:List Fact} (b:Bool) (hl:xs.length≤Aj) (h: ∀y∈xs,Pure Tryz.prog g (fi++[.a (xF y)]++ca) (.b (f y))):Pure Tryz.prog 248 [.l (facts xs) b,.f (.func g) fi ca] (.b (xs.all f)):=by
 have:=gm g fi ca (fun _=>[]) (fun y (_:Unit)=>(f y,())) (fun y _=>y∈xs) (fun y s hy σ hs=>Bg (A7.mono ((h y hy).use (k:=fun v σ'=>v= .b (f y)∧Sat σ' []) (kp:=fun _ _=>False) ⟨rfl,Sat.nil⟩) (by
  rintro(v|v) σ' hq
  ·obtain⟨rfl,h⟩:=hq
   exact⟨rfl,h⟩
  ·exact hq.elim))) xs b () hl (KT fun y hy _=>hy)
 rw[Jq]at this;exact Pure.of (A7.mono (this emp Sat.nil) fun r σ' ⟨post,⟨h1,h2⟩,h3⟩=>h1)
def cq (w:AJ) (us:List Nat) (hw1:w.parents.length≤60) (hw2:w.owner.length≤60) (l:List Fact) (b:Bool) (hl:l.length≤60):Pure Tryz.prog 175 [.rp (wC w us),.l (facts l) b] (.b (l.all (LG w))):=by
 have hall:=oF (g:=249) (fi:=[]) (ca:=[.rp [.rp (wC w us)]]) (f:=LG w) (xs:=l) b (by simp only[Aj];omega) fun y _=>cj w us hw1 hw2 y
 refine ud kZ ?_;have hs:=Sn
 conv=>whnf
 repeat'((first|apply st|(apply sq;intro K U)|(apply si;intro A B Y Z)|(apply Y;clear Z B Y A)|(apply U;clear U K)|refine Pure.use (by assumption) ?_|fail)<;>conv=>whnf)
 exact AI rfl
def OH (w:AJ) (hw:DH w) (l:List Fact) (b:Bool) (hl:l.length≤60):Pure Tryz.prog 118 [.a (BC w),.l (facts l) b] (.t [.rp (wC w (B9 w.parents)),.b (l.all (LG w))]):=by
 have hfo:=cq w (B9 w.parents) (by have:=hw.1.1;omega) (by have:=hw.2.1;omega) l b hl;refine vK kZ ?_;have hs:=Sn
 conv=>whnf
 repeat'((first|apply st|(apply sq;intro K U)|(apply si;intro A B Y Z)|(apply Y;clear Z B Y A)|(apply U;clear U K)|refine⟨kZ,?_⟩|refine Pure.use (mF w hw) ?_|refine hfo.use ?_|fail)<;>conv=>whnf)
 all_goals exact AI rfl
def dZ (w:AJ) (hw:DH w) (f:Fact):Pure Tryz.prog 146 [.a (BC w),.a (xF f)] (eI (if LG w f then 0 else 2)):=by
 have hfo: ∀b,Pure Tryz.prog 118 [.a (BC w),.l [Fw f] b] (.t [.rp (wC w (B9 w.parents)),.b (LG w f)]):=fun b=>by
  have:=OH w hw [f] b (by simp);simpa using this
 refine vC kZ ?_;have hs:=Sn
 conv=>whnf
 repeat'((first|apply st|(apply sq;intro K U)|(apply si;intro A B Y Z)|(apply Y;clear Z B Y A)|(apply U;clear U K)|refine⟨kZ,?_⟩|fail)<;>conv=>whnf)
 rw[Ba]at hfo;refine(hfo _).use ?_
 conv=>whnf
 repeat'((first|apply st|(apply sq;intro K U)|(apply si;intro A B Y Z)|(apply Y;clear Z B Y A)|(apply U;clear U K)|refine Pure.use (YB _) ?_|fail)<;>conv=>whnf)
 exact AI rfl
end Go.Gl
namespace Go.Gl
def L5 {most:Int}: ∀(l:List Fact) (n:Int),(∀k∈l,∀m:Int,(Br k:Int)≤m→BV k m=Br k)→n+(l.map Br).sum≤most→DE (l.map BV) n most=n+(l.map Br).sum
 | [],n,_,_=>by simp[DE]
 | k::r,n,h,h1=>by
   simp only[Ct,List.sum_cons,DE]at *;rw[if_pos (by omega),h k (.head _) (most - n) (by omega),L5 r _ (fun k' hk'=>h k' (.tail _ hk')) (by omega)];omega
def T0 (f:Fact): ∀m:Int,(Br f:Int)≤m→BV f m=Br f:=by
 induction f using Fact.ind with
 | h f ih=>
   intro m hm;rw[GO];rw[Cm]at *;rw[L5 f.kids 1 ih (by omega)];omega
def cD (f:Fact) {m:Int} (h0:0≤m):BV f m≤m↔(Br f:Int)≤m:=
 ⟨fun h=>by rw[←Gg f m h0 h];exact h,fun h=>by rw[T0 f m h];exact h⟩
def nq (f:Fact):1≤Br f:=by rw[Cm];omega
def Gp {m:Int}: ∀(l:List Int) (a:Int),l.foldl EY a≤m↔a≤m∧ ∀x∈l,x≤m
 | [],a=>by simp
 | x ::r,a=>by
   rw[List.foldl_cons,Gp r];unfold EY;constructor
   ·rintro⟨h1,h2⟩
    refine⟨by split at h1<;>omega,fun y hy=>?_⟩;rcases F7.1 hy with rfl|hy
    ·split at h1<;>omega
    ·exact h2 y hy
   ·rintro⟨h1,h2⟩
    have hx:=h2 x (.head _);exact⟨by split<;>omega,fun y hy=>h2 y (.tail _ hy)⟩
def ji (f:Fact) {m:Int}:Dm f≤m↔1≤m∧ ∀k∈f.kids,Dm k≤m - 1:=by
 rw[Fb];constructor
 ·intro h
  have:=(Gp (m:=m - 1) (f.kids.map Dm) 0).1 (by omega);exact⟨by omega,fun k hk=>this.2 _ (List.mem_map_of_mem hk)⟩
 ·rintro⟨h1,h2⟩
  have:=(Gp (m:=m - 1) (f.kids.map Dm) 0).2 ⟨by omega,fun x hx=>by
   obtain⟨k,hk,rfl⟩:=KE.1 hx
   exact h2 k hk⟩
  omega
def eo (w:AJ) (f:Fact) (left deep:Int):Prop:=(Br f:Int)≤left∧Dm f≤deep∧Al w f=true
def SS (w:AJ) {deep:Int}: ∀(l:List Fact) (left:Int),0≤left→left≤24→(∀k∈l,∀left:Int,0≤left→left≤24→((El w k left deep).1=true↔eo w k left deep)∧((El w k left deep).1=true→(El w k left deep).2=left - Br k))→
    ((Cu (fun k s=>El w k s deep) l left).1=true↔((l.map Br).sum:Int)≤left∧ ∀k∈l,Dm k≤deep∧Al w k=true)∧((Cu (fun k s=>El w k s deep) l left).1=true→(Cu (fun k s=>El w k s deep) l left).2=left - ((l.map Br).sum:Nat))
 | [],left,h0,h1,_=>by simp[Cu];exact h0
 | k ::r,left,h0,h1,h=>by
   obtain⟨ha,hb⟩:=h k (.head _) left h0 h1;simp only[Cu,Ct,List.sum_cons];cases hk:(El w k left deep).1
   ·simp only[ML,if_false,false_iff,false_implies,and_true]
    rintro⟨h2,h3⟩;have:=ha.2 ⟨by omega,(h3 k (.head _)).1,(h3 k (.head _)).2⟩;rw[hk]at this;cases this
   ·obtain⟨g1,g2,g3⟩:=ha.1 hk
    have hc:=nq k;rw[if_pos rfl,hb hk];obtain⟨i1,i2⟩:=SS w r (left - Br k) (by omega) (by omega) fun k' hk'=>h k' (.tail _ hk')
    refine⟨i1.trans ⟨fun⟨e1,e2⟩=>⟨by omega,fun x hx=>?_⟩,fun⟨e1,e2⟩=>⟨by omega,fun x hx=>e2 x (.tail _ hx)⟩⟩,fun h=>by rw[i2 h];omega⟩;rcases F7.1 hx with rfl|hx
    ·exact⟨g2,g3⟩
    ·exact e2 x hx
def mM (w : AJ) (f:Fact): ∀left deep:Int,0≤left→left≤24→0≤deep→((El w f left deep).1=true↔eo w f left deep)∧((El w f left deep).1=true→(El w f left deep).2=left - Br f):=by
 induction f using Fact.ind with
 | h f ih=>
   intro left deep h0 h1 hd;have hw:IntKind.i64.wrap (left - 1)=left - 1:=wrap64 (by omega) (by omega);rw[Hd,hw];have hc:=Cm f;have hn:=Bs w f;have hdl:=ji f (m:=deep)
   have hko:Cq w f=true→f.kids.length=Bp f.op:=fun h=>by
    simp only[Cq,A9,DK]at h;exact h.2.1
   have hop:Cq w f=true→1≤f.op∧f.op≤7:=fun h=>by
    simp only[Cq,A9]at h;have h1:=h.1;unfold Qp at h1;split at h1
    ·omega
    split at h1
    ·omega
    simp at h1;omega
   by_cases hbad:left - 1<0∨deep=0∨f.op<1∨7<f.op∨f.kids.length≠Bp f.op
   ·rw[if_pos hbad]
    simp only[ML,false_iff,false_implies,and_true];rintro⟨g1,g2,g3⟩;rw[hn,A9]at g3;have g4:=hko g3.1;have g5:=hop g3.1;have g6:=(hdl.1 g2).1;omega
   rw[if_neg hbad];by_cases hl:Bj f=true
   ·rw [if_pos hl]
    have hl':f.op=2∨f.op=3∨f.op=4:=by
     simp only[Bj,F6,DK]at hl;omega
    have hk0:f.kids= []:=by
     have:f.kids.length=Bp f.op:=by omega
     rw[Bp,if_neg (by omega),if_neg (by omega)]at this;exact W4.1 this
    have hd1:Dm f=1:=by rw[Fb,hk0];rfl
    have hc1:Br f=1:=by rw[hc,hk0];rfl
    have hh:Cq w f=Me w f:=by
     unfold Cq Qp Me;rw[hl,hk0];have e:Bp f.op=0:=by rw[Bp,if_neg (by omega),if_neg (by omega)]
     rw[e];simp only[List.length_nil,beq_self_eq_true,EW,Bool.true_or,Bool.and_true];rcases hl' with e|e|e
     ·rw[if_pos e,if_pos e]
      cases(f.n==0&&Oj w f.cls)<;>simp
     ·rw[if_neg (show¬f.op=2 by omega),if_neg (show¬f.op=2 by omega),if_pos (show f.op=3∨f.op=4 from .inl e)]
      cases(f.cls==0&&(decide (-1000000000≤f.n)&&decide (f.n≤1000000000)))<;>simp
     ·rw[if_neg (show¬f.op=2 by omega),if_neg (show¬f.op=2 by omega),if_pos (show f.op=3∨f.op=4 from .inr e)]
      cases(f.cls==0&&(decide (-1000000000≤f.n)&&decide (f.n≤1000000000)))<;>simp
    refine⟨⟨fun h=>⟨by omega,by omega,?_⟩,fun⟨_,_,h⟩=>?_⟩,fun _=>by dsimp only;omega⟩
    ·rw[hn,hk0,hh];simpa using h
    ·rw[hn,hk0,hh]at h;simpa using h
   ·have hl':f.op=1∨f.op=5∨f.op=6∨f.op=7:=by
     simp only[Bj,F6,DK]at hl;omega
    have hlf:Bj f=false:=by simpa using hl
    rw[if_neg hl];by_cases hz:f.arg≠0∨0<f.path.length∨f.cls≠0∨f.n≠0
    ·rw[if_pos hz]
     simp only[ML,false_iff,false_implies,and_true];rintro⟨g1,g2,g3⟩;rw[hn,A9]at g3;have g4:=g3.1;simp only[Cq,hlf,Bool.false_or,A9,DK]at g4;omega
    ·rw [if_neg hz]
     obtain⟨i1,i2⟩:=SS w (deep:=deep - 1) f.kids (left - 1) (by omega) (by omega) fun k hk left hl0 hl1=>ih k hk left (deep - 1) hl0 hl1 (by omega)
     have hh:Cq w f=true:=by
      have hp:f.path= []:=W4.1 (by omega)
      have e1:Qp w f=true:=by
       unfold Qp;rw[if_neg (by omega),if_neg (by omega)];simp only[F6,DK];omega
      have z1:f.arg=0:=by omega
      have z2:f.cls=0:=by omega
      have z3:f.n=0:=by omega
      have z4:f.kids.length=Bp f.op:=by omega
      simp[Cq,e1,hlf,hp,z1,z2,z3,z4,EH]
     refine⟨i1.trans ⟨fun⟨e1,e2⟩=>⟨by omega,hdl.2 ⟨by omega,fun k hk=>(e2 k hk).1⟩,?_⟩,fun⟨g1,g2,g3⟩=>⟨by omega,fun k hk=>⟨(hdl.1 g2).2 k hk,?_⟩⟩⟩,fun h=>by rw[i2 h];omega⟩
     ·rw[hn,hh,EW,Ev]
      exact fun k hk=>(e2 k hk).2
     ·rw[hn,hh,EW,Ev]at g3
      exact g3 k hk
def OT (w:AJ) (f:Fact):LG w f=CA w f:=by
 have:=(mM w f 24 12 (by omega) (by omega) (by omega)).1;rw[LG,CA,Hu,this,eo];simp only[A9,Cf];rw[cD f (by omega)]
end Go.Gl
namespace Go.Gl
open Go.Proofs
attribute [local irreducible] A7 Ap Af AT AM Ae AS AU AL Ad AO AP Aw A1 Sat AX Az Ah W
def Ls {p:Prog} (h:BE p=true):DH (AR p)∧Bu p.AQ≤40∧p.AQ.length≤10:=by
 have h1:=h;rw[Qc]at h1;simp only[A9,Cf]at h1;have h2:=h;simp only[BE,A9,Cf]at h2;have hm:=(FZ _ _ h2.2.1).1;refine⟨⟨D6 h1.2.2.2.1,?_,fun o ho=>?_⟩,by omega,h1.1⟩
 ·rw[AR,Ce];omega
 ·have:=GM ho
  simp only[AR,A2,BT];omega
def kP (s:List Int):Prop:= ∀x∈s,(-1:Int)≤x
def m8 {s:List Int} (h:kP s) (i:Nat) {x:Int} (hx:0≤x):kP (s.set i x):=fun y hy=>by
 rcases List.mem_or_eq_of_mem_set hy with hy|rfl
 ·exact h y hy
 ·omega
def Vs {f:Int→Int→List Int→Option (List Int)} (hf: ∀ {a b s s'},0≤b→f a b s=some s'→kP s→kP s') {op size:Int} (h0:0≤size): ∀(i:Nat) (l:List Int) {s s':List Int},Fv f op size i l s=some s'→kP s→kP s'
 | _,[],s,s',h,hs=>by cases h;exact hs
 | i,k::r,s,s',h,hs=>by
   simp only[Fv]at h;split at h
   ·cases h
   ·rename_i s1 h1
    refine Vs hf h0 (i+1) r h (hf ?_ h1 hs);split<;>omega
def Lb {p:Prog} {next:Bool}: ∀(d:Nat) {n size:Int} {s s':List Int},0≤size→CU p next d n size s=some s'→kP s→kP s'
 | 0,_,_,_,_,_,h,_=>by cases h
 | d + 1,n,size,s,s',h0,h,hs=>by
   simp only[CU]at h;split at h
   ·cases h
   ·split at h
    ·cases h
    ·split at h
     ·exact Vs (fun hb h hs=>Lb d hb h hs) h0 0 _ h (m8 hs _ h0)
     ·cases h
def m9 {s:List Int} (h:kP s):(s.all fun n=>decide (0≤n))= !s.contains (-1):=by
 rw[Hu];simp only[Ev,Cf,Bool.not_eq_true',←Bool.not_eq_true,List.contains_iff_mem];constructor
 ·intro h1 h2
  have:=h1 _ h2;omega
 ·intro h1 x hx
  have:=h x hx;rcases Int.lt_or_le x 0 with hlt|hle
  ·exact absurd ((show x= -1 by omega) ▸ hx) h1
  ·exact hle
def vr (p:Prog) (nO:Nat) (r:R) (σ:AH):Prop:=
 match Bd p with
 | some s=>r= .ret (.t [])∧ ∃v,Sat σ [.box nO [v],.own v 1 (iL s)]
 | none=>r= .Bo D3∧ ∃v s,Sat σ [.box nO [v],.own v 1 (iL s)]
def aw {p:Prog} {nO:Nat} {σ:AH} {v:V} {s:List Int} {l:List At} (h:Bd p=none) (hs:Sat σ l) (hsub: [At.box nO [v],.own v 1 (iL s)].Sublist l):Af σ D3 (vr p nO):=DX (by
 rw[vr,h]
 exact⟨rfl,v,s,hs.less hsub⟩)
def szT {p:Prog} {nO:Nat} {σ:AH} {v:V} {s:List Int} {l:List At} (h:Bd p=some s) (hs:Sat σ l) (hsub: [At.box nO [v],.own v 1 (iL s)].Sublist l):Ap σ (.t []) (vr p nO):=AW (by
 rw[vr,h]
 exact⟨rfl,v,hs.less hsub⟩)
def S4 {p:Prog} (h:C4 p=false):Bd p=none:=by unfold Bd;rw[h];rfl
def aV {w:AJ} {f:Fact} (h:CA w f=true):O3 f=true:=QG (w:=w) f (by simp only[CA,A9]at h;exact h.2.2)
def QT {w:AJ} (hw:DH w) (f:Fact):Pure Tryz.prog 146 [.a (BC w),.a (xF f)] (eI (if CA w f then 0 else 2)):=by
 rw[←OT];exact dZ w hw f
def bw {α:Type} (a b c:α): [a,b,c].Perm [c,b,a]:=by simpa using(List.reverse_perm [a,b,c]).symm
set_option maxHeartbeats 4000000 in
def iY (p : Prog) (nO:Nat) (σ:AH) (hs:Sat σ [.box nO [.l [] true]]):A7 Tryz.prog 281 [.rp (Be p),.p nO 0] σ (vr p nO):=by
 refine A7.fit (by kernel_rfl) fun hf=>?_
 have hM:=Mx
 have hfp:FU (.a (Be p)):=by
  have:=hf.1;simp only[Tk]at this;simpa only[JE]using this
 have⟨p1,p2,p3,p4⟩:=GD hfp;refine tX kZ ?_;have hcl:=Yq p;replace hs:Sat σ [.box nO [.l [] true],.own (.l [] true) 1 (iL [])]:=GV hs 1;cases hcB:BE p with
 | false=>
   rw[hcB]at hcl
   conv=>whnf
   repeat'((first|apply st|(apply sq;intro K U)|(apply si;intro A B Y Z)|refine⟨kZ,?_⟩|fail)<;>conv=>whnf)
   refine hcl.use (pre:=[]) (rest:=[.box nO [.l [] true],.own (.l [] true) 1 (iL [])]) hs ?_;rintro r post σ ⟨rfl,rfl⟩ hs
   conv=>whnf
   repeat'((first|(refine Z _ _ _ ?_;clear Z B Y A)|clear U K)<;>conv=>whnf)
   exact aw (S4 (by simp[C4,hcB])) hs (.refl _)
 | true=>
   rw[hcB]at hcl;obtain⟨hgW,hmS,h10⟩:=Ls hcB
   conv=>whnf
   repeat'((first|apply st|(apply sq;intro K U)|(apply si;intro A B Y Z)|refine⟨kZ,?_⟩|fail)<;>conv=>whnf)
   refine hcl.use (pre:=[]) (rest:=[.box nO [.l [] true],.own (.l [] true) 1 (iL [])]) hs ?_;clear hs;rintro r post σ ⟨rfl,rfl⟩ hs
   conv=>whnf
   repeat'((first|apply st|(apply sq;intro K U)|(apply si;intro A B Y Z)|(apply Y;clear Z B Y A)|(refine Z _ _ _ ?_;clear Z B Y A)|(apply U;clear U K)|refine⟨rfl,?_⟩|(refine C0 (fun hc=>?_) (fun hc=>?_)<;>(replace hc:=bp hc)<;>(try simp(disch:=omega) only[BT,wrap64,AN]at hc)<;>(try(cases hc;done)))|(constructor<;>intro hc<;>(try rw[hc])<;>(replace hc:=bp hc)<;>(try simp(disch:=omega) only[BT,wrap64,AN]at hc))|clear U K)<;>conv=>whnf)
   rotate_left
   all_goals first
    | exact aw (S4 (by simp[C4, *];intros;omega)) hs (.refl _)
    | skip
   have a1:p.C1.length≤8:=by omega
   have a2:p.methods.length≤16:=by omega
   have a3:1≤p.nodes.length:=by omega
   have a4:p.nodes.length≤120:=by omega
   have hg:C4 p=p.C1.all fun g=>decide (1≤g)&&decide (g≤3):=by
    simp only[C4,a1,a2,a3,a4,decide_true,EW];simp[*]
   refine C3 p.C1.length (fun k (_:Unit)=>[(36,eI (Bc k))]) (fun _ _=>[.box nO [.l [] true],.own (.l [] true) 1 (iL [])]) (fun k _=>C4 p=(p.C1.drop k).all fun g=>decide (1≤g)&&decide (g≤3)) () rfl (by simpa using hg) hs ?_;clear hs hg;rintro k - σ hk hn hs;rcases BU p.C1 hk with⟨g,hgk,hlt⟩|hke
   ·rw[drop_cons hgk,SZ]at hn
    conv=>whnf
    repeat'((first|apply st|(apply sq;intro K U)|(apply si;intro A B Y Z)|(apply Y;clear Z B Y A)|(refine Z _ _ _ ?_;clear Z B Y A)|(apply U;clear U K)|refine⟨rfl,?_⟩|refine ix ?_|(refine DR (fun hc=>?_)<;>(try rw[hc])<;>clear hc)|(refine C0 (fun hc=>?_) (fun hc=>?_)<;>(replace hc:=bp hc)<;>(try simp(disch:=omega) only[BT,wrap64,AN]at hc)<;>(try(cases hc;done)))|(constructor<;>intro hc<;>(try rw[hc])<;>(replace hc:=bp hc))|clear U K)<;>conv=>whnf)
    ·exact⟨hlt,(),rfl,by rw[hn];simp[*],hs⟩
    ·exact aw (S4 (by rw[hn,decide_eq_false (show¬g≤3 by omega)];simp)) hs (.refl _)
    ·exact aw (S4 (by rw[hn,decide_eq_false (show¬1≤g by omega)];simp)) hs (.refl _)
   ·have hh : C4 p=true:=by rw[hn,Au hke];rfl
    have hL:=Zo hh;clear hn
    conv=>whnf
    repeat'((first|apply st|(apply sq;intro K U)|(apply si;intro A B Y Z)|(apply Y;clear Z B Y A)|(apply U;clear U K)|refine⟨rfl,?_⟩|(refine Ew (fun hc=>?_)<;>(try rw[hc])<;>clear hc)|clear U K)<;>conv=>whnf)
    rw[BT];refine(bj p.nodes.length a3 a4).use (pre:=[]) (rest:=[.box nO [.l [] true],.own (.l [] true) 1 (iL [])]) hs ?_;clear hs;rintro r post σ ⟨v,rfl,rfl,hv⟩ hs
    conv=>whnf
    repeat'((first|apply st|(apply sq;intro K U)|(apply si;intro A B Y Z)|(apply Y;clear Z B Y A)|(apply U;clear U K)|refine⟨kZ,?_⟩|refine Io fun σ hs=>?_|refine Cg fun σ hs=>?_|refine Pure.use (VC p (by omega) (by omega)) ?_|(intro nn hnn;generalize hg:A5 _ nn _=σ;refine CN hg fun hs=>?_;clear hg)|fail)<;>conv=>whnf)
    rename_i nw hnw _ hs;generalize nn=n5 at *;replace hs:=hs.less (show [At.box n5 (BC (AR p)),.own v 1 (iL (List.replicate p.nodes.length (-1))),.box nO [v]].Sublist _ from .cons₂ _ (.cons₂ _ (.cons₂ _ (.cons _ .slnil))));refine C3 p.methods.length (fun k (s:List Int)=>[(59,eI (Bc k))]) (fun _ s=>[.box nO [v],.own v 1 (iL s),.box n5 (BC (AR p))]) (fun k s=>s.length=p.nodes.length∧kP s∧Bd p=J0 p (runM p (p.methods.drop k) s)) (List.replicate p.nodes.length (-1)) rfl ⟨by simp,fun x hx=>by rw[List.eq_of_mem_replicate hx];omega,hL⟩ (hs.perm (bw _ _ _)) ?_;clear hs hnw hnn;rintro k s σ hk ⟨hl,hge,hn⟩ hs;rcases BU p.methods hk with⟨m,hm,hlt⟩|hke
    ·have hF:=QT hgW m.fact
     cases hfB:CA (AR p) m.fact with
     | false=>
       rw[hfB,if_neg Bool.false_ne_true]at hF;have hno:=Di hm hn (by simp[Qj,hfB])
       conv=>whnf
       repeat'((first|apply st|(apply sq;intro K U)|(apply si;intro A B Y Z)|(apply Y;clear Z B Y A)|(refine Z _ _ _ ?_;clear Z B Y A)|(refine Z _ _ fun σ hsub=>?_;clear Z B Y A)|(apply U;clear U K)|apply dr|refine rk ?_ ?_|exact fun s e=>by cases e;rfl|refine⟨rfl,?_⟩|refine⟨kZ,?_⟩|refine ix ?_|refine ld ?_|refine Cg fun σ hs=>?_|(refine DR (fun hc=>?_)<;>(try rw[hc])<;>clear hc)|(refine C0 (fun hc=>?_) (fun hc=>?_)<;>(replace hc:=bp hc)<;>(try simp(disch:=omega) only[BT,wrap64,AN]at hc)<;>(try(cases hc;done)))|refine hF.use ?_|(constructor<;>intro hc<;>(try rw[hc])<;>(replace hc:=bp hc)<;>try(exfalso;omega))|(intro nn hnn;generalize hg:A5 _ nn _=σ;refine CN hg fun hs=>?_;clear hg)|clear U K)<;>conv=>whnf)
       all_goals first
        | (refine aw (v:=v) (s:=s) hno hs ?_;(repeat first|exact MJ _|apply List.Sublist.cons₂|apply List.Sublist.cons);done)
        | (refine aw (v:=v) (s:=s) hno (hs.up (by assumption)) ?_;(repeat first|exact MJ _|apply List.Sublist.cons₂|apply List.Sublist.cons);done)
        | skip
     | true=>
       rw[hfB,if_pos rfl]at hF;have hsp:=ba _ (aV hfB)
       conv=>whnf
       repeat'((first|apply st|(apply sq;intro K U)|(apply si;intro A B Y Z)|(apply Y;clear Z B Y A)|(refine Z _ _ _ ?_;clear Z B Y A)|(refine Z _ _ fun σ hsub=>?_;clear Z B Y A)|(apply U;clear U K)|apply dr|refine rk ?_ ?_|exact fun s e=>by cases e;rfl|refine⟨rfl,?_⟩|refine⟨kZ,?_⟩|refine ix ?_|refine MI ?_|refine iq fun x hx=>?_|refine ld ?_|refine Cg fun σ hs=>?_|(refine DR (fun hc=>?_)<;>(try rw[hc])<;>clear hc)|(refine C0 (fun hc=>?_) (fun hc=>?_)<;>(replace hc:=bp hc)<;>(try simp(disch:=omega) only[BT,wrap64,AN]at hc)<;>(try(cases hc;done)))|refine hF.use ?_|refine hsp.use ?_|(constructor<;>intro hc<;>(try rw[hc])<;>(replace hc:=bp hc)<;>(try simp(disch:=omega) only[BT,wrap64,AN]at hc)<;>try(exfalso;omega))|(intro nn hnn;generalize hg:A5 _ nn _=σ;refine CN hg fun hs=>?_;clear hg)|clear U K)<;>conv=>whnf)
       all_goals first
        | (refine aw (v:=v) (s:=s) (Di hm hn ?_) hs ?_;(simp[Qj, *];intros;omega);(repeat first|exact MJ _|apply List.Sublist.cons₂|apply List.Sublist.cons);done)
        | (refine aw (v:=v) (s:=s) (Di hm hn ?_) (hs.up (by assumption)) ?_;(simp[Qj, *];intros;omega);(repeat first|exact MJ _|apply List.Sublist.cons₂|apply List.Sublist.cons);done)
        | skip
       rotate_left 2
       ·refine aw (v:=v) (s:=s) (Di hm hn ?_) (hs.up (by assumption)) ?_
        ·simp only[Qj,show p.C1.getD m.gen.toNat 0=x by rw[D9,hx];rfl,decide_eq_false (show¬BQ m.fact≤x by omega),Bool.and_false]
        ·repeat first|exact MJ _|apply List.Sublist.cons₂|apply List.Sublist.cons
       all_goals
        have hx13:=R2 hh hx;have hgd:p.C1.getD m.gen.toNat 0=x:=by rw[D9,hx];rfl
        have hok:Qj p m=true:=by simp only[Qj,hgd,A9,Cf];exact⟨by omega,by omega,by omega,by omega,hfB,by assumption⟩
        have hgo:=fun s'=>ZS (s':=s') hm hn hok
        have hno:=Rh hm hn hok;rw[hgd]at hgo hno
       ·have hnb:Jz m.kind=(m.kind==4):=by simp[Jz, *]
        rw[hnb]at hgo hno;refine Bg ((Ts p (m.kind==4) hv m.node x s (by omega) (by omega) hl [.box n5 (BC (AR p))] σ (hs.less (.cons _ (.refl _)))).mono ?_);cases hw:CU p (m.kind==4) 12 m.node x s with
        | none=>
          clear hs;rintro r σ' ⟨rfl,s',hl',hs⟩
          conv=>whnf
          repeat'((first|(refine Z _ _ fun σ hsub=>?_;clear Z B Y A)|clear U K)<;>conv=>whnf)
          exact aw (v:=v) (s:=s') (hno hw) (hs.up (by assumption)) (.cons₂ _ (.cons₂ _ (MJ _)))
        | some s2=>
          clear hs;rintro r σ' ⟨rfl,hs⟩
          conv=>whnf
          repeat'((first|(apply si;intro A B Y Z)|(apply Y;clear Z B Y A)|(apply U;clear U K)|apply dr|refine⟨rfl,?_⟩|clear U K)<;>conv=>whnf)
          exact⟨hlt,s2,rfl,⟨(Je _ hw).trans hl,Lb _ (by omega) hw hge,hgo s2 hw⟩,hs⟩
       ·have hnb:Jz m.kind=true:=by simp[Jz, *]
        rw[hnb]at hgo hno;refine Bg ((Ts p true hv m.node x s (by omega) (by omega) hl [.box n5 (BC (AR p))] σ (hs.less (.cons _ (.refl _)))).mono ?_);cases hw:CU p true 12 m.node x s with
        | none=>
          clear hs;rintro r σ' ⟨rfl,s',hl',hs⟩
          conv=>whnf
          repeat'((first|(refine Z _ _ fun σ hsub=>?_;clear Z B Y A)|clear U K)<;>conv=>whnf)
          exact aw (v:=v) (s:=s') (hno hw) (hs.up (by assumption)) (.cons₂ _ (.cons₂ _ (MJ _)))
        | some s2=>
          clear hs;rintro r σ' ⟨rfl,hs⟩
          conv=>whnf
          repeat'((first|(apply si;intro A B Y Z)|(apply Y;clear Z B Y A)|(apply U;clear U K)|apply dr|refine⟨rfl,?_⟩|clear U K)<;>conv=>whnf)
          exact⟨hlt,s2,rfl,⟨(Je _ hw).trans hl,Lb _ (by omega) hw hge,hgo s2 hw⟩,hs⟩
    ·subst hke
     rw[List.drop_length,runM]at hn
     conv=>whnf
     repeat'((first|apply st|(apply sq;intro K U)|(apply si;intro A B Y Z)|(apply Y;clear Z B Y A)|(apply U;clear U K)|refine⟨rfl,?_⟩|refine⟨kZ,?_⟩|refine ix ?_|refine ld ?_|refine Cg fun σ hs=>?_|(refine fc (fun x hx hlt hc=>?_) (fun hk hc=>?_)<;>(try rw[hc])<;>clear hc)|(constructor<;>intro hc<;>(try rw[hc])<;>(replace hc:=bp hc)<;>try(exfalso;omega))|(intro nn hnn;generalize hg:A5 _ nn _=σ;refine CN hg fun hs=>?_;clear hg)|clear U K)<;>conv=>whnf)
     rw[J0]at hn;refine Bg ((Ts p false hv p.main 0 s (by omega) (by omega) hl [.box n5 (BC (AR p))] σ hs).mono ?_);cases hw:CU p false 12 p.main 0 s with
     | none=>
       rw[hw]at hn;clear hs;rintro r σ' ⟨rfl,s',hl',hs⟩
       conv=>whnf
       repeat'((first|(refine Z _ _ _ ?_;clear Z B Y A)|clear U K)<;>conv=>whnf)
       exact aw (v:=v) (s:=s') hn hs (.cons₂ _ (.cons₂ _ (MJ _)))
     | some s2=>
       rw[hw]at hn;have hge2:=Lb _ (by omega) hw hge;simp only[m9 hge2]at hn;clear hs;rintro r σ' ⟨rfl,hs⟩;have hct:=fun f=>D7 s2 f (-1)
       cases hyes:s2.contains (-1)with
       | true=>
         rw[hyes]at hct hn
         conv=>whnf
         repeat'((first|(apply si;intro A B Y Z)|(apply Y;clear Z B Y A)|(apply U;clear U K)|refine ld ?_|fail)<;>conv=>whnf)
         refine Pure.eM (hct false) (.cons (hs.IV 1 rfl) (.cons (.refl _) .nil)) rfl ?_
         conv=>whnf
         repeat'((first|(refine Z _ _ _ ?_;clear Z B Y A)|(refine C0 (fun hc=>?_) (fun hc=>?_)<;>(replace hc:=bp hc)<;>(try simp(disch:=omega) only[BT,wrap64,AN]at hc)<;>(try(cases hc;done)))|fail)<;>conv=>whnf)
         all_goals exact aw (v:=v) (s:=s2) hn (by first|exact hs|exact hs.up (by assumption)) (.cons₂ _ (.cons₂ _ (MJ _)))
       | false=>
         rw[hyes]at hct hn
         conv=>whnf
         repeat'((first|(apply si;intro A B Y Z)|(apply Y;clear Z B Y A)|(apply U;clear U K)|refine ld ?_|fail)<;>conv=>whnf)
         refine Pure.eM (hct false) (.cons (hs.IV 1 rfl) (.cons (.refl _) .nil)) rfl ?_
         conv=>whnf
         repeat'((first|(apply Y;clear Z B Y A)|(refine C0 (fun hc=>?_) (fun hc=>?_)<;>(replace hc:=bp hc)<;>(try simp(disch:=omega) only[BT,wrap64,AN]at hc)<;>(try(cases hc;done)))|fail)<;>conv=>whnf)
         all_goals exact szT (v:=v) hn hs (.cons₂ _ (.cons₂ _ (MJ _)))
end Go.Gl
namespace Go.Gl
variable {P:Program} {σ:AH}
def da {v:V} {Q Q':R→AH→Prop} (h:Ap σ v Q) (hq: ∀r σ,Q r σ→Q' r σ):Ap σ v Q':=by
 obtain⟨vf,s2,h1,h2,h3⟩:=h;exact⟨vf,s2,h1,h2,hq _ _ h3⟩
def DI.more {α S:Type} {g:FuncId} {fi ca:List V} {ea:α→V} {H:S→List At} {stp:α→S→Bool×S} {D:α→S→Prop} (h:DI P (.f (.func g) fi ca) ea H stp D) (pre:List At):DI P (.f (.func g) fi ca) ea (fun s=>pre++H s) stp D:=fun y s hd σ hs=>by
 have h1:B3 P g (fi++[ea y]++ca) (H s) fun r post=>r= .ret (.b (stp y s).1)∧post=H (stp y s).2:=fun σ hs=>A7.mono (h y s hd σ hs) fun r σ' ⟨e,h2⟩=>⟨_,⟨e,rfl⟩,h2⟩
 refine Bg (h1.use (rest:=pre) (hs.perm UB) ?_);rintro r post σ' ⟨rfl,rfl⟩ hs';exact⟨rfl,hs'.perm UB⟩
def Na {α S:Type} (P:Program) (x:V) (ea:α→V) (H:S→List At) (f:α→Bool) (J:S→Prop) (D:α→Prop):Prop:=
 ∀y s,D y→J s→ ∀σ,Sat σ (H s)→Aw P x [ea y] σ fun r σ'=>r= .ret (.b (f y))∧ ∃s',J s'∧Sat σ' (H s')
def Na.use {α S:Type} {x:V} {ea:α→V} {H:S→List At} {f:α→Bool} {J:S→Prop} {D:α→Prop} (h:Na P x ea H f J D) {y:α} {s:S} (hd:D y) (hj:J s) (hs:Sat σ (H s)) {k kp:V→AH→Prop} (hk: ∀s' σ',J s'→Sat σ' (H s')→k (.b (f y)) σ'):Aw P x [ea y] σ (qk k kp):=
 (h y s hd hj σ hs).mono fun r σ' ⟨e,s',hj',h'⟩=>by rw[e];exact hk s' σ' hj' h'
def NY {α:Type} (f:α→Bool):List α→Nat→Int
 | [],_=> -1
 | y::r,k=>if f y then(k:Int)else NY f r (k+1)
def V4 {α:Type} (f:α→Bool): ∀(xs:List α) (k:Nat),decide (NY f xs k≥0)=xs.any f
 | [],_=>rfl
 | y::r,k=>by
   rw[NY,SY];cases f y
   ·exact V4 f r (k+1)
   ·simp
end Go.Gl
