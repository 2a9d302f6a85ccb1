import Derived.Test.YtcfkfhaedllcpaaGreatProg
import Derived.KernelRfl
import Derived.Test.YtcfkfhaedllcpaaGreatU14
import Derived.Test.YtcfkfhaedllcpaaGreatU30
set_option linter.all false
set_option linter.defProp false
set_option maxHeartbeats 8000000
noncomputable section
namespace Go.Gl
variable {P:Program}
abbrev OR (sz b:Nat):AK:=(.seq [0] (.Bh [⟨(some 2),.mv (.c (.l [] true)),none⟩])
 (.seq [0] (.seq [0,4] (.Bh [⟨(some 3),.mv (.t 0),none⟩,
  ⟨(some 4),.TU 1 false (.t 3),none⟩])
 (.cond (.t 4)
 (.seq [2] (.Bh [⟨(some 2),.mv (.c (.l [] true)),none⟩])
 .ret)
 .skip))
 (.seq [2] (.Bh [⟨(some 5),.Cr 1 0 [] [],none⟩,
  ⟨(some 6),.mv (.t 0),none⟩,
  ⟨(some 7),.append sz b (.t 5) (.t 6),none⟩,
  ⟨(some 2),.mv (.t 7),none⟩])
 .ret)))
def UB {q:Nat} {neg:Bool} {x:V} {k k':V->Prop} (h:Gf q neg x k) (hm: ∀t,k (.b t)->k' (.b t)):Gf q neg x k':=by
 unfold Gf at *;split at h<;>first|exact hm _ h|exact⟨fun e t=>hm _ (h.1 e t),fun e=>hm _ (h.2 e)⟩|exact h.elim
def Jz {v:V} {Z:AE} {Q:R->AE->Prop} (h:Q (.ret v) Z):A3 Z v Q:=⟨v,Z,fun _ _ h=>h,.refl _,h⟩
def WH {Y:Ren} {f:Bool}:RV Y (.l [] f) (.l [] f):=by simp only[RV];exact⟨[],rfl,rfl⟩
section
attribute [local irreducible] BD A3 Au AS AL Ao AU AV AM An AP AT BF BM Af BK Aw W Gf
def ZR {sz b:Nat} {v:V} {Z:AE} {Q:R->AE->Prop} (h1:Gf 1 false v fun t=>(t= .b true->A3 Z (.l [] true) Q)/\(t= .b false->AL b Z sz (.l [] true) v fun v' Z'=>A3 Z' v' Q)) :
    W P (OR sz b) (O6 [.t 2] Q) [(0,v)] Z:=by
 conv=>whnf
 repeat((first|refine⟨rfl,?_⟩|refine⟨kZ,?_⟩|refine Hx ?_|refine Hy ?_|refine HC ?_|refine HB ?_|refine DX ?_|refine Hb ?_|(refine Cs ?_;intro K U)|(refine By ?_;intro KR KP hR hP)|(refine hR _ _ ?_;clear hP;clear KP;clear hR;clear KR)|(refine hP _ _ _ ?_;clear hP;clear KP;clear hR;clear KR)|refine DE ?_|refine EX ?_|refine Hz ?_|refine DZ ?_|refine Cw ?_|refine EW ?_|(refine F9 ?_;intro KR KP hR hP)|(refine hP _ _ fun Z hsub=>?_;clear hP;clear KP;clear hR;clear KR)|refine Fh ?_|refine Fi ?_|(apply U;clear U K)|(clear U K));try(conv=>whnf))
 refine UB h1 fun t ht=>?_
 conv=>whnf
 repeat((first|refine⟨rfl,?_⟩|refine⟨kZ,?_⟩|refine Hx ?_|refine Hy ?_|refine HC ?_|refine HB ?_|refine DX ?_|refine Hb ?_|(refine Cs ?_;intro K U)|(refine By ?_;intro KR KP hR hP)|(refine hR _ _ ?_;clear hP;clear KP;clear hR;clear KR)|(refine hP _ _ _ ?_;clear hP;clear KP;clear hR;clear KR)|refine DE ?_|refine EX ?_|refine Hz ?_|refine DZ ?_|refine Cw ?_|refine EW ?_|(refine F9 ?_;intro KR KP hR hP)|(refine hP _ _ fun Z hsub=>?_;clear hP;clear KP;clear hR;clear KR)|refine Fh ?_|refine Fi ?_|(apply U;clear U K)|(clear U K));try(conv=>whnf))
 refine⟨fun h=>?_,fun h=>?_⟩
 .subst h
  conv=>whnf
  repeat((first|refine⟨rfl,?_⟩|refine⟨kZ,?_⟩|refine Hx ?_|refine Hy ?_|refine HC ?_|refine HB ?_|refine DX ?_|refine Hb ?_|(refine Cs ?_;intro K U)|(refine By ?_;intro KR KP hR hP)|(refine hR _ _ ?_;clear hP;clear KP;clear hR;clear KR)|(refine hP _ _ _ ?_;clear hP;clear KP;clear hR;clear KR)|refine DE ?_|refine EX ?_|refine Hz ?_|refine DZ ?_|refine Cw ?_|refine EW ?_|(refine F9 ?_;intro KR KP hR hP)|(refine hP _ _ fun Z hsub=>?_;clear hP;clear KP;clear hR;clear KR)|refine Fh ?_|refine Fi ?_|(apply U;clear U K)|(clear U K));try(conv=>whnf))
  exact ht.1 rfl
 .subst h
  conv=>whnf
  repeat((first|refine⟨rfl,?_⟩|refine⟨kZ,?_⟩|refine Hx ?_|refine Hy ?_|refine HC ?_|refine HB ?_|refine DX ?_|refine Hb ?_|(refine Cs ?_;intro K U)|(refine By ?_;intro KR KP hR hP)|(refine hR _ _ ?_;clear hP;clear KP;clear hR;clear KR)|(refine hP _ _ _ ?_;clear hP;clear KP;clear hR;clear KR)|refine DE ?_|refine EX ?_|refine Hz ?_|refine DZ ?_|refine Cw ?_|refine EW ?_|(refine F9 ?_;intro KR KP hR hP)|(refine hP _ _ fun Z hsub=>?_;clear hP;clear KP;clear hR;clear KR)|refine Fh ?_|refine Fi ?_|(apply U;clear U K)|(clear U K));try(conv=>whnf))
  refine I5 (ht.2 rfl) fun v' Z' hq=>?_
  conv=>whnf
  repeat((first|refine⟨rfl,?_⟩|refine⟨kZ,?_⟩|refine Hx ?_|refine Hy ?_|refine HC ?_|refine HB ?_|refine DX ?_|refine Hb ?_|(refine Cs ?_;intro K U)|(refine By ?_;intro KR KP hR hP)|(refine hR _ _ ?_;clear hP;clear KP;clear hR;clear KR)|(refine hP _ _ _ ?_;clear hP;clear KP;clear hR;clear KR)|refine DE ?_|refine EX ?_|refine Hz ?_|refine DZ ?_|refine Cw ?_|refine EW ?_|(refine F9 ?_;intro KR KP hR hP)|(refine hP _ _ fun Z hsub=>?_;clear hP;clear KP;clear hR;clear KR)|refine Fh ?_|refine Fi ?_|(apply U;clear U K)|(clear U K));try(conv=>whnf))
  exact hq
end
def XK {f : FuncId} {n sz b:Nat} (h: ∀(args:List V) (Z:AE) (Q:R->AE->Prop),args.length<=n->T P (OR sz b) (O6 [.t 2] Q) (Al 0 args) Z->BD P f args Z Q) (hn:1<=n) (hb:b<=131072:=by decide):Ga P f (.TZ (RA sz)):=by
 intro vs s r s' hc Y vs' Z hv hs Q hQ
 have main: ∀ {v v':V} {ys:List (List V)},vs= [v]->vs'= [v']->RV Y v v'->GP s sz v=some ys->(ys= []->r= .ret (.l [] true)/\s'=s)->
  (ys≠[]->(ys.all (fun e=>e.all Bm)&&Nat.ble ys.length 1073741824)=true/\s.nx<=JK/\r= .ret (.sl s.nx ys.length 0)/\s'=⟨s.nx+1,Tr.set (some (.arr sz ys)) Am s.t s.nx⟩)->
  (∀k:V->Prop,(ys= []-> ∀t,k (.b t))->(ys≠[]->k (.b false))->Gf 1 false v' k)->BD P f vs' Z Q:=fun {v v' ys} e1 e2 hr hy h0 h1 hk=>by
  subst e1;subst e2;refine h _ _ _ hn (ah (ZR (hk _ (fun e t=>⟨fun _=>?_,fun _=>?_⟩) fun e=>⟨fun h=>(by cases h),fun _=>?_⟩)))
  .obtain⟨rfl,rfl⟩:=h0 e
   exact Jz (hQ Y _ Z (.refl _) ⟨_,WH,rfl⟩ hs)
  .obtain⟨rfl,rfl⟩:=h0 e
   refine Ff hs hy hr fun ys' hr'=>?_
   have:ys'= []:=by
    have:=hr'.len;rw[e]at this;exact XY.1 this
   subst this;exact⟨fun e he=>(by cases he),fun e he=>(by cases he),⟨Nat.zero_le _,by simp⟩,fun _=>Jz (hQ Y _ Z (.refl _) ⟨_,WH,rfl⟩ hs),fun h=>absurd rfl h⟩
  .obtain⟨g1,g2,rfl,rfl⟩:=h1 e
   simp only[Ba]at g1;refine Ff hs hy hr fun ys' hr'=>?_
   have hl:=hr'.len;have hne:ys'≠[]:=fun e'=>e (by rw[e']at hl;exact XY.1 hl.symm)
   refine⟨Ix g1.1 hr',fun e he=>(by cases he),?_,fun e=>absurd e hne,fun _=>⟨rfl,fun n cap hn0 hc=>?_⟩⟩
   .have:=Nt (b:=b) (L:=ys.length) (by simp only[fZ,Ba];exact⟨g1.2,Nat.ble_eq_true_of_le hb⟩)
    simp only[List.length_nil,Ex];rw[hl];exact this
   .obtain⟨Y',q1,q2,q3⟩:=hs.new g2 hn0 cap (o:= .arr sz ys) (o':= .arr sz ys' cap) ⟨_,hr',rfl⟩
    refine Jz (hQ Y' _ _ q1 ?_ ?_)
    .refine⟨_,?_,rfl⟩
     simp only[RV];exact⟨_,q2,by simp[hl]⟩
    .simpa using q3
 have parts: ∀ {ys:List (List V)},(match some ys with
  | some []=>some (R.ret (V.l [] true),s)
  | some (y::ys)=>bif (y::ys).all (fun e=>e.all Bm)&&Nat.ble (y::ys).length 1073741824 then s.new (.arr sz (y::ys)) fun i s'=>some (.ret (.sl i (y::ys).length 0),s')else none
  | none=>none)=some (r,s')->(ys= []->r= .ret (.l [] true)/\s'=s)/\
    (ys≠[]->(ys.all (fun e=>e.all Bm)&&Nat.ble ys.length 1073741824)=true/\s.nx<=JK/\r= .ret (.sl s.nx ys.length 0)/\s'=⟨s.nx+1,Tr.set (some (.arr sz ys)) Am s.t s.nx⟩):=fun {ys} hc=>by
  cases ys with
  | nil=>cases hc;exact⟨fun _=>⟨rfl,rfl⟩,fun h=>absurd rfl h⟩
  | cons y ys=>
    obtain⟨h1,h2⟩:=AN hc;obtain⟨h3,h4⟩:=St.F1 h2;cases h4;exact⟨fun h=>(by cases h),fun _=>⟨h1,h3,rfl,rfl⟩⟩
 unfold RA at hc;split at hc
 .rename_i es f
  obtain⟨v',l',k1,k2,rfl⟩:=hv;obtain rfl:l'= []:=k2;cases hy:GP s sz (.l es f)with
  | none=>rw[hy]at hc;cases hc
  | some ys=>
    rw[hy]at hc;obtain⟨p1,p2⟩:=parts hc;refine main rfl rfl k1 hy p1 p2 fun k h0 h1=>?_
    simp only[RV]at k1;obtain⟨es',k3,rfl⟩:=k1;have hl:=(EB.1 k3).len
    have he:ys=es:=by
     simp only[GP]at hy;exact(Option.some.inj (AN hy).2).symm
    subst he;unfold Gf;exact⟨fun e=>h0 (by rw[e]at hl;exact XY.1 hl.symm),fun e=>h1 fun e'=>e (by rw[e']at hl;exact XY.1 hl)⟩
 .rename_i m len c
  obtain⟨v',l',k1,k2,rfl⟩:=hv;obtain rfl:l'= []:=k2;cases hy:GP s sz (.sl m len c)with
  | none=>rw[hy]at hc;cases hc
  | some ys=>
    rw[hy]at hc;obtain⟨p1,p2⟩:=parts (ys:=ys) hc;refine main rfl rfl k1 hy p1 p2 fun k h0 h1=>?_
    simp only[RV]at k1;obtain⟨m',k3,rfl⟩:=k1;unfold Gf;show k (.b false);by_cases e:ys= []
    .exact h0 e false
    .exact h1 e
 .cases hc
end Go.Gl
namespace Go.Gl
variable {P:Program}
structure Oi (P:Program) where
 k:Nat
 fs:NZ
 ok:Ga P k fs
def fo:List (Oi P)->Tr NZ
 | []=> .leaf
 | e::r=>bif Nat.ble e.k 1000000 then Tr.set (some e.fs) Am (fo r) e.k else fo r
def Qy: ∀l:List (Oi P),SQ (fun i=>Ga P i) id (fo l)
 | []=>ZY
 | e ::r=>by
   unfold fo;cases h:Nat.ble e.k 1000000 with
   | false=>exact Qy r
   | true=>
     have hk:e.k+1<2 ^ Am:=by
      have:=Nat.le_of_ble_eq_true h;have e2:(2:Nat) ^ Am=1099511627776:=by decide
      omega
     intro j a ha;rw[cond_true,Tr.C1 Am _ _ hk]at ha;split at ha
     .next e1=>subst e1;cases ha;exact e.ok
     .exact Qy r j a ha
def eX {k n:Nat} {fn:Func} {ac:AK} {rs:List RS} (pu fz:List Nat) (hf:P.funcs[k]? =some fn)
    (hn:fn.ntmps=n:=by conv=>lhs;reduce)
    (hr:JH P fn.results.toList=some rs:=by conv=>lhs;reduce)
    (hc:TW (rs.map ff) ((fn.body.bind (res P fn.ntmps pu fz)).getD .skip) [] (rs.map ff)=ac:=by conv=>lhs;reduce)
    (hb:fn.body.bind (res P fn.ntmps pu fz)=some (erase ac):=by kernel_rfl) (hok:okF P k=true:=by kernel_rfl):Oi P:=
 ⟨k,.fn n ac rs,fun _ _ _ ha h=>CO hf hok hb hr (hn ▸ ha) h⟩
def eZ {k n:Nat} {fn:Func} {ac:AK} {rs:List RS} (pu fz:List Nat) (hf:P.funcs[k]? =some fn)
    (hn:fn.ntmps=n:=by conv=>lhs;reduce)
    (hr:JH P fn.results.toList=some rs:=by conv=>lhs;reduce)
    (hc:TW (rs.map ff) ((fn.body.bind (res P fn.ntmps pu fz)).getD .skip) [] (rs.map ff)=ac:=by conv=>lhs;reduce)
    (hb:fn.body.bind (res P fn.ntmps pu fz)=some (erase ac):=by kernel_rfl) (hok:okF P k=true:=by kernel_rfl):Oi P:=
 ⟨k,.fp n ac rs,fun _ _ _ ha h=>CO hf hok hb hr (hn ▸ ha) h⟩
def eC {k:Nat} {fn:Func} (sz b:Nat) (hf:P.funcs[k]? =some fn) (hb:fn.body.bind (res P fn.ntmps [] [])=some (erase (OR sz b)):=by kernel_rfl)
    (hr:JH P fn.results.toList=some [.t 2]:=by kernel_rfl) (hok:okF P k=true:=by kernel_rfl) (hn:Nat.ble 1 fn.ntmps=true:=by kernel_rfl) (hs:Nat.ble b 131072=true:=by kernel_rfl):Oi P:=
 ⟨k,.TZ (RA sz),XK (sz:=sz) (b:=b) (fun _ _ _ ha h=>CO hf hok hb hr ha h) (Nat.le_of_ble_eq_true hn) (Nat.le_of_ble_eq_true hs)⟩
structure MM (P:Program) where
 m:Dh
 ok:FP P m
def MM.add (M:MM P) {f:Nat} {vs:List V} {v:V} (h:Bi vs=true/\A2 v=true/\Pure P f vs v):MM P:=⟨bJ M.m f vs v,Zb M.ok h⟩
end Go.Gl
namespace Go.Gl
open Go.Proofs
set_option maxRecDepth 100000
abbrev gT:AK:=(.seq [] (.Bh [⟨(some 0),.mv (.c (.b false)),none⟩])
 (.seq [1] (.Bh [⟨(some 15),.call 42 [(.c (.b false))],none⟩,
  ⟨(some 1),.alloc [(.l [] true),(.i .i64 0),(.l [] true),(.l [] true),(.l [] true),(.i .i64 0)],none⟩,
  ⟨none,.store 6 (.t 1) (.t 15),none⟩])
 (.seq [1,2,3] (.Bh [⟨(some 17),.load (some 6) (.t 1),none⟩,
  ⟨(some 18),.call 24 [(.t 17)],none⟩,
  ⟨(some 16),.mv (.t 18),none⟩,
  ⟨(some 19),.extract 0 (.t 16),none⟩,
  ⟨(some 20),.extract 1 (.t 16),none⟩,
  ⟨(some 2),.alloc [(.l [] true),(.l [] true),(.l [] true)],none⟩,
  ⟨none,.store 3 (.t 2) (.t 19),none⟩,
  ⟨(some 3),.mv (.t 20),none⟩])
 (.seq [1,3,4,5] (.Bh [⟨(some 22),.load (some 6) (.t 1),none⟩,
  ⟨(some 23),.load (some 3) (.t 2),none⟩,
  ⟨(some 24),.call 18 [(.t 22),(.t 23),(.c (.i .i64 9))],none⟩,
  ⟨(some 21),.mv (.t 24),none⟩,
  ⟨(some 25),.extract 0 (.t 21),none⟩,
  ⟨(some 26),.extract 1 (.t 21),none⟩,
  ⟨(some 4),.alloc [(.i .i64 0),(.i .i64 0),(.i .i64 0),(.l [] true),(.l [] true),(.i .i64 0)],none⟩,
  ⟨none,.store 6 (.t 4) (.t 25),none⟩,
  ⟨(some 5),.mv (.t 26),none⟩])
 (.seq [1,3,4,5,6,7] (.DH [1,3,4,5,6,7] [⟨0,⟨(some 28),.load (some 6) (.t 1),none⟩,[],[]⟩,
  ⟨1,⟨(some 29),.build [(.i .i64 0),(.i .i64 0),(.i .i64 0)] [(0,1,(.c (.i .i64 1))),(2,1,(.c (.i .i64 2)))],none⟩,[],[]⟩,
  ⟨2,⟨(some 30),.Cr 1 2 [(.i .i64 0)] [(0,(.c (.i .i64 (-1)))),(1,(.c (.i .i64 (-1))))],none⟩,[],[]⟩,
  ⟨3,⟨(some 31),.Fa 43 [(.t 29),(.t 30)],none⟩,[],[]⟩,
  ⟨4,⟨(some 32),.call 18 [(.t 28),(.t 31),(.c (.i .i64 9))],none⟩,[],[]⟩,
  ⟨5,⟨(some 27),.mv (.t 32),none⟩,[],[]⟩,
  ⟨6,⟨(some 33),.extract 0 (.t 27),none⟩,[],[]⟩,
  ⟨7,⟨(some 34),.extract 1 (.t 27),none⟩,[],[]⟩,
  ⟨8,⟨(some 6),.alloc [(.i .i64 0),(.i .i64 0),(.i .i64 0),(.l [] true),(.l [] true),(.i .i64 0)],none⟩,[],[]⟩,
  ⟨9,⟨none,.store 6 (.t 6) (.t 33),none⟩,[],[]⟩,
  ⟨10,⟨(some 7),.mv (.t 34),none⟩,[],[]⟩])
 (.seq [1,3,4,5,6,7,8,9] (.DH [1,3,4,5,6,7,8,9] [⟨0,⟨(some 36),.load (some 6) (.t 1),none⟩,[],[]⟩,
  ⟨1,⟨(some 37),.build [(.i .i64 0),(.i .i64 0),(.i .i64 0)] [(0,1,(.c (.i .i64 2))),(2,1,(.c (.i .i64 1)))],none⟩,[],[]⟩,
  ⟨2,⟨(some 38),.Cr 1 2 [(.i .i64 0)] [(0,(.c (.i .i64 (-1)))),(1,(.c (.i .i64 (-1))))],none⟩,[],[]⟩,
  ⟨3,⟨(some 39),.Fa 43 [(.t 37),(.t 38)],none⟩,[],[]⟩,
  ⟨4,⟨(some 40),.call 18 [(.t 36),(.t 39),(.c (.i .i64 9))],none⟩,[],[]⟩,
  ⟨5,⟨(some 35),.mv (.t 40),none⟩,[],[]⟩,
  ⟨6,⟨(some 41),.extract 0 (.t 35),none⟩,[],[]⟩,
  ⟨7,⟨(some 42),.extract 1 (.t 35),none⟩,[],[]⟩,
  ⟨8,⟨(some 8),.alloc [(.i .i64 0),(.i .i64 0),(.i .i64 0),(.l [] true),(.l [] true),(.i .i64 0)],none⟩,[],[]⟩,
  ⟨9,⟨none,.store 6 (.t 8) (.t 41),none⟩,[],[]⟩,
  ⟨10,⟨(some 9),.mv (.t 42),none⟩,[],[]⟩])
 (.seq [1] (.seq [1,94] (.DH [1,94] (⟨0,⟨(some 43),.mv (.t 3),none⟩,[],[]⟩::
  ⟨1,⟨(some 44),.bin .neq (.t 43) (.c (.i .i64 0)),none⟩,[],[]⟩::
  ⟨2,⟨(some 45),.mv (.t 44),none⟩,[],[]⟩::
  ⟨3,⟨(some 46),.mv (.t 5),(some (45,false))⟩,[],[]⟩::
  ⟨4,⟨(some 47),.bin .neq (.t 46) (.c (.i .i64 0)),(some (45,false))⟩,[],[]⟩::
  ⟨5,⟨(some 48),.pick (.t 45) (.c (.b true)) (.t 47),none⟩,[],[]⟩::
  ⟨6,⟨(some 49),.mv (.t 48),none⟩,[],[]⟩::
  ⟨7,⟨(some 50),.mv (.t 7),(some (49,false))⟩,[],[]⟩::
  ⟨8,⟨(some 51),.bin .neq (.t 50) (.c (.i .i64 0)),(some (49,false))⟩,[],[]⟩::
  ⟨9,⟨(some 52),.pick (.t 49) (.c (.b true)) (.t 51),none⟩,[],[]⟩::
  ⟨10,⟨(some 53),.mv (.t 52),none⟩,[],[]⟩::
  ⟨11,⟨(some 54),.mv (.t 9),(some (53,false))⟩,[],[]⟩::
  ⟨12,⟨(some 55),.bin .neq (.t 54) (.c (.i .i64 0)),(some (53,false))⟩,[],[]⟩::
  ⟨13,⟨(some 56),.pick (.t 53) (.c (.b true)) (.t 55),none⟩,[],[]⟩::
  ⟨14,⟨(some 57),.mv (.t 56),none⟩,[],[]⟩::
  ⟨15,⟨(some 58),.BE 1 (.t 4),(some (57,false))⟩,[],[]⟩::
  ⟨16,⟨(some 59),.load (some 2) (.t 58),(some (57,false))⟩,[],[]⟩::
  ⟨17,⟨(some 60),.call 44 [(.c (.i .i64 5))],(some (57,false))⟩,[16],[⟨(some 59),.load (some 2) (.t 58),(some (57,false))⟩]⟩::
  ⟨18,⟨(some 61),.Oo 2 true (.t 59) (.t 60),(some (57,false))⟩,[],[]⟩::
  ⟨19,⟨(some 62),.pick (.t 57) (.c (.b true)) (.t 61),none⟩,[],[]⟩::
  ⟨20,⟨(some 63),.mv (.t 62),none⟩,[],[]⟩::
  ⟨21,⟨(some 64),.BE 3 (.t 4),(some (63,false))⟩,[],[]⟩::
  ⟨22,⟨(some 65),.load none (.t 64),(some (63,false))⟩,[],[]⟩::
  ⟨23,⟨(some 66),.len (.t 65),(some (63,false))⟩,[],[]⟩::
  ⟨24,⟨(some 67),.bin .neq (.t 66) (.c (.i .i64 1)),(some (63,false))⟩,[],[]⟩::
  ⟨25,⟨(some 68),.pick (.t 63) (.c (.b true)) (.t 67),none⟩,[],[]⟩::
  ⟨26,⟨(some 69),.mv (.t 68),none⟩,[],[]⟩::
  ⟨27,⟨(some 70),.BE 1 (.t 6),(some (69,false))⟩,[],[]⟩::
  ⟨28,⟨(some 71),.load (some 2) (.t 70),(some (69,false))⟩,[],[]⟩::
  ⟨29,⟨(some 72),.call 44 [(.c (.i .i64 15))],(some (69,false))⟩,[28],[⟨(some 71),.load (some 2) (.t 70),(some (69,false))⟩]⟩::
  ⟨30,⟨(some 73),.Oo 2 true (.t 71) (.t 72),(some (69,false))⟩,[],[]⟩::
  ⟨31,⟨(some 74),.pick (.t 69) (.c (.b true)) (.t 73),none⟩,[],[]⟩::
  ⟨32,⟨(some 75),.mv (.t 74),none⟩,[],[]⟩::
  ⟨33,⟨(some 76),.BE 3 (.t 6),(some (75,false))⟩,[],[]⟩::
  ⟨34,⟨(some 77),.load none (.t 76),(some (75,false))⟩,[],[]⟩::
  ⟨35,⟨(some 78),.len (.t 77),(some (75,false))⟩,[],[]⟩::
  ⟨36,⟨(some 79),.bin .neq (.t 78) (.c (.i .i64 2)),(some (75,false))⟩,[],[]⟩::
  ⟨37,⟨(some 80),.pick (.t 75) (.c (.b true)) (.t 79),none⟩,[],[]⟩::
  ⟨38,⟨(some 81),.mv (.t 80),none⟩,[],[]⟩::
  ⟨39,⟨(some 82),.BE 3 (.t 6),(some (81,false))⟩,[],[]⟩::
  ⟨40,⟨(some 83),.load none (.t 82),(some (81,false))⟩,[],[]⟩::
  ⟨41,⟨(some 84),.Eg 3 none (.t 83) (.c (.i .i64 1)),(some (81,false))⟩,[],[]⟩::
  ⟨42,⟨(some 85),.BE 1 (.t 84),(some (81,false))⟩,[],[]⟩::
  ⟨43,⟨(some 86),.load none (.t 85),(some (81,false))⟩,[],[]⟩::
  ⟨44,⟨(some 87),.bin .neq (.t 86) (.c (.i .i64 0)),(some (81,false))⟩,[],[]⟩::
  ⟨45,⟨(some 88),.pick (.t 81) (.c (.b true)) (.t 87),none⟩,[],[]⟩::
  ⟨46,⟨(some 89),.mv (.t 88),none⟩,[],[]⟩::
  ⟨47,⟨(some 90),.BE 1 (.t 8),(some (89,false))⟩,[],[]⟩::
  ⟨48,⟨(some 91),.load (some 2) (.t 90),(some (89,false))⟩,[],[]⟩::
  ⟨49,⟨(some 92),.call 44 [(.c (.i .i64 10))],(some (89,false))⟩,[48],[⟨(some 91),.load (some 2) (.t 90),(some (89,false))⟩]⟩::
  ⟨50,⟨(some 93),.Oo 2 true (.t 91) (.t 92),(some (89,false))⟩,[],[]⟩::
  ⟨51,⟨(some 94),.pick (.t 89) (.c (.b true)) (.t 93),none⟩,[],[]⟩:: []))
 (.cond (.t 94)
 (.seq [0] (.Bh [⟨(some 0),.mv (.c (.b false)),none⟩])
 .ret)
 .skip))
 (.seq [1,3,10] (.Bh [⟨(some 96),.call 42 [(.c (.b true))],none⟩,
  ⟨(some 97),.call 45 [],none⟩,
  ⟨(some 98),.Cr 1 2 [(.i .i64 0)] [(0,(.c (.i .i64 (-1)))),(1,(.c (.i .i64 0)))],none⟩,
  ⟨(some 99),.Fa 43 [(.t 97),(.t 98)],none⟩,
  ⟨(some 100),.call 18 [(.t 96),(.t 99),(.c (.i .i64 9))],none⟩,
  ⟨(some 95),.mv (.t 100),none⟩,
  ⟨(some 101),.extract 0 (.t 95),none⟩,
  ⟨(some 102),.extract 1 (.t 95),none⟩,
  ⟨(some 10),.alloc [(.i .i64 0),(.i .i64 0),(.i .i64 0),(.l [] true),(.l [] true),(.i .i64 0)],none⟩,
  ⟨none,.store 6 (.t 10) (.t 101),none⟩,
  ⟨(some 3),.mv (.t 102),none⟩])
 (.seq [3,5,10,11,12] (.DH [3,5,10,11,12] [⟨0,⟨(some 104),.load (some 6) (.t 1),none⟩,[],[]⟩,
  ⟨1,⟨(some 105),.build [(.i .i64 0),(.i .i64 0),(.i .i64 0)] [(0,1,(.c (.i .i64 2))),(1,1,(.c (.i .i64 1))),(2,1,(.c (.i .i64 1)))],none⟩,[],[]⟩,
  ⟨2,⟨(some 106),.Cr 1 2 [(.i .i64 0)] [(0,(.c (.i .i64 (-1)))),(1,(.c (.i .i64 (-1))))],none⟩,[],[]⟩,
  ⟨3,⟨(some 107),.Fa 43 [(.t 105),(.t 106)],none⟩,[],[]⟩,
  ⟨4,⟨(some 108),.Cr 1 2 [(.i .i64 0)] [(0,(.c (.i .i64 0))),(1,(.c (.i .i64 1)))],none⟩,[],[]⟩,
  ⟨5,⟨(some 109),.call 13 [(.t 104),(.t 107),(.t 108)],none⟩,[],[]⟩,
  ⟨6,⟨(some 103),.mv (.t 109),none⟩,[],[]⟩,
  ⟨7,⟨(some 110),.extract 0 (.t 103),none⟩,[],[]⟩,
  ⟨8,⟨(some 111),.extract 1 (.t 103),none⟩,[],[]⟩,
  ⟨9,⟨(some 112),.extract 2 (.t 103),none⟩,[],[]⟩,
  ⟨10,⟨(some 11),.mv (.t 110),none⟩,[],[]⟩,
  ⟨11,⟨(some 12),.mv (.t 111),none⟩,[],[]⟩,
  ⟨12,⟨(some 5),.mv (.t 112),none⟩,[],[]⟩])
 (.seq [3,5,7,10,11,12,13,14] (.Bh [⟨(some 114),.call 44 [(.c (.i .i64 4))],none⟩,
  ⟨(some 115),.call 46 [],none⟩,
  ⟨(some 116),.call 44 [(.c (.i .i64 2))],none⟩,
  ⟨(some 117),.Cr 2 3 [(.i .i64 0),(.i .i64 0)] [(0,(.t 114)),(1,(.t 115)),(2,(.t 116))],none⟩,
  ⟨(some 118),.call 15 [(.c (.i .i64 5)),(.t 117)],none⟩,
  ⟨(some 113),.mv (.t 118),none⟩,
  ⟨(some 119),.extract 0 (.t 113),none⟩,
  ⟨(some 120),.extract 1 (.t 113),none⟩,
  ⟨(some 121),.extract 2 (.t 113),none⟩,
  ⟨(some 13),.alloc [(.i .i64 0),(.i .i64 0)],none⟩,
  ⟨none,.store 2 (.t 13) (.t 119),none⟩,
  ⟨(some 14),.mv (.t 120),none⟩,
  ⟨(some 7),.mv (.t 121),none⟩])
 (.seq [0] (.DH [0] (⟨0,⟨(some 122),.mv (.t 3),none⟩,[],[]⟩::
  ⟨1,⟨(some 123),.bin .eql (.t 122) (.c (.i .i64 0)),none⟩,[],[]⟩::
  ⟨2,⟨(some 124),.mv (.t 123),none⟩,[],[]⟩::
  ⟨3,⟨(some 125),.mv (.t 5),(some (124,true))⟩,[],[]⟩::
  ⟨4,⟨(some 126),.bin .eql (.t 125) (.c (.i .i64 0)),(some (124,true))⟩,[],[]⟩::
  ⟨5,⟨(some 127),.pick (.t 124) (.t 126) (.c (.b false)),none⟩,[],[]⟩::
  ⟨6,⟨(some 128),.mv (.t 127),none⟩,[],[]⟩::
  ⟨7,⟨(some 129),.mv (.t 7),(some (128,true))⟩,[],[]⟩::
  ⟨8,⟨(some 130),.bin .eql (.t 129) (.c (.i .i64 0)),(some (128,true))⟩,[],[]⟩::
  ⟨9,⟨(some 131),.pick (.t 128) (.t 130) (.c (.b false)),none⟩,[],[]⟩::
  ⟨10,⟨(some 132),.mv (.t 131),none⟩,[],[]⟩::
  ⟨11,⟨(some 133),.BE 1 (.t 10),(some (132,true))⟩,[],[]⟩::
  ⟨12,⟨(some 134),.load (some 2) (.t 133),(some (132,true))⟩,[],[]⟩::
  ⟨13,⟨(some 135),.call 44 [(.c (.i .i64 101))],(some (132,true))⟩,[12],[⟨(some 134),.load (some 2) (.t 133),(some (132,true))⟩]⟩::
  ⟨14,⟨(some 136),.Oo 2 false (.t 134) (.t 135),(some (132,true))⟩,[],[]⟩::
  ⟨15,⟨(some 137),.pick (.t 132) (.t 136) (.c (.b false)),none⟩,[],[]⟩::
  ⟨16,⟨(some 138),.mv (.t 137),none⟩,[],[]⟩::
  ⟨17,⟨(some 139),.BE 3 (.t 10),(some (138,true))⟩,[],[]⟩::
  ⟨18,⟨(some 140),.load none (.t 139),(some (138,true))⟩,[],[]⟩::
  ⟨19,⟨(some 141),.len (.t 140),(some (138,true))⟩,[],[]⟩::
  ⟨20,⟨(some 142),.bin .eql (.t 141) (.c (.i .i64 1)),(some (138,true))⟩,[],[]⟩::
  ⟨21,⟨(some 143),.pick (.t 138) (.t 142) (.c (.b false)),none⟩,[],[]⟩::
  ⟨22,⟨(some 144),.mv (.t 143),none⟩,[],[]⟩::
  ⟨23,⟨(some 145),.BE 3 (.t 10),(some (144,true))⟩,[],[]⟩::
  ⟨24,⟨(some 146),.load none (.t 145),(some (144,true))⟩,[],[]⟩::
  ⟨25,⟨(some 147),.Eg 3 none (.t 146) (.c (.i .i64 0)),(some (144,true))⟩,[],[]⟩::
  ⟨26,⟨(some 148),.BE 1 (.t 147),(some (144,true))⟩,[],[]⟩::
  ⟨27,⟨(some 149),.load none (.t 148),(some (144,true))⟩,[],[]⟩::
  ⟨28,⟨(some 150),.bin .eql (.t 149) (.c (.i .i64 2)),(some (144,true))⟩,[],[]⟩::
  ⟨29,⟨(some 151),.pick (.t 144) (.t 150) (.c (.b false)),none⟩,[],[]⟩::
  ⟨30,⟨(some 152),.mv (.t 151),none⟩,[],[]⟩::
  ⟨31,⟨(some 153),.mv (.t 11),(some (152,true))⟩,[],[]⟩::
  ⟨32,⟨(some 154),.Cr 1 1 [(.i .i64 0)] [(0,(.c (.i .i64 0)))],(some (152,true))⟩,[],[]⟩::
  ⟨33,⟨(some 155),.call 17 [(.t 153),(.t 154)],(some (152,true))⟩,[],[]⟩::
  ⟨34,⟨(some 156),.pick (.t 152) (.t 155) (.c (.b false)),none⟩,[],[]⟩::
  ⟨35,⟨(some 157),.mv (.t 156),none⟩,[],[]⟩::
  ⟨36,⟨(some 158),.mv (.t 12),(some (157,true))⟩,[],[]⟩::
  ⟨37,⟨(some 159),.not (.t 158),(some (157,true))⟩,[],[]⟩::
  ⟨38,⟨(some 160),.pick (.t 157) (.t 159) (.c (.b false)),none⟩,[],[]⟩::
  ⟨39,⟨(some 161),.mv (.t 160),none⟩,[],[]⟩::
  ⟨40,⟨(some 162),.load (some 2) (.t 13),(some (161,true))⟩,[],[]⟩::
  ⟨41,⟨(some 163),.call 46 [],(some (161,true))⟩,[40],[⟨(some 162),.load (some 2) (.t 13),(some (161,true))⟩]⟩::
  ⟨42,⟨(some 164),.Oo 2 false (.t 162) (.t 163),(some (161,true))⟩,[],[]⟩::
  ⟨43,⟨(some 165),.pick (.t 161) (.t 164) (.c (.b false)),none⟩,[],[]⟩::
  ⟨44,⟨(some 166),.mv (.t 165),none⟩,[],[]⟩::
  ⟨45,⟨(some 167),.mv (.t 14),(some (166,true))⟩,[],[]⟩::
  ⟨46,⟨(some 168),.bin .eql (.t 167) (.c (.i .i64 2)),(some (166,true))⟩,[],[]⟩::
  ⟨47,⟨(some 169),.pick (.t 166) (.t 168) (.c (.b false)),none⟩,[],[]⟩::
  ⟨48,⟨(some 0),.mv (.t 169),none⟩,[],[]⟩:: []))
 .ret)))))))))))
def gk:Tryz.f12.body.bind (res Tryz.prog Tryz.f12.ntmps [43] [])=some (erase gT):=by kernel_rfl
def gO:NZ:= .fn 170 gT [.t 0]
def cZ:Ga Tryz.prog 12 gO:=fun _ _ _ hn h=>CO Tryz.func12 (by kernel_rfl) gk (by kernel_rfl) hn h
def qS:Oi Tryz.prog:=⟨12,gO,cZ⟩
def qI:=eZ [] [] Tryz.func42
def qN:=eX [] [] Tryz.func24
def qO:=eX [] [] Tryz.func18
def qH:=eZ [] [] Tryz.func43
def qG:=eX [] [] Tryz.func44
def qF:=eX [] [] Tryz.func45
def qR:=eX [] [] Tryz.func13
def qE:=eX [] [] Tryz.func46
def qQ:=eX [] [] Tryz.func15
def qP:=eX [] [] Tryz.func17
def pj:=eX [] [] Tryz.func76
def qJ:=eX [] [] Tryz.func31
def px:=eX [] [] Tryz.func62
def pw:=eX [] [] Tryz.func63
def pt:=eX [] [] Tryz.func65
abbrev V9:AK:=(.Bh [⟨(some 2),.box (.t 0),none⟩,
 ⟨(some 4),.alloc [(.i .i64 0),(.i .i64 0),(.i .i64 0),(.l [] true),(.l [] true),(.i .i64 0)],none⟩])
def Zq:List Ad:=[⟨(some 6),.TR (.func 123) [] [(.t 2),(.t 4)],none⟩]
abbrev V6:AK:=(.seq [2,4,5] (.Bh [⟨(some 7),.mv (.t 1),none⟩,
 ⟨(some 8),.GS (.t 7) [],none⟩,
 ⟨(some 5),.alloc [(.i .i64 0),(.i .i64 0)],none⟩,
 ⟨none,.store 2 (.t 5) (.t 8),none⟩])
 (.seq [2,4] (.DH [2,4] [⟨0,⟨(some 9),.load none (.t 2),none⟩,[],[]⟩,
  ⟨1,⟨(some 10),.load none (.t 2),none⟩,[],[]⟩,
  ⟨2,⟨(some 11),.load (some 2) (.t 5),none⟩,[],[]⟩,
  ⟨3,⟨(some 12),.Di (.t 9),none⟩,[],[]⟩,
  ⟨4,⟨(some 13),.BE 0 (.t 12),none⟩,[],[]⟩,
  ⟨5,⟨(some 14),.BE 0 (.t 13),none⟩,[],[]⟩,
  ⟨6,⟨none,.store 1 (.t 14) (.c (.i .i64 1)),none⟩,[2,1],[⟨(some 11),.load (some 2) (.t 5),none⟩,⟨(some 10),.load none (.t 2),none⟩]⟩,
  ⟨7,⟨(some 15),.Di (.t 10),none⟩,[],[]⟩,
  ⟨8,⟨(some 16),.BE 0 (.t 15),none⟩,[],[]⟩,
  ⟨9,⟨(some 17),.BE 1 (.t 16),none⟩,[],[]⟩,
  ⟨10,⟨none,.store 2 (.t 17) (.t 11),none⟩,[],[]⟩])
 (.seq [4] (.Bh [⟨(some 18),.load none (.t 2),none⟩,
  ⟨(some 19),.Di (.t 18),none⟩,
  ⟨(some 20),.BE 0 (.t 19),none⟩,
  ⟨(some 21),.load (some 6) (.t 20),none⟩,
  ⟨none,.store 6 (.t 4) (.t 21),none⟩])
 .ret)))
def bP:Tryz.f64.body.bind (Gq Tryz.prog Tryz.f64.ntmps [] [])=some (erase V9,Zq,(.t 6),erase V6):=by kernel_rfl
def gM:NZ:= .Zh 22 V9 Zq (.t 6) V6 [.c 4 (some 6)] [1,2,4] [1,2,4]
def cW:Ga Tryz.prog 64 gM:=fun _ _ _ hn h=>Eo Tryz.func64 (by kernel_rfl) bP (by kernel_rfl) hn h
def pv:Oi Tryz.prog:=⟨64,gM,cW⟩
def qD:=eX [] [] Tryz.func47
def qC:=eX [] [] Tryz.func48
def qB:=eX [] [] Tryz.func51
def qA:=eX [] [] Tryz.func52
def p6:=eX [] [] Tryz.func56
def p7:=eX [] [] Tryz.func55
def py:=eX [] [] Tryz.func58
def p9:=eX [] [] Tryz.func53
def oK:=eX [] [] Tryz.func137
def pg:=eX [] [] Tryz.func81
def pc:=eX [] [] Tryz.func85
def oa:=eX [] [] Tryz.func109
def oZ:=eX [] [] Tryz.func110
def oY:=eX [] [] Tryz.func111
def oX:=eX [] [] Tryz.func112
def oW:=eX [] [] Tryz.func113
def oV:=eX [] [] Tryz.func114
def oU:=eX [] [] Tryz.func115
def oT:=eX [] [] Tryz.func116
def oS:=eX [] [] Tryz.func117
def oR:=eX [] [] Tryz.func118
def oQ:=eX [] [] Tryz.func119
def oP:=eX [] [] Tryz.func120
def oO:=eX [] [] Tryz.func121
abbrev aJ:AK:=(.seq [0,3,4] (.Bh [⟨(some 3),.box (.t 1),none⟩,
 ⟨(some 4),.alloc [(.i .i64 0),(.i .i64 0)],none⟩])
 (.seq [0,3,4,5] (.Bh [⟨(some 8),.mv (.t 0),none⟩,
  ⟨(some 9),.load (some 5) (.t 3),none⟩,
  ⟨(some 10),.call 165 [(.t 8),(.t 9),(.c (.i .i64 0))],none⟩,
  ⟨(some 5),.alloc [(.i .i64 0),(.i .i64 0)],none⟩,
  ⟨none,.store 2 (.t 5) (.t 10),none⟩])
 (.seq [3,4,5,6] (.Bh [⟨(some 11),.mv (.t 0),none⟩,
  ⟨(some 12),.load (some 5) (.t 3),none⟩,
  ⟨(some 13),.call 165 [(.t 11),(.t 12),(.c (.i .i64 1))],none⟩,
  ⟨(some 6),.alloc [(.i .i64 0),(.i .i64 0)],none⟩,
  ⟨none,.store 2 (.t 6) (.t 13),none⟩])
 (.seq [3,4,5,6,7] (.Bh [⟨(some 7),.mv (.c (.b false)),none⟩])
 (.seq [4,7] (.seq [4,5,6,7,16] (.Bh [⟨(some 14),.BE 0 (.t 3),none⟩,
  ⟨(some 15),.BE 0 (.t 14),none⟩,
  ⟨(some 16),.load none (.t 15),none⟩])
 (.block 0 (.seq [4,5,6,7,16,17] (.Bh [⟨(some 18),.bin .eql (.t 16) (.c (.i .i64 12)),none⟩,
  ⟨(some 17),.mv (.t 18),none⟩])
 (.cond (.t 17)
 (.seq [4] (.DH [4] [⟨0,⟨(some 19),.load (some 2) (.t 5),none⟩,[],[]⟩,
  ⟨2,⟨(some 21),.load (some 2) (.t 6),none⟩,[],[]⟩,
  ⟨1,⟨(some 20),.call 101 [(.t 19)],none⟩,[2],[⟨(some 21),.load (some 2) (.t 6),none⟩]⟩,
  ⟨3,⟨(some 22),.call 101 [(.t 21)],none⟩,[],[]⟩,
  ⟨4,⟨(some 23),.bin .add (.t 20) (.t 22),none⟩,[],[]⟩,
  ⟨5,⟨(some 24),.call 103 [(.t 23)],none⟩,[],[]⟩,
  ⟨6,⟨none,.store 2 (.t 4) (.t 24),none⟩,[],[]⟩])
 .ret)
 (.seq [4,5,6,7,16,25] (.Bh [⟨(some 26),.bin .eql (.t 16) (.c (.i .i64 13)),none⟩,
  ⟨(some 25),.mv (.t 26),none⟩])
 (.cond (.t 25)
 (.seq [4] (.DH [4] [⟨0,⟨(some 27),.load (some 2) (.t 5),none⟩,[],[]⟩,
  ⟨2,⟨(some 29),.load (some 2) (.t 6),none⟩,[],[]⟩,
  ⟨1,⟨(some 28),.call 101 [(.t 27)],none⟩,[2],[⟨(some 29),.load (some 2) (.t 6),none⟩]⟩,
  ⟨3,⟨(some 30),.call 101 [(.t 29)],none⟩,[],[]⟩,
  ⟨4,⟨(some 31),.bin .sub (.t 28) (.t 30),none⟩,[],[]⟩,
  ⟨5,⟨(some 32),.call 103 [(.t 31)],none⟩,[],[]⟩,
  ⟨6,⟨none,.store 2 (.t 4) (.t 32),none⟩,[],[]⟩])
 .ret)
 (.seq [4,5,6,7,16,33] (.Bh [⟨(some 34),.bin .eql (.t 16) (.c (.i .i64 14)),none⟩,
  ⟨(some 33),.mv (.t 34),none⟩])
 (.cond (.t 33)
 (.seq [4] (.DH [4] [⟨0,⟨(some 35),.load (some 2) (.t 5),none⟩,[],[]⟩,
  ⟨2,⟨(some 37),.load (some 2) (.t 6),none⟩,[],[]⟩,
  ⟨1,⟨(some 36),.call 101 [(.t 35)],none⟩,[2],[⟨(some 37),.load (some 2) (.t 6),none⟩]⟩,
  ⟨3,⟨(some 38),.call 101 [(.t 37)],none⟩,[],[]⟩,
  ⟨4,⟨(some 39),.bin .mul (.t 36) (.t 38),none⟩,[],[]⟩,
  ⟨5,⟨(some 40),.call 103 [(.t 39)],none⟩,[],[]⟩,
  ⟨6,⟨none,.store 2 (.t 4) (.t 40),none⟩,[],[]⟩])
 .ret)
 (.seq [4,5,6,7,16,41] (.Bh [⟨(some 42),.bin .eql (.t 16) (.c (.i .i64 15)),none⟩,
  ⟨(some 41),.mv (.t 42),none⟩])
 (.cond (.t 41)
 (.DH [4,7] [⟨0,⟨(some 43),.load (some 2) (.t 5),none⟩,[],[]⟩,
  ⟨2,⟨(some 45),.load (some 2) (.t 6),none⟩,[],[]⟩,
  ⟨1,⟨(some 44),.call 101 [(.t 43)],none⟩,[2],[⟨(some 45),.load (some 2) (.t 6),none⟩]⟩,
  ⟨3,⟨(some 46),.call 101 [(.t 45)],none⟩,[],[]⟩,
  ⟨4,⟨(some 47),.bin .lss (.t 44) (.t 46),none⟩,[],[]⟩,
  ⟨5,⟨(some 7),.mv (.t 47),none⟩,[],[]⟩])
 (.seq [4,5,6,7,48] (.Bh [⟨(some 49),.bin .eql (.t 16) (.c (.i .i64 16)),none⟩,
  ⟨(some 48),.mv (.t 49),none⟩])
 (.cond (.t 48)
 (.Bh [⟨(some 50),.load (some 2) (.t 5),none⟩,
  ⟨(some 51),.load (some 2) (.t 6),none⟩,
  ⟨(some 52),.Oo 2 false (.t 50) (.t 51),none⟩,
  ⟨(some 7),.mv (.t 52),none⟩])
 .skip))))))))))))
 (.seq [4] (.seq [4,53] (.Bh [⟨(some 53),.mv (.t 7),none⟩])
 (.cond (.t 53)
 (.seq [4] (.Bh [⟨(some 54),.call 103 [(.c (.i .i64 1))],none⟩,
  ⟨none,.store 2 (.t 4) (.t 54),none⟩])
 .ret)
 .skip))
 (.seq [4] (.Bh [⟨(some 55),.call 103 [(.c (.i .i64 0))],none⟩,
  ⟨none,.store 2 (.t 4) (.t 55),none⟩])
 .ret)))))))
def bU:Tryz.f122.body.bind (res Tryz.prog Tryz.f122.ntmps [] [])=some (erase aJ):=by kernel_rfl
def Z6:NZ:= .fn 56 aJ [.c 4 (some 2)]
def Y7:Ga Tryz.prog 122 Z6:=fun _ _ _ hn h=>CO Tryz.func122 (by kernel_rfl) bU (by kernel_rfl) hn h
def oN:Oi Tryz.prog:=⟨122,Z6,Y7⟩
def po:=eX [] [] Tryz.func67
def pq:=eX [] [] Tryz.func66
def Vh:List Ad:=[⟨(some 2),.mv (.t 5),none⟩]
abbrev TI:AK:=(.seq [0,1] (.seq [0,1,2,4] (.Bh [⟨(some 7),.mv (.t 2),none⟩,
 ⟨(some 8),.Un 178 (.a []) true (.t 7),none⟩,
 ⟨(some 6),.mv (.t 8),none⟩,
 ⟨(some 9),.extract 0 (.t 6),none⟩,
 ⟨(some 10),.extract 1 (.t 6),none⟩,
 ⟨(some 3),.alloc [],none⟩,
 ⟨none,.store 0 (.t 3) (.t 9),none⟩,
 ⟨(some 4),.mv (.t 10),none⟩])
 (.seq [0,1,2,16] (.Bh [⟨(some 11),.mv (.t 2),none⟩,
  ⟨(some 12),.TU 2 true (.t 11),none⟩,
  ⟨(some 13),.mv (.t 12),none⟩,
  ⟨(some 14),.mv (.t 4),(some (13,true))⟩,
  ⟨(some 15),.not (.t 14),(some (13,true))⟩,
  ⟨(some 16),.pick (.t 13) (.t 15) (.c (.b false)),none⟩])
 (.cond (.t 16)
 (.Bh [⟨(some 17),.mv (.t 2),none⟩,
  ⟨none,.panic (.t 17),none⟩])
 .skip)))
 (.Bh [⟨(some 18),.load none (.t 0),none⟩,
  ⟨(some 19),.Di (.t 18),none⟩,
  ⟨(some 20),.BE 0 (.t 19),none⟩,
  ⟨(some 21),.load (some 6) (.t 20),none⟩,
  ⟨none,.store 6 (.t 1) (.t 21),none⟩]))
def YJ:Tryz.f123.body.bind (resRec Tryz.prog Tryz.f123.ntmps [] [])=some (5,Vh,erase TI):=by kernel_rfl
def Z5:NZ:= .aX 22 5 Vh TI [0,1,2]
def Y6:Ga Tryz.prog 123 Z5:=fun _ _ _ _ hn h=>HM Tryz.func123 (by kernel_rfl) YJ rfl hn h
def oM:Oi Tryz.prog:=⟨123,Z5,Y6⟩
def pZ:=eX [] [] Tryz.func97
def pY:=eX [] [] Tryz.func98
def pX:=eX [] [] Tryz.func99
def qM:=eC 1 8 Tryz.func25
def qL:=eX [] [] Tryz.func26
def pz:=eX [] [] Tryz.func57
def oj:=eX [] [] Tryz.func101
def og:=eX [] [] Tryz.func103
def oh:=eX [] [] Tryz.func102
def oe:=eX [] [] Tryz.func104
def od:=eX [] [] Tryz.func105
abbrev gS:AK:=(.seq [1] (.Bh [⟨(some 1),.box (.t 0),none⟩,
 ⟨(some 2),.mv (.c (.b false)),none⟩])
 (.seq [1] (.seq [1,4] (.Bh [⟨(some 3),.BE 0 (.t 1),none⟩,
  ⟨(some 4),.load none (.t 3),none⟩])
 (.block 0 (.seq [1,4,5] (.Bh [⟨(some 6),.bin .eql (.t 4) (.c (.i .i64 1)),none⟩,
  ⟨(some 5),.mv (.t 6),none⟩])
 (.cond (.t 5)
 (.seq [2] (.Bh [⟨(some 7),.BE 1 (.t 1),none⟩,
  ⟨(some 8),.load none (.t 7),none⟩,
  ⟨(some 9),.bin .geq (.t 8) (.c (.i .i64 (-1000000000))),none⟩,
  ⟨(some 10),.mv (.t 9),none⟩,
  ⟨(some 11),.BE 1 (.t 1),(some (10,true))⟩,
  ⟨(some 12),.load none (.t 11),(some (10,true))⟩,
  ⟨(some 13),.bin .leq (.t 12) (.c (.i .i64 1000000000)),(some (10,true))⟩,
  ⟨(some 14),.pick (.t 10) (.t 13) (.c (.b false)),none⟩,
  ⟨(some 2),.mv (.t 14),none⟩])
 .ret)
 (.seq [1,15] (.Bh [⟨(some 16),.bin .eql (.t 4) (.c (.i .i64 2)),none⟩,
  ⟨(some 15),.mv (.t 16),none⟩])
 (.cond (.t 15)
 (.seq [2] (.Bh [⟨(some 17),.BE 1 (.t 1),none⟩,
  ⟨(some 18),.load none (.t 17),none⟩,
  ⟨(some 19),.bin .eql (.t 18) (.c (.i .i64 0)),none⟩,
  ⟨(some 2),.mv (.t 19),none⟩])
 .ret)
 .skip))))))
 (.seq [2] (.Bh [⟨(some 20),.BE 0 (.t 1),none⟩,
  ⟨(some 21),.load none (.t 20),none⟩,
  ⟨(some 22),.bin .eql (.t 21) (.c (.i .i64 3)),none⟩,
  ⟨(some 23),.mv (.t 22),none⟩,
  ⟨(some 24),.BE 1 (.t 1),(some (23,true))⟩,
  ⟨(some 25),.load none (.t 24),(some (23,true))⟩,
  ⟨(some 26),.bin .geq (.t 25) (.c (.i .i64 0)),(some (23,true))⟩,
  ⟨(some 27),.pick (.t 23) (.t 26) (.c (.b false)),none⟩,
  ⟨(some 28),.mv (.t 27),none⟩,
  ⟨(some 29),.BE 1 (.t 1),(some (28,true))⟩,
  ⟨(some 30),.load none (.t 29),(some (28,true))⟩,
  ⟨(some 31),.bin .lss (.t 30) (.c (.i .i64 40)),(some (28,true))⟩,
  ⟨(some 32),.pick (.t 28) (.t 31) (.c (.b false)),none⟩,
  ⟨(some 2),.mv (.t 32),none⟩])
 .ret)))
def gj:Tryz.f54.body.bind (res Tryz.prog Tryz.f54.ntmps [] [])=some (erase gS):=by kernel_rfl
def gN:NZ:= .fn 33 gS [.t 2]
def cY:Ga Tryz.prog 54 gN:=fun _ _ _ hn h=>CO Tryz.func54 (by kernel_rfl) gj (by kernel_rfl) hn h
def p8:Oi Tryz.prog:=⟨54,gN,cY⟩
def np:=eX [] [] Tryz.func196
abbrev TK:AK:=(.Bh [⟨(some 2),.alloc [(.b false)],none⟩])
def Vf:List Ad:=[⟨(some 3),.TR (.func 258) [] [(.t 2)],none⟩]
abbrev TG:AK:=(.seq [2] (.Bh [⟨(some 4),.mv (.t 0),none⟩,
 ⟨(some 5),.GS (.t 4) [],none⟩])
 (.seq [2] (.Bh [⟨none,.store 1 (.t 2) (.c (.b true)),none⟩])
 .ret))
def YH:Tryz.f195.body.bind (Gq Tryz.prog Tryz.f195.ntmps [] [])=some (erase TK,Vf,(.t 3),erase TG):=by kernel_rfl
def Z3:NZ:= .Zh 6 TK Vf (.t 3) TG [.c 2 none] [0,2] [0,2]
def Y4:Ga Tryz.prog 195 Z3:=fun _ _ _ hn h=>Eo Tryz.func195 (by kernel_rfl) YH (by kernel_rfl) hn h
def nq:Oi Tryz.prog:=⟨195,Z3,Y4⟩
def oJ:=eX [] [] Tryz.func138
def oH:=eX [] [] Tryz.func140
def oI:=eX [] [] Tryz.func139
def n1:=eX [] [] Tryz.func165
def nz:=eX [] [] Tryz.func166
def ny:=eX [] [] Tryz.func167
abbrev TL:AK:=(.seq [1,2,3,6] (.Bh [⟨(some 3),.box (.t 0),none⟩,
 ⟨(some 6),.alloc [(.i .i64 0),(.i .i64 0)],none⟩])
 (.Bh [⟨(some 7),.load none (.t 3),none⟩,
  ⟨(some 8),.Di (.t 7),none⟩,
  ⟨(some 9),.BE 15 (.t 8),none⟩,
  ⟨(some 10),.load none (.t 9),none⟩,
  ⟨(some 11),.bin .add (.t 10) (.c (.i .i64 1)),none⟩,
  ⟨(some 12),.Di (.t 7),none⟩,
  ⟨(some 13),.BE 15 (.t 12),none⟩,
  ⟨none,.store 1 (.t 13) (.t 11),none⟩]))
def Vg:List Ad:=[⟨(some 14),.TR (.func 238) [] [(.t 3)],none⟩]
abbrev TH:AK:=(.seq [6] (.Bh [⟨(some 15),.load none (.t 3),none⟩,
 ⟨(some 16),.mv (.t 1),none⟩,
 ⟨(some 17),.mv (.t 2),none⟩,
 ⟨(some 18),.call 84 [(.t 15),(.t 16),(.t 17)],none⟩,
 ⟨none,.store 2 (.t 6) (.t 18),none⟩])
 .ret)
def YI:Tryz.f168.body.bind (Gq Tryz.prog Tryz.f168.ntmps [] [])=some (erase TL,Vg,(.t 14),erase TH):=by kernel_rfl
def Z4:NZ:= .Zh 19 TL Vg (.t 14) TH [.c 6 (some 2)] [1,2,3,6] [1,2,3,6]
def Y5:Ga Tryz.prog 168 Z4:=fun _ _ _ hn h=>Eo Tryz.func168 (by kernel_rfl) YI (by kernel_rfl) hn h
def nv:Oi Tryz.prog:=⟨168,Z4,Y5⟩
end Go.Gl
