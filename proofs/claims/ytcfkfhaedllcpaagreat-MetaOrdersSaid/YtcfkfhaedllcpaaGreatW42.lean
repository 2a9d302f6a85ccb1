import Derived.Test.YtcfkfhaedllcpaaGreatProg
import Derived.KernelRfl
import Derived.Test.YtcfkfhaedllcpaaGreatW14
import Derived.Test.YtcfkfhaedllcpaaGreatW41
set_option linter.all false
set_option linter.defProp false
set_option maxHeartbeats 8000000
noncomputable section
namespace Go.Gl
variable {P:Program}
abbrev UD (sz b:Nat):AV:=(.seq [0] (.B5 [⟨(some 2),.mv (.c (.l [] true)),none⟩])
 (.seq [0] (.seq [0,4] (.B5 [⟨(some 3),.mv (.t 0),none⟩,
  ⟨(some 4),.aX 1 false (.t 3),none⟩])
 (.cond (.t 4)
 (.seq [2] (.B5 [⟨(some 2),.mv (.c (.l [] true)),none⟩])
 .ret)
 .skip))
 (.seq [2] (.B5 [⟨(some 5),.Di 1 0 [] [],none⟩,
  ⟨(some 6),.mv (.t 0),none⟩,
  ⟨(some 7),.append sz b (.t 5) (.t 6),none⟩,
  ⟨(some 2),.mv (.t 7),none⟩])
 .ret)))
def cF {q:Nat} {neg:Bool} {x:V} {k k':V->Prop} (h:Iz q neg x k) (hm: ∀t,k (.b t)->k' (.b t)):Iz q neg x k':=by
 unfold Iz at *;split at h<;>first|exact hm _ h|exact⟨fun e t=>hm _ (h.1 e t),fun e=>hm _ (h.2 e)⟩|exact h.elim
def Nk {v:V} {Z:AE} {Q:R->AE->Prop} (h:Q (.ret v) Z):Aq Z v Q:=⟨v,Z,fun _ _ h=>h,.refl _,h⟩
def ga {Y:Ren} {f:Bool}:RV Y (.l [] f) (.l [] f):=by simp only[RV];exact⟨[],rfl,rfl⟩
section
attribute [local irreducible] A3 Aq Af AR AJ Ad AQ AT AK Ac AM AN Ax A5 AX A4 Ah W Iz
def nQ {sz b:Nat} {v:V} {Z:AE} {Q:R->AE->Prop} (h1:Iz 1 false v fun t=>(t= .b true->Aq Z (.l [] true) Q)/\(t= .b false->AJ b Z sz (.l [] true) v fun v' Z'=>Aq Z' v' Q)) :
    W P (UD sz b) (U0 [.t 2] Q) [(0,v)] Z:=by
 conv=>whnf
 repeat((first|refine⟨rfl,?_⟩|refine⟨kZ,?_⟩|refine Kk ?_|refine Kl ?_|refine Ji ?_|refine Jh ?_|refine Ep ?_|refine J6 ?_|(refine Dj ?_;intro K U)|(refine Ca ?_;intro KR KP hR hP)|(refine hR _ _ ?_;clear hP;clear KP;clear hR;clear KR)|(refine hP _ _ _ ?_;clear hP;clear KP;clear hR;clear KR)|refine EE ?_|refine Ft ?_|refine Km ?_|refine Es ?_|refine Dm ?_|refine Fs ?_|(refine H6 ?_;intro KR KP hR hP)|(refine hP _ _ fun Z hsub=>?_;clear hP;clear KP;clear hR;clear KR)|refine HW ?_|refine HX ?_|(apply U;clear U K)|(clear U K));try(conv=>whnf))
 refine cF h1 fun t ht=>?_
 conv=>whnf
 repeat((first|refine⟨rfl,?_⟩|refine⟨kZ,?_⟩|refine Kk ?_|refine Kl ?_|refine Ji ?_|refine Jh ?_|refine Ep ?_|refine J6 ?_|(refine Dj ?_;intro K U)|(refine Ca ?_;intro KR KP hR hP)|(refine hR _ _ ?_;clear hP;clear KP;clear hR;clear KR)|(refine hP _ _ _ ?_;clear hP;clear KP;clear hR;clear KR)|refine EE ?_|refine Ft ?_|refine Km ?_|refine Es ?_|refine Dm ?_|refine Fs ?_|(refine H6 ?_;intro KR KP hR hP)|(refine hP _ _ fun Z hsub=>?_;clear hP;clear KP;clear hR;clear KR)|refine HW ?_|refine HX ?_|(apply U;clear U K)|(clear U K));try(conv=>whnf))
 refine⟨fun h=>?_,fun h=>?_⟩
 .subst h
  conv=>whnf
  repeat((first|refine⟨rfl,?_⟩|refine⟨kZ,?_⟩|refine Kk ?_|refine Kl ?_|refine Ji ?_|refine Jh ?_|refine Ep ?_|refine J6 ?_|(refine Dj ?_;intro K U)|(refine Ca ?_;intro KR KP hR hP)|(refine hR _ _ ?_;clear hP;clear KP;clear hR;clear KR)|(refine hP _ _ _ ?_;clear hP;clear KP;clear hR;clear KR)|refine EE ?_|refine Ft ?_|refine Km ?_|refine Es ?_|refine Dm ?_|refine Fs ?_|(refine H6 ?_;intro KR KP hR hP)|(refine hP _ _ fun Z hsub=>?_;clear hP;clear KP;clear hR;clear KR)|refine HW ?_|refine HX ?_|(apply U;clear U K)|(clear U K));try(conv=>whnf))
  exact ht.1 rfl
 .subst h
  conv=>whnf
  repeat((first|refine⟨rfl,?_⟩|refine⟨kZ,?_⟩|refine Kk ?_|refine Kl ?_|refine Ji ?_|refine Jh ?_|refine Ep ?_|refine J6 ?_|(refine Dj ?_;intro K U)|(refine Ca ?_;intro KR KP hR hP)|(refine hR _ _ ?_;clear hP;clear KP;clear hR;clear KR)|(refine hP _ _ _ ?_;clear hP;clear KP;clear hR;clear KR)|refine EE ?_|refine Ft ?_|refine Km ?_|refine Es ?_|refine Dm ?_|refine Fs ?_|(refine H6 ?_;intro KR KP hR hP)|(refine hP _ _ fun Z hsub=>?_;clear hP;clear KP;clear hR;clear KR)|refine HW ?_|refine HX ?_|(apply U;clear U K)|(clear U K));try(conv=>whnf))
  refine MS (ht.2 rfl) fun v' Z' hq=>?_
  conv=>whnf
  repeat((first|refine⟨rfl,?_⟩|refine⟨kZ,?_⟩|refine Kk ?_|refine Kl ?_|refine Ji ?_|refine Jh ?_|refine Ep ?_|refine J6 ?_|(refine Dj ?_;intro K U)|(refine Ca ?_;intro KR KP hR hP)|(refine hR _ _ ?_;clear hP;clear KP;clear hR;clear KR)|(refine hP _ _ _ ?_;clear hP;clear KP;clear hR;clear KR)|refine EE ?_|refine Ft ?_|refine Km ?_|refine Es ?_|refine Dm ?_|refine Fs ?_|(refine H6 ?_;intro KR KP hR hP)|(refine hP _ _ fun Z hsub=>?_;clear hP;clear KP;clear hR;clear KR)|refine HW ?_|refine HX ?_|(apply U;clear U K)|(clear U K));try(conv=>whnf))
  exact hq
end
def jT {f : FuncId} {n sz b:Nat} (h: ∀(args:List V) (Z:AE) (Q:R->AE->Prop),args.length<=n->T P (UD sz b) (U0 [.t 2] Q) (A2 0 args) Z->A3 P f args Z Q) (hn:1<=n) (hb:b<=131072:=by decide):Iv P f (.ai (Xf sz)):=by
 intro vs s r s' hc Y vs' Z hv hs Q hQ
 have main: ∀ {v v':V} {ys:List (List V)},vs= [v]->vs'= [v']->RV Y v v'->Ie s sz v=some ys->(ys= []->r= .ret (.l [] true)/\s'=s)->
  (ys≠[]->(ys.all (fun e=>e.all CC)&&Nat.ble ys.length 1073741824)=true/\s.nx<=Mm/\r= .ret (.sl s.nx ys.length 0)/\s'=⟨s.nx+1,Tr.set (some (.arr sz ys)) A7 s.t s.nx⟩)->
  (∀k:V->Prop,(ys= []-> ∀t,k (.b t))->(ys≠[]->k (.b false))->Iz 1 false v' k)->A3 P f vs' Z Q:=fun {v v' ys} e1 e2 hr hy h0 h1 hk=>by
  subst e1;subst e2;refine h _ _ _ hn (oC (nQ (hk _ (fun e t=>⟨fun _=>?_,fun _=>?_⟩) fun e=>⟨fun h=>(by cases h),fun _=>?_⟩)))
  .obtain⟨rfl,rfl⟩:=h0 e
   exact Nk (hQ Y _ Z (.refl _) ⟨_,ga,rfl⟩ hs)
  .obtain⟨rfl,rfl⟩:=h0 e
   refine HU hs hy hr fun ys' hr'=>?_
   have:ys'= []:=by
    have:=hr'.len;rw[e]at this;exact Yh.1 this
   subst this;exact⟨fun e he=>(by cases he),fun e he=>(by cases he),⟨Nat.zero_le _,by simp⟩,fun _=>Nk (hQ Y _ Z (.refl _) ⟨_,ga,rfl⟩ hs),fun h=>absurd rfl h⟩
  .obtain⟨g1,g2,rfl,rfl⟩:=h1 e
   simp only[BD]at g1;refine HU hs hy hr fun ys' hr'=>?_
   have hl:=hr'.len;have hne:ys'≠[]:=fun e'=>e (by rw[e']at hl;exact Yh.1 hl.symm)
   refine⟨MH g1.1 hr',fun e he=>(by cases he),?_,fun e=>absurd e hne,fun _=>⟨rfl,fun n cap hn0 hc=>?_⟩⟩
   .have:=TQ (b:=b) (L:=ys.length) (by simp only[vY,BD];exact⟨g1.2,Nat.ble_eq_true_of_le hb⟩)
    simp only[List.length_nil,Gj];rw[hl];exact this
   .obtain⟨Y',q1,q2,q3⟩:=hs.new g2 hn0 cap (o:= .arr sz ys) (o':= .arr sz ys' cap) ⟨_,hr',rfl⟩
    refine Nk (hQ Y' _ _ q1 ?_ ?_)
    .refine⟨_,?_,rfl⟩
     simp only[RV];exact⟨_,q2,by simp[hl]⟩
    .simpa using q3
 have parts: ∀ {ys:List (List V)},(match some ys with
  | some []=>some (R.ret (V.l [] true),s)
  | some (y::ys)=>bif (y::ys).all (fun e=>e.all CC)&&Nat.ble (y::ys).length 1073741824 then s.new (.arr sz (y::ys)) fun i s'=>some (.ret (.sl i (y::ys).length 0),s')else none
  | none=>none)=some (r,s')->(ys= []->r= .ret (.l [] true)/\s'=s)/\
    (ys≠[]->(ys.all (fun e=>e.all CC)&&Nat.ble ys.length 1073741824)=true/\s.nx<=Mm/\r= .ret (.sl s.nx ys.length 0)/\s'=⟨s.nx+1,Tr.set (some (.arr sz ys)) A7 s.t s.nx⟩):=fun {ys} hc=>by
  cases ys with
  | nil=>cases hc;exact⟨fun _=>⟨rfl,rfl⟩,fun h=>absurd rfl h⟩
  | cons y ys=>
    obtain⟨h1,h2⟩:=AW hc;obtain⟨h3,h4⟩:=St.Hu h2;cases h4;exact⟨fun h=>(by cases h),fun _=>⟨h1,h3,rfl,rfl⟩⟩
 unfold Xf at hc;split at hc
 .rename_i es f
  obtain⟨v',l',k1,k2,rfl⟩:=hv;obtain rfl:l'= []:=k2;cases hy:Ie s sz (.l es f)with
  | none=>rw[hy]at hc;cases hc
  | some ys=>
    rw[hy]at hc;obtain⟨p1,p2⟩:=parts hc;refine main rfl rfl k1 hy p1 p2 fun k h0 h1=>?_
    simp only[RV]at k1;obtain⟨es',k3,rfl⟩:=k1;have hl:=(Fa.1 k3).len
    have he:ys=es:=by
     simp only[Ie]at hy;exact(Option.some.inj (AW hy).2).symm
    subst he;unfold Iz;exact⟨fun e=>h0 (by rw[e]at hl;exact Yh.1 hl.symm),fun e=>h1 fun e'=>e (by rw[e']at hl;exact Yh.1 hl)⟩
 .rename_i m len c
  obtain⟨v',l',k1,k2,rfl⟩:=hv;obtain rfl:l'= []:=k2;cases hy:Ie s sz (.sl m len c)with
  | none=>rw[hy]at hc;cases hc
  | some ys=>
    rw[hy]at hc;obtain⟨p1,p2⟩:=parts (ys:=ys) hc;refine main rfl rfl k1 hy p1 p2 fun k h0 h1=>?_
    simp only[RV]at k1;obtain⟨m',k3,rfl⟩:=k1;unfold Iz;show k (.b false);by_cases e:ys= []
    .exact h0 e false
    .exact h1 e
 .cases hc
end Go.Gl
namespace Go.Gl
variable {P:Program}
structure Ue (P:Program) where
 k:Nat
 fs:S6
 ok:Iv P k fs
def v8:List (Ue P)->Tr S6
 | []=> .leaf
 | e::r=>bif Nat.ble e.k 1000000 then Tr.set (some e.fs) A7 (v8 r) e.k else v8 r
def XU: ∀l:List (Ue P),Y4 (fun i=>Iv P i) id (v8 l)
 | []=>na
 | e ::r=>by
   unfold v8;cases h:Nat.ble e.k 1000000 with
   | false=>exact XU r
   | true=>
     have hk:e.k+1<2 ^ A7:=by
      have:=Nat.le_of_ble_eq_true h;have e2:(2:Nat) ^ A7=1099511627776:=by decide
      omega
     intro j a ha;rw[cond_true,Tr.Ds A7 _ _ hk]at ha;split at ha
     .next e1=>subst e1;cases ha;exact e.ok
     .exact XU r j a ha
def eX {k n:Nat} {fn:Func} {ac:AV} {rs:List RS} (pu fz:List Nat) (hf:P.funcs[k]? =some fn)
    (hn:fn.ntmps=n:=by conv=>lhs;reduce)
    (hr:Mi P fn.results.toList=some rs:=by conv=>lhs;reduce)
    (hc:aZ (rs.map vg) ((fn.body.bind (res P fn.ntmps pu fz)).getD .skip) [] (rs.map vg)=ac:=by conv=>lhs;reduce)
    (hb:fn.body.bind (res P fn.ntmps pu fz)=some (erase ac):=by kernel_rfl) (hok:okF P k=true:=by kernel_rfl):Ue P:=
 ⟨k,.fn n ac rs,fun _ _ _ ha h=>C8 hf hok hb hr (hn ▸ ha) h⟩
def eZ {k n:Nat} {fn:Func} {ac:AV} {rs:List RS} (pu fz:List Nat) (hf:P.funcs[k]? =some fn)
    (hn:fn.ntmps=n:=by conv=>lhs;reduce)
    (hr:Mi P fn.results.toList=some rs:=by conv=>lhs;reduce)
    (hc:aZ (rs.map vg) ((fn.body.bind (res P fn.ntmps pu fz)).getD .skip) [] (rs.map vg)=ac:=by conv=>lhs;reduce)
    (hb:fn.body.bind (res P fn.ntmps pu fz)=some (erase ac):=by kernel_rfl) (hok:okF P k=true:=by kernel_rfl):Ue P:=
 ⟨k,.wA n ac rs,fun _ _ _ ha h=>C8 hf hok hb hr (hn ▸ ha) h⟩
def eC {k:Nat} {fn:Func} (sz b:Nat) (hf:P.funcs[k]? =some fn) (hb:fn.body.bind (res P fn.ntmps [] [])=some (erase (UD sz b)):=by kernel_rfl)
    (hr:Mi P fn.results.toList=some [.t 2]:=by kernel_rfl) (hok:okF P k=true:=by kernel_rfl) (hn:Nat.ble 1 fn.ntmps=true:=by kernel_rfl) (hs:Nat.ble b 131072=true:=by kernel_rfl):Ue P:=
 ⟨k,.ai (Xf sz),jT (sz:=sz) (b:=b) (fun _ _ _ ha h=>C8 hf hok hb hr ha h) (Nat.le_of_ble_eq_true hn) (Nat.le_of_ble_eq_true hs)⟩
structure MM (P:Program) where
 m:E2
 ok:G3 P m
def MM.add (M:MM P) {f:Nat} {vs:List V} {v:V} (h:B6 vs=true/\BJ v=true/\Pure P f vs v):MM P:=⟨p7 M.m f vs v,ni M.ok h⟩
end Go.Gl
namespace Go.Gl
open Go.Proofs
set_option maxRecDepth 100000
abbrev wY:AV:=(.seq [] (.B5 [⟨(some 0),.mv (.c (.b false)),none⟩])
 (.seq [1] (.B5 [⟨(some 15),.call 42 [(.c (.b false))],none⟩,
  ⟨(some 1),.alloc [(.l [] true),(.i .i64 0),(.l [] true),(.l [] true),(.l [] true),(.i .i64 0)],none⟩,
  ⟨none,.store 6 (.t 1) (.t 15),none⟩])
 (.seq [1,2,3] (.B5 [⟨(some 17),.load (some 6) (.t 1),none⟩,
  ⟨(some 18),.call 24 [(.t 17)],none⟩,
  ⟨(some 16),.mv (.t 18),none⟩,
  ⟨(some 19),.extract 0 (.t 16),none⟩,
  ⟨(some 20),.extract 1 (.t 16),none⟩,
  ⟨(some 2),.alloc [(.l [] true),(.l [] true),(.l [] true)],none⟩,
  ⟨none,.store 3 (.t 2) (.t 19),none⟩,
  ⟨(some 3),.mv (.t 20),none⟩])
 (.seq [1,3,4,5] (.B5 [⟨(some 22),.load (some 6) (.t 1),none⟩,
  ⟨(some 23),.load (some 3) (.t 2),none⟩,
  ⟨(some 24),.call 18 [(.t 22),(.t 23),(.c (.i .i64 9))],none⟩,
  ⟨(some 21),.mv (.t 24),none⟩,
  ⟨(some 25),.extract 0 (.t 21),none⟩,
  ⟨(some 26),.extract 1 (.t 21),none⟩,
  ⟨(some 4),.alloc [(.i .i64 0),(.i .i64 0),(.i .i64 0),(.l [] true),(.l [] true),(.i .i64 0)],none⟩,
  ⟨none,.store 6 (.t 4) (.t 25),none⟩,
  ⟨(some 5),.mv (.t 26),none⟩])
 (.seq [1,3,4,5,6,7] (.EG [1,3,4,5,6,7] [⟨0,⟨(some 28),.load (some 6) (.t 1),none⟩,[],[]⟩,
  ⟨1,⟨(some 29),.build [(.i .i64 0),(.i .i64 0),(.i .i64 0)] [(0,1,(.c (.i .i64 1))),(2,1,(.c (.i .i64 2)))],none⟩,[],[]⟩,
  ⟨2,⟨(some 30),.Di 1 2 [(.i .i64 0)] [(0,(.c (.i .i64 (-1)))),(1,(.c (.i .i64 (-1))))],none⟩,[],[]⟩,
  ⟨3,⟨(some 31),.HK 43 [(.t 29),(.t 30)],none⟩,[],[]⟩,
  ⟨4,⟨(some 32),.call 18 [(.t 28),(.t 31),(.c (.i .i64 9))],none⟩,[],[]⟩,
  ⟨5,⟨(some 27),.mv (.t 32),none⟩,[],[]⟩,
  ⟨6,⟨(some 33),.extract 0 (.t 27),none⟩,[],[]⟩,
  ⟨7,⟨(some 34),.extract 1 (.t 27),none⟩,[],[]⟩,
  ⟨8,⟨(some 6),.alloc [(.i .i64 0),(.i .i64 0),(.i .i64 0),(.l [] true),(.l [] true),(.i .i64 0)],none⟩,[],[]⟩,
  ⟨9,⟨none,.store 6 (.t 6) (.t 33),none⟩,[],[]⟩,
  ⟨10,⟨(some 7),.mv (.t 34),none⟩,[],[]⟩])
 (.seq [1,3,4,5,6,7,8,9] (.EG [1,3,4,5,6,7,8,9] [⟨0,⟨(some 36),.load (some 6) (.t 1),none⟩,[],[]⟩,
  ⟨1,⟨(some 37),.build [(.i .i64 0),(.i .i64 0),(.i .i64 0)] [(0,1,(.c (.i .i64 2))),(2,1,(.c (.i .i64 1)))],none⟩,[],[]⟩,
  ⟨2,⟨(some 38),.Di 1 2 [(.i .i64 0)] [(0,(.c (.i .i64 (-1)))),(1,(.c (.i .i64 (-1))))],none⟩,[],[]⟩,
  ⟨3,⟨(some 39),.HK 43 [(.t 37),(.t 38)],none⟩,[],[]⟩,
  ⟨4,⟨(some 40),.call 18 [(.t 36),(.t 39),(.c (.i .i64 9))],none⟩,[],[]⟩,
  ⟨5,⟨(some 35),.mv (.t 40),none⟩,[],[]⟩,
  ⟨6,⟨(some 41),.extract 0 (.t 35),none⟩,[],[]⟩,
  ⟨7,⟨(some 42),.extract 1 (.t 35),none⟩,[],[]⟩,
  ⟨8,⟨(some 8),.alloc [(.i .i64 0),(.i .i64 0),(.i .i64 0),(.l [] true),(.l [] true),(.i .i64 0)],none⟩,[],[]⟩,
  ⟨9,⟨none,.store 6 (.t 8) (.t 41),none⟩,[],[]⟩,
  ⟨10,⟨(some 9),.mv (.t 42),none⟩,[],[]⟩])
 (.seq [1] (.seq [1,94] (.EG [1,94] (⟨0,⟨(some 43),.mv (.t 3),none⟩,[],[]⟩::
  ⟨1,⟨(some 44),.bin .neq (.t 43) (.c (.i .i64 0)),none⟩,[],[]⟩::
  ⟨2,⟨(some 45),.mv (.t 44),none⟩,[],[]⟩::
  ⟨3,⟨(some 46),.mv (.t 5),(some (45,false))⟩,[],[]⟩::
  ⟨4,⟨(some 47),.bin .neq (.t 46) (.c (.i .i64 0)),(some (45,false))⟩,[],[]⟩::
  ⟨5,⟨(some 48),.pick (.t 45) (.c (.b true)) (.t 47),none⟩,[],[]⟩::
  ⟨6,⟨(some 49),.mv (.t 48),none⟩,[],[]⟩::
  ⟨7,⟨(some 50),.mv (.t 7),(some (49,false))⟩,[],[]⟩::
  ⟨8,⟨(some 51),.bin .neq (.t 50) (.c (.i .i64 0)),(some (49,false))⟩,[],[]⟩::
  ⟨9,⟨(some 52),.pick (.t 49) (.c (.b true)) (.t 51),none⟩,[],[]⟩::
  ⟨10,⟨(some 53),.mv (.t 52),none⟩,[],[]⟩::
  ⟨11,⟨(some 54),.mv (.t 9),(some (53,false))⟩,[],[]⟩::
  ⟨12,⟨(some 55),.bin .neq (.t 54) (.c (.i .i64 0)),(some (53,false))⟩,[],[]⟩::
  ⟨13,⟨(some 56),.pick (.t 53) (.c (.b true)) (.t 55),none⟩,[],[]⟩::
  ⟨14,⟨(some 57),.mv (.t 56),none⟩,[],[]⟩::
  ⟨15,⟨(some 58),.Bs 1 (.t 4),(some (57,false))⟩,[],[]⟩::
  ⟨16,⟨(some 59),.load (some 2) (.t 58),(some (57,false))⟩,[],[]⟩::
  ⟨17,⟨(some 60),.call 44 [(.c (.i .i64 5))],(some (57,false))⟩,[16],[⟨(some 59),.load (some 2) (.t 58),(some (57,false))⟩]⟩::
  ⟨18,⟨(some 61),.W9 2 true (.t 59) (.t 60),(some (57,false))⟩,[],[]⟩::
  ⟨19,⟨(some 62),.pick (.t 57) (.c (.b true)) (.t 61),none⟩,[],[]⟩::
  ⟨20,⟨(some 63),.mv (.t 62),none⟩,[],[]⟩::
  ⟨21,⟨(some 64),.Bs 3 (.t 4),(some (63,false))⟩,[],[]⟩::
  ⟨22,⟨(some 65),.load none (.t 64),(some (63,false))⟩,[],[]⟩::
  ⟨23,⟨(some 66),.len (.t 65),(some (63,false))⟩,[],[]⟩::
  ⟨24,⟨(some 67),.bin .neq (.t 66) (.c (.i .i64 1)),(some (63,false))⟩,[],[]⟩::
  ⟨25,⟨(some 68),.pick (.t 63) (.c (.b true)) (.t 67),none⟩,[],[]⟩::
  ⟨26,⟨(some 69),.mv (.t 68),none⟩,[],[]⟩::
  ⟨27,⟨(some 70),.Bs 1 (.t 6),(some (69,false))⟩,[],[]⟩::
  ⟨28,⟨(some 71),.load (some 2) (.t 70),(some (69,false))⟩,[],[]⟩::
  ⟨29,⟨(some 72),.call 44 [(.c (.i .i64 15))],(some (69,false))⟩,[28],[⟨(some 71),.load (some 2) (.t 70),(some (69,false))⟩]⟩::
  ⟨30,⟨(some 73),.W9 2 true (.t 71) (.t 72),(some (69,false))⟩,[],[]⟩::
  ⟨31,⟨(some 74),.pick (.t 69) (.c (.b true)) (.t 73),none⟩,[],[]⟩::
  ⟨32,⟨(some 75),.mv (.t 74),none⟩,[],[]⟩::
  ⟨33,⟨(some 76),.Bs 3 (.t 6),(some (75,false))⟩,[],[]⟩::
  ⟨34,⟨(some 77),.load none (.t 76),(some (75,false))⟩,[],[]⟩::
  ⟨35,⟨(some 78),.len (.t 77),(some (75,false))⟩,[],[]⟩::
  ⟨36,⟨(some 79),.bin .neq (.t 78) (.c (.i .i64 2)),(some (75,false))⟩,[],[]⟩::
  ⟨37,⟨(some 80),.pick (.t 75) (.c (.b true)) (.t 79),none⟩,[],[]⟩::
  ⟨38,⟨(some 81),.mv (.t 80),none⟩,[],[]⟩::
  ⟨39,⟨(some 82),.Bs 3 (.t 6),(some (81,false))⟩,[],[]⟩::
  ⟨40,⟨(some 83),.load none (.t 82),(some (81,false))⟩,[],[]⟩::
  ⟨41,⟨(some 84),.I7 3 none (.t 83) (.c (.i .i64 1)),(some (81,false))⟩,[],[]⟩::
  ⟨42,⟨(some 85),.Bs 1 (.t 84),(some (81,false))⟩,[],[]⟩::
  ⟨43,⟨(some 86),.load none (.t 85),(some (81,false))⟩,[],[]⟩::
  ⟨44,⟨(some 87),.bin .neq (.t 86) (.c (.i .i64 0)),(some (81,false))⟩,[],[]⟩::
  ⟨45,⟨(some 88),.pick (.t 81) (.c (.b true)) (.t 87),none⟩,[],[]⟩::
  ⟨46,⟨(some 89),.mv (.t 88),none⟩,[],[]⟩::
  ⟨47,⟨(some 90),.Bs 1 (.t 8),(some (89,false))⟩,[],[]⟩::
  ⟨48,⟨(some 91),.load (some 2) (.t 90),(some (89,false))⟩,[],[]⟩::
  ⟨49,⟨(some 92),.call 44 [(.c (.i .i64 10))],(some (89,false))⟩,[48],[⟨(some 91),.load (some 2) (.t 90),(some (89,false))⟩]⟩::
  ⟨50,⟨(some 93),.W9 2 true (.t 91) (.t 92),(some (89,false))⟩,[],[]⟩::
  ⟨51,⟨(some 94),.pick (.t 89) (.c (.b true)) (.t 93),none⟩,[],[]⟩:: []))
 (.cond (.t 94)
 (.seq [0] (.B5 [⟨(some 0),.mv (.c (.b false)),none⟩])
 .ret)
 .skip))
 (.seq [1,3,10] (.B5 [⟨(some 96),.call 42 [(.c (.b true))],none⟩,
  ⟨(some 97),.call 45 [],none⟩,
  ⟨(some 98),.Di 1 2 [(.i .i64 0)] [(0,(.c (.i .i64 (-1)))),(1,(.c (.i .i64 0)))],none⟩,
  ⟨(some 99),.HK 43 [(.t 97),(.t 98)],none⟩,
  ⟨(some 100),.call 18 [(.t 96),(.t 99),(.c (.i .i64 9))],none⟩,
  ⟨(some 95),.mv (.t 100),none⟩,
  ⟨(some 101),.extract 0 (.t 95),none⟩,
  ⟨(some 102),.extract 1 (.t 95),none⟩,
  ⟨(some 10),.alloc [(.i .i64 0),(.i .i64 0),(.i .i64 0),(.l [] true),(.l [] true),(.i .i64 0)],none⟩,
  ⟨none,.store 6 (.t 10) (.t 101),none⟩,
  ⟨(some 3),.mv (.t 102),none⟩])
 (.seq [3,5,10,11,12] (.EG [3,5,10,11,12] [⟨0,⟨(some 104),.load (some 6) (.t 1),none⟩,[],[]⟩,
  ⟨1,⟨(some 105),.build [(.i .i64 0),(.i .i64 0),(.i .i64 0)] [(0,1,(.c (.i .i64 2))),(1,1,(.c (.i .i64 1))),(2,1,(.c (.i .i64 1)))],none⟩,[],[]⟩,
  ⟨2,⟨(some 106),.Di 1 2 [(.i .i64 0)] [(0,(.c (.i .i64 (-1)))),(1,(.c (.i .i64 (-1))))],none⟩,[],[]⟩,
  ⟨3,⟨(some 107),.HK 43 [(.t 105),(.t 106)],none⟩,[],[]⟩,
  ⟨4,⟨(some 108),.Di 1 2 [(.i .i64 0)] [(0,(.c (.i .i64 0))),(1,(.c (.i .i64 1)))],none⟩,[],[]⟩,
  ⟨5,⟨(some 109),.call 13 [(.t 104),(.t 107),(.t 108)],none⟩,[],[]⟩,
  ⟨6,⟨(some 103),.mv (.t 109),none⟩,[],[]⟩,
  ⟨7,⟨(some 110),.extract 0 (.t 103),none⟩,[],[]⟩,
  ⟨8,⟨(some 111),.extract 1 (.t 103),none⟩,[],[]⟩,
  ⟨9,⟨(some 112),.extract 2 (.t 103),none⟩,[],[]⟩,
  ⟨10,⟨(some 11),.mv (.t 110),none⟩,[],[]⟩,
  ⟨11,⟨(some 12),.mv (.t 111),none⟩,[],[]⟩,
  ⟨12,⟨(some 5),.mv (.t 112),none⟩,[],[]⟩])
 (.seq [3,5,7,10,11,12,13,14] (.B5 [⟨(some 114),.call 44 [(.c (.i .i64 4))],none⟩,
  ⟨(some 115),.call 46 [],none⟩,
  ⟨(some 116),.call 44 [(.c (.i .i64 2))],none⟩,
  ⟨(some 117),.Di 2 3 [(.i .i64 0),(.i .i64 0)] [(0,(.t 114)),(1,(.t 115)),(2,(.t 116))],none⟩,
  ⟨(some 118),.call 15 [(.c (.i .i64 5)),(.t 117)],none⟩,
  ⟨(some 113),.mv (.t 118),none⟩,
  ⟨(some 119),.extract 0 (.t 113),none⟩,
  ⟨(some 120),.extract 1 (.t 113),none⟩,
  ⟨(some 121),.extract 2 (.t 113),none⟩,
  ⟨(some 13),.alloc [(.i .i64 0),(.i .i64 0)],none⟩,
  ⟨none,.store 2 (.t 13) (.t 119),none⟩,
  ⟨(some 14),.mv (.t 120),none⟩,
  ⟨(some 7),.mv (.t 121),none⟩])
 (.seq [0] (.EG [0] (⟨0,⟨(some 122),.mv (.t 3),none⟩,[],[]⟩::
  ⟨1,⟨(some 123),.bin .eql (.t 122) (.c (.i .i64 0)),none⟩,[],[]⟩::
  ⟨2,⟨(some 124),.mv (.t 123),none⟩,[],[]⟩::
  ⟨3,⟨(some 125),.mv (.t 5),(some (124,true))⟩,[],[]⟩::
  ⟨4,⟨(some 126),.bin .eql (.t 125) (.c (.i .i64 0)),(some (124,true))⟩,[],[]⟩::
  ⟨5,⟨(some 127),.pick (.t 124) (.t 126) (.c (.b false)),none⟩,[],[]⟩::
  ⟨6,⟨(some 128),.mv (.t 127),none⟩,[],[]⟩::
  ⟨7,⟨(some 129),.mv (.t 7),(some (128,true))⟩,[],[]⟩::
  ⟨8,⟨(some 130),.bin .eql (.t 129) (.c (.i .i64 0)),(some (128,true))⟩,[],[]⟩::
  ⟨9,⟨(some 131),.pick (.t 128) (.t 130) (.c (.b false)),none⟩,[],[]⟩::
  ⟨10,⟨(some 132),.mv (.t 131),none⟩,[],[]⟩::
  ⟨11,⟨(some 133),.Bs 1 (.t 10),(some (132,true))⟩,[],[]⟩::
  ⟨12,⟨(some 134),.load (some 2) (.t 133),(some (132,true))⟩,[],[]⟩::
  ⟨13,⟨(some 135),.call 44 [(.c (.i .i64 101))],(some (132,true))⟩,[12],[⟨(some 134),.load (some 2) (.t 133),(some (132,true))⟩]⟩::
  ⟨14,⟨(some 136),.W9 2 false (.t 134) (.t 135),(some (132,true))⟩,[],[]⟩::
  ⟨15,⟨(some 137),.pick (.t 132) (.t 136) (.c (.b false)),none⟩,[],[]⟩::
  ⟨16,⟨(some 138),.mv (.t 137),none⟩,[],[]⟩::
  ⟨17,⟨(some 139),.Bs 3 (.t 10),(some (138,true))⟩,[],[]⟩::
  ⟨18,⟨(some 140),.load none (.t 139),(some (138,true))⟩,[],[]⟩::
  ⟨19,⟨(some 141),.len (.t 140),(some (138,true))⟩,[],[]⟩::
  ⟨20,⟨(some 142),.bin .eql (.t 141) (.c (.i .i64 1)),(some (138,true))⟩,[],[]⟩::
  ⟨21,⟨(some 143),.pick (.t 138) (.t 142) (.c (.b false)),none⟩,[],[]⟩::
  ⟨22,⟨(some 144),.mv (.t 143),none⟩,[],[]⟩::
  ⟨23,⟨(some 145),.Bs 3 (.t 10),(some (144,true))⟩,[],[]⟩::
  ⟨24,⟨(some 146),.load none (.t 145),(some (144,true))⟩,[],[]⟩::
  ⟨25,⟨(some 147),.I7 3 none (.t 146) (.c (.i .i64 0)),(some (144,true))⟩,[],[]⟩::
  ⟨26,⟨(some 148),.Bs 1 (.t 147),(some (144,true))⟩,[],[]⟩::
  ⟨27,⟨(some 149),.load none (.t 148),(some (144,true))⟩,[],[]⟩::
  ⟨28,⟨(some 150),.bin .eql (.t 149) (.c (.i .i64 2)),(some (144,true))⟩,[],[]⟩::
  ⟨29,⟨(some 151),.pick (.t 144) (.t 150) (.c (.b false)),none⟩,[],[]⟩::
  ⟨30,⟨(some 152),.mv (.t 151),none⟩,[],[]⟩::
  ⟨31,⟨(some 153),.mv (.t 11),(some (152,true))⟩,[],[]⟩::
  ⟨32,⟨(some 154),.Di 1 1 [(.i .i64 0)] [(0,(.c (.i .i64 0)))],(some (152,true))⟩,[],[]⟩::
  ⟨33,⟨(some 155),.call 17 [(.t 153),(.t 154)],(some (152,true))⟩,[],[]⟩::
  ⟨34,⟨(some 156),.pick (.t 152) (.t 155) (.c (.b false)),none⟩,[],[]⟩::
  ⟨35,⟨(some 157),.mv (.t 156),none⟩,[],[]⟩::
  ⟨36,⟨(some 158),.mv (.t 12),(some (157,true))⟩,[],[]⟩::
  ⟨37,⟨(some 159),.not (.t 158),(some (157,true))⟩,[],[]⟩::
  ⟨38,⟨(some 160),.pick (.t 157) (.t 159) (.c (.b false)),none⟩,[],[]⟩::
  ⟨39,⟨(some 161),.mv (.t 160),none⟩,[],[]⟩::
  ⟨40,⟨(some 162),.load (some 2) (.t 13),(some (161,true))⟩,[],[]⟩::
  ⟨41,⟨(some 163),.call 46 [],(some (161,true))⟩,[40],[⟨(some 162),.load (some 2) (.t 13),(some (161,true))⟩]⟩::
  ⟨42,⟨(some 164),.W9 2 false (.t 162) (.t 163),(some (161,true))⟩,[],[]⟩::
  ⟨43,⟨(some 165),.pick (.t 161) (.t 164) (.c (.b false)),none⟩,[],[]⟩::
  ⟨44,⟨(some 166),.mv (.t 165),none⟩,[],[]⟩::
  ⟨45,⟨(some 167),.mv (.t 14),(some (166,true))⟩,[],[]⟩::
  ⟨46,⟨(some 168),.bin .eql (.t 167) (.c (.i .i64 2)),(some (166,true))⟩,[],[]⟩::
  ⟨47,⟨(some 169),.pick (.t 166) (.t 168) (.c (.b false)),none⟩,[],[]⟩::
  ⟨48,⟨(some 0),.mv (.t 169),none⟩,[],[]⟩:: []))
 .ret)))))))))))
def wi:Tryz.f12.body.bind (res Tryz.prog Tryz.f12.ntmps [43] [])=some (erase wY):=by kernel_rfl
def wU:S6:= .fn 170 wY [.t 0]
def rU:Iv Tryz.prog 12 wU:=fun _ _ _ hn h=>C8 Tryz.func12 (by kernel_rfl) wi (by kernel_rfl) hn h
def e12:Ue Tryz.prog:=⟨12,wU,rU⟩
def e42:=eZ [] [] Tryz.func42
def e24:=eX [] [] Tryz.func24
def e18:=eX [] [] Tryz.func18
def e43:=eZ [] [] Tryz.func43
def e44:=eX [] [] Tryz.func44
def e45:=eX [] [] Tryz.func45
def e13:=eX [] [] Tryz.func13
def e46:=eX [] [] Tryz.func46
def e15:=eX [] [] Tryz.func15
def e17:=eX [] [] Tryz.func17
def e76:=eX [] [] Tryz.func76
def e31:=eX [] [] Tryz.func31
def e62:=eX [] [] Tryz.func62
def e63:=eX [] [] Tryz.func63
def e65:=eX [] [] Tryz.func65
abbrev gS:AV:=(.B5 [⟨(some 2),.box (.t 0),none⟩,
 ⟨(some 4),.alloc [(.i .i64 0),(.i .i64 0),(.i .i64 0),(.l [] true),(.l [] true),(.i .i64 0)],none⟩])
def oO:List Am:=[⟨(some 6),.Yi (.func 123) [] [(.t 2),(.t 4)],none⟩]
abbrev gN:AV:=(.seq [2,4,5] (.B5 [⟨(some 7),.mv (.t 1),none⟩,
 ⟨(some 8),.Ih (.t 7) [],none⟩,
 ⟨(some 5),.alloc [(.i .i64 0),(.i .i64 0)],none⟩,
 ⟨none,.store 2 (.t 5) (.t 8),none⟩])
 (.seq [2,4] (.EG [2,4] [⟨0,⟨(some 9),.load none (.t 2),none⟩,[],[]⟩,
  ⟨1,⟨(some 10),.load none (.t 2),none⟩,[],[]⟩,
  ⟨2,⟨(some 11),.load (some 2) (.t 5),none⟩,[],[]⟩,
  ⟨3,⟨(some 12),.EX (.t 9),none⟩,[],[]⟩,
  ⟨4,⟨(some 13),.Bs 0 (.t 12),none⟩,[],[]⟩,
  ⟨5,⟨(some 14),.Bs 0 (.t 13),none⟩,[],[]⟩,
  ⟨6,⟨none,.store 1 (.t 14) (.c (.i .i64 1)),none⟩,[2,1],[⟨(some 11),.load (some 2) (.t 5),none⟩,⟨(some 10),.load none (.t 2),none⟩]⟩,
  ⟨7,⟨(some 15),.EX (.t 10),none⟩,[],[]⟩,
  ⟨8,⟨(some 16),.Bs 0 (.t 15),none⟩,[],[]⟩,
  ⟨9,⟨(some 17),.Bs 1 (.t 16),none⟩,[],[]⟩,
  ⟨10,⟨none,.store 2 (.t 17) (.t 11),none⟩,[],[]⟩])
 (.seq [4] (.B5 [⟨(some 18),.load none (.t 2),none⟩,
  ⟨(some 19),.EX (.t 18),none⟩,
  ⟨(some 20),.Bs 0 (.t 19),none⟩,
  ⟨(some 21),.load (some 6) (.t 20),none⟩,
  ⟨none,.store 6 (.t 4) (.t 21),none⟩])
 .ret)))
def qG:Tryz.f64.body.bind (Hr Tryz.prog Tryz.f64.ntmps [] [])=some (erase gS,oO,(.t 6),erase gN):=by kernel_rfl
def wS:S6:= .oA 22 gS oO (.t 6) gN [.c 4 (some 6)] [1,2,4] [1,2,4]
def rS:Iv Tryz.prog 64 wS:=fun _ _ _ hn h=>FP Tryz.func64 (by kernel_rfl) qG (by kernel_rfl) hn h
def e64:Ue Tryz.prog:=⟨64,wS,rS⟩
def e47:=eX [] [] Tryz.func47
def e48:=eX [] [] Tryz.func48
def e51:=eX [] [] Tryz.func51
def e52:=eX [] [] Tryz.func52
def e56:=eX [] [] Tryz.func56
def e55:=eX [] [] Tryz.func55
def e58:=eX [] [] Tryz.func58
def e53:=eX [] [] Tryz.func53
def e137:=eX [] [] Tryz.func137
def e81:=eX [] [] Tryz.func81
def e85:=eX [] [] Tryz.func85
def e109:=eX [] [] Tryz.func109
def e110:=eX [] [] Tryz.func110
def e111:=eX [] [] Tryz.func111
def e112:=eX [] [] Tryz.func112
def e113:=eX [] [] Tryz.func113
def e114:=eX [] [] Tryz.func114
def e115:=eX [] [] Tryz.func115
def e116:=eX [] [] Tryz.func116
def e117:=eX [] [] Tryz.func117
def e118:=eX [] [] Tryz.func118
def e119:=eX [] [] Tryz.func119
def e120:=eX [] [] Tryz.func120
def e121:=eX [] [] Tryz.func121
abbrev o0:AV:=(.seq [0,3,4] (.B5 [⟨(some 3),.box (.t 1),none⟩,
 ⟨(some 4),.alloc [(.i .i64 0),(.i .i64 0)],none⟩])
 (.seq [0,3,4,5] (.B5 [⟨(some 8),.mv (.t 0),none⟩,
  ⟨(some 9),.load (some 5) (.t 3),none⟩,
  ⟨(some 10),.call 165 [(.t 8),(.t 9),(.c (.i .i64 0))],none⟩,
  ⟨(some 5),.alloc [(.i .i64 0),(.i .i64 0)],none⟩,
  ⟨none,.store 2 (.t 5) (.t 10),none⟩])
 (.seq [3,4,5,6] (.B5 [⟨(some 11),.mv (.t 0),none⟩,
  ⟨(some 12),.load (some 5) (.t 3),none⟩,
  ⟨(some 13),.call 165 [(.t 11),(.t 12),(.c (.i .i64 1))],none⟩,
  ⟨(some 6),.alloc [(.i .i64 0),(.i .i64 0)],none⟩,
  ⟨none,.store 2 (.t 6) (.t 13),none⟩])
 (.seq [3,4,5,6,7] (.B5 [⟨(some 7),.mv (.c (.b false)),none⟩])
 (.seq [4,7] (.seq [4,5,6,7,16] (.B5 [⟨(some 14),.Bs 0 (.t 3),none⟩,
  ⟨(some 15),.Bs 0 (.t 14),none⟩,
  ⟨(some 16),.load none (.t 15),none⟩])
 (.block 0 (.seq [4,5,6,7,16,17] (.B5 [⟨(some 18),.bin .eql (.t 16) (.c (.i .i64 12)),none⟩,
  ⟨(some 17),.mv (.t 18),none⟩])
 (.cond (.t 17)
 (.seq [4] (.EG [4] [⟨0,⟨(some 19),.load (some 2) (.t 5),none⟩,[],[]⟩,
  ⟨2,⟨(some 21),.load (some 2) (.t 6),none⟩,[],[]⟩,
  ⟨1,⟨(some 20),.call 101 [(.t 19)],none⟩,[2],[⟨(some 21),.load (some 2) (.t 6),none⟩]⟩,
  ⟨3,⟨(some 22),.call 101 [(.t 21)],none⟩,[],[]⟩,
  ⟨4,⟨(some 23),.bin .add (.t 20) (.t 22),none⟩,[],[]⟩,
  ⟨5,⟨(some 24),.call 103 [(.t 23)],none⟩,[],[]⟩,
  ⟨6,⟨none,.store 2 (.t 4) (.t 24),none⟩,[],[]⟩])
 .ret)
 (.seq [4,5,6,7,16,25] (.B5 [⟨(some 26),.bin .eql (.t 16) (.c (.i .i64 13)),none⟩,
  ⟨(some 25),.mv (.t 26),none⟩])
 (.cond (.t 25)
 (.seq [4] (.EG [4] [⟨0,⟨(some 27),.load (some 2) (.t 5),none⟩,[],[]⟩,
  ⟨2,⟨(some 29),.load (some 2) (.t 6),none⟩,[],[]⟩,
  ⟨1,⟨(some 28),.call 101 [(.t 27)],none⟩,[2],[⟨(some 29),.load (some 2) (.t 6),none⟩]⟩,
  ⟨3,⟨(some 30),.call 101 [(.t 29)],none⟩,[],[]⟩,
  ⟨4,⟨(some 31),.bin .sub (.t 28) (.t 30),none⟩,[],[]⟩,
  ⟨5,⟨(some 32),.call 103 [(.t 31)],none⟩,[],[]⟩,
  ⟨6,⟨none,.store 2 (.t 4) (.t 32),none⟩,[],[]⟩])
 .ret)
 (.seq [4,5,6,7,16,33] (.B5 [⟨(some 34),.bin .eql (.t 16) (.c (.i .i64 14)),none⟩,
  ⟨(some 33),.mv (.t 34),none⟩])
 (.cond (.t 33)
 (.seq [4] (.EG [4] [⟨0,⟨(some 35),.load (some 2) (.t 5),none⟩,[],[]⟩,
  ⟨2,⟨(some 37),.load (some 2) (.t 6),none⟩,[],[]⟩,
  ⟨1,⟨(some 36),.call 101 [(.t 35)],none⟩,[2],[⟨(some 37),.load (some 2) (.t 6),none⟩]⟩,
  ⟨3,⟨(some 38),.call 101 [(.t 37)],none⟩,[],[]⟩,
  ⟨4,⟨(some 39),.bin .mul (.t 36) (.t 38),none⟩,[],[]⟩,
  ⟨5,⟨(some 40),.call 103 [(.t 39)],none⟩,[],[]⟩,
  ⟨6,⟨none,.store 2 (.t 4) (.t 40),none⟩,[],[]⟩])
 .ret)
 (.seq [4,5,6,7,16,41] (.B5 [⟨(some 42),.bin .eql (.t 16) (.c (.i .i64 15)),none⟩,
  ⟨(some 41),.mv (.t 42),none⟩])
 (.cond (.t 41)
 (.EG [4,7] [⟨0,⟨(some 43),.load (some 2) (.t 5),none⟩,[],[]⟩,
  ⟨2,⟨(some 45),.load (some 2) (.t 6),none⟩,[],[]⟩,
  ⟨1,⟨(some 44),.call 101 [(.t 43)],none⟩,[2],[⟨(some 45),.load (some 2) (.t 6),none⟩]⟩,
  ⟨3,⟨(some 46),.call 101 [(.t 45)],none⟩,[],[]⟩,
  ⟨4,⟨(some 47),.bin .lss (.t 44) (.t 46),none⟩,[],[]⟩,
  ⟨5,⟨(some 7),.mv (.t 47),none⟩,[],[]⟩])
 (.seq [4,5,6,7,48] (.B5 [⟨(some 49),.bin .eql (.t 16) (.c (.i .i64 16)),none⟩,
  ⟨(some 48),.mv (.t 49),none⟩])
 (.cond (.t 48)
 (.B5 [⟨(some 50),.load (some 2) (.t 5),none⟩,
  ⟨(some 51),.load (some 2) (.t 6),none⟩,
  ⟨(some 52),.W9 2 false (.t 50) (.t 51),none⟩,
  ⟨(some 7),.mv (.t 52),none⟩])
 .skip))))))))))))
 (.seq [4] (.seq [4,53] (.B5 [⟨(some 53),.mv (.t 7),none⟩])
 (.cond (.t 53)
 (.seq [4] (.B5 [⟨(some 54),.call 103 [(.c (.i .i64 1))],none⟩,
  ⟨none,.store 2 (.t 4) (.t 54),none⟩])
 .ret)
 .skip))
 (.seq [4] (.B5 [⟨(some 55),.call 103 [(.c (.i .i64 0))],none⟩,
  ⟨none,.store 2 (.t 4) (.t 55),none⟩])
 .ret)))))))
def qN:Tryz.f122.body.bind (res Tryz.prog Tryz.f122.ntmps [] [])=some (erase o0):=by kernel_rfl
def oo:S6:= .fn 56 o0 [.c 4 (some 2)]
def mh:Iv Tryz.prog 122 oo:=fun _ _ _ hn h=>C8 Tryz.func122 (by kernel_rfl) qN (by kernel_rfl) hn h
def e122:Ue Tryz.prog:=⟨122,oo,mh⟩
def e67:=eX [] [] Tryz.func67
def e66:=eX [] [] Tryz.func66
def fM:List Am:=[⟨(some 2),.mv (.t 5),none⟩]
abbrev aN:AV:=(.seq [0,1] (.seq [0,1,2,4] (.B5 [⟨(some 7),.mv (.t 2),none⟩,
 ⟨(some 8),.aT 178 (.a []) true (.t 7),none⟩,
 ⟨(some 6),.mv (.t 8),none⟩,
 ⟨(some 9),.extract 0 (.t 6),none⟩,
 ⟨(some 10),.extract 1 (.t 6),none⟩,
 ⟨(some 3),.alloc [],none⟩,
 ⟨none,.store 0 (.t 3) (.t 9),none⟩,
 ⟨(some 4),.mv (.t 10),none⟩])
 (.seq [0,1,2,16] (.B5 [⟨(some 11),.mv (.t 2),none⟩,
  ⟨(some 12),.aX 2 true (.t 11),none⟩,
  ⟨(some 13),.mv (.t 12),none⟩,
  ⟨(some 14),.mv (.t 4),(some (13,true))⟩,
  ⟨(some 15),.not (.t 14),(some (13,true))⟩,
  ⟨(some 16),.pick (.t 13) (.t 15) (.c (.b false)),none⟩])
 (.cond (.t 16)
 (.B5 [⟨(some 17),.mv (.t 2),none⟩,
  ⟨none,.panic (.t 17),none⟩])
 .skip)))
 (.B5 [⟨(some 18),.load none (.t 0),none⟩,
  ⟨(some 19),.EX (.t 18),none⟩,
  ⟨(some 20),.Bs 0 (.t 19),none⟩,
  ⟨(some 21),.load (some 6) (.t 20),none⟩,
  ⟨none,.store 6 (.t 1) (.t 21),none⟩]))
def lJ:Tryz.f123.body.bind (resRec Tryz.prog Tryz.f123.ntmps [] [])=some (5,fM,erase aN):=by kernel_rfl
def om:S6:= .pK 22 5 fM aN [0,1,2]
def mg:Iv Tryz.prog 123 om:=fun _ _ _ _ hn h=>Hi Tryz.func123 (by kernel_rfl) lJ rfl hn h
def e123:Ue Tryz.prog:=⟨123,om,mg⟩
def e97:=eX [] [] Tryz.func97
def e98:=eX [] [] Tryz.func98
def e99:=eX [] [] Tryz.func99
def e25:=eC 1 8 Tryz.func25
def e26:=eX [] [] Tryz.func26
def e57:=eX [] [] Tryz.func57
def e101:=eX [] [] Tryz.func101
def e103:=eX [] [] Tryz.func103
def e102:=eX [] [] Tryz.func102
def e104:=eX [] [] Tryz.func104
def e105:=eX [] [] Tryz.func105
abbrev wX:AV:=(.seq [1] (.B5 [⟨(some 1),.box (.t 0),none⟩,
 ⟨(some 2),.mv (.c (.b false)),none⟩])
 (.seq [1] (.seq [1,4] (.B5 [⟨(some 3),.Bs 0 (.t 1),none⟩,
  ⟨(some 4),.load none (.t 3),none⟩])
 (.block 0 (.seq [1,4,5] (.B5 [⟨(some 6),.bin .eql (.t 4) (.c (.i .i64 1)),none⟩,
  ⟨(some 5),.mv (.t 6),none⟩])
 (.cond (.t 5)
 (.seq [2] (.B5 [⟨(some 7),.Bs 1 (.t 1),none⟩,
  ⟨(some 8),.load none (.t 7),none⟩,
  ⟨(some 9),.bin .geq (.t 8) (.c (.i .i64 (-1000000000))),none⟩,
  ⟨(some 10),.mv (.t 9),none⟩,
  ⟨(some 11),.Bs 1 (.t 1),(some (10,true))⟩,
  ⟨(some 12),.load none (.t 11),(some (10,true))⟩,
  ⟨(some 13),.bin .leq (.t 12) (.c (.i .i64 1000000000)),(some (10,true))⟩,
  ⟨(some 14),.pick (.t 10) (.t 13) (.c (.b false)),none⟩,
  ⟨(some 2),.mv (.t 14),none⟩])
 .ret)
 (.seq [1,15] (.B5 [⟨(some 16),.bin .eql (.t 4) (.c (.i .i64 2)),none⟩,
  ⟨(some 15),.mv (.t 16),none⟩])
 (.cond (.t 15)
 (.seq [2] (.B5 [⟨(some 17),.Bs 1 (.t 1),none⟩,
  ⟨(some 18),.load none (.t 17),none⟩,
  ⟨(some 19),.bin .eql (.t 18) (.c (.i .i64 0)),none⟩,
  ⟨(some 2),.mv (.t 19),none⟩])
 .ret)
 .skip))))))
 (.seq [2] (.B5 [⟨(some 20),.Bs 0 (.t 1),none⟩,
  ⟨(some 21),.load none (.t 20),none⟩,
  ⟨(some 22),.bin .eql (.t 21) (.c (.i .i64 3)),none⟩,
  ⟨(some 23),.mv (.t 22),none⟩,
  ⟨(some 24),.Bs 1 (.t 1),(some (23,true))⟩,
  ⟨(some 25),.load none (.t 24),(some (23,true))⟩,
  ⟨(some 26),.bin .geq (.t 25) (.c (.i .i64 0)),(some (23,true))⟩,
  ⟨(some 27),.pick (.t 23) (.t 26) (.c (.b false)),none⟩,
  ⟨(some 28),.mv (.t 27),none⟩,
  ⟨(some 29),.Bs 1 (.t 1),(some (28,true))⟩,
  ⟨(some 30),.load none (.t 29),(some (28,true))⟩,
  ⟨(some 31),.bin .lss (.t 30) (.c (.i .i64 40)),(some (28,true))⟩,
  ⟨(some 32),.pick (.t 28) (.t 31) (.c (.b false)),none⟩,
  ⟨(some 2),.mv (.t 32),none⟩])
 .ret)))
def wh:Tryz.f54.body.bind (res Tryz.prog Tryz.f54.ntmps [] [])=some (erase wX):=by kernel_rfl
def wT:S6:= .fn 33 wX [.t 2]
def rT:Iv Tryz.prog 54 wT:=fun _ _ _ hn h=>C8 Tryz.func54 (by kernel_rfl) wh (by kernel_rfl) hn h
def e54:Ue Tryz.prog:=⟨54,wT,rT⟩
def e196:=eX [] [] Tryz.func196
abbrev aP:AV:=(.B5 [⟨(some 2),.alloc [(.b false)],none⟩])
def fK:List Am:=[⟨(some 3),.Yi (.func 258) [] [(.t 2)],none⟩]
abbrev aL:AV:=(.seq [2] (.B5 [⟨(some 4),.mv (.t 0),none⟩,
 ⟨(some 5),.Ih (.t 4) [],none⟩])
 (.seq [2] (.B5 [⟨none,.store 1 (.t 2) (.c (.b true)),none⟩])
 .ret))
def lH:Tryz.f195.body.bind (Hr Tryz.prog Tryz.f195.ntmps [] [])=some (erase aP,fK,(.t 3),erase aL):=by kernel_rfl
def oh:S6:= .oA 6 aP fK (.t 3) aL [.c 2 none] [0,2] [0,2]
def mc:Iv Tryz.prog 195 oh:=fun _ _ _ hn h=>FP Tryz.func195 (by kernel_rfl) lH (by kernel_rfl) hn h
def e195:Ue Tryz.prog:=⟨195,oh,mc⟩
def e138:=eX [] [] Tryz.func138
def e140:=eX [] [] Tryz.func140
def e139:=eX [] [] Tryz.func139
def e165:=eX [] [] Tryz.func165
def e166:=eX [] [] Tryz.func166
def e167:=eX [] [] Tryz.func167
abbrev aQ:AV:=(.seq [1,2,3,6] (.B5 [⟨(some 3),.box (.t 0),none⟩,
 ⟨(some 6),.alloc [(.i .i64 0),(.i .i64 0)],none⟩])
 (.B5 [⟨(some 7),.load none (.t 3),none⟩,
  ⟨(some 8),.EX (.t 7),none⟩,
  ⟨(some 9),.Bs 15 (.t 8),none⟩,
  ⟨(some 10),.load none (.t 9),none⟩,
  ⟨(some 11),.bin .add (.t 10) (.c (.i .i64 1)),none⟩,
  ⟨(some 12),.EX (.t 7),none⟩,
  ⟨(some 13),.Bs 15 (.t 12),none⟩,
  ⟨none,.store 1 (.t 13) (.t 11),none⟩]))
def fL:List Am:=[⟨(some 14),.Yi (.func 238) [] [(.t 3)],none⟩]
abbrev aM:AV:=(.seq [6] (.B5 [⟨(some 15),.load none (.t 3),none⟩,
 ⟨(some 16),.mv (.t 1),none⟩,
 ⟨(some 17),.mv (.t 2),none⟩,
 ⟨(some 18),.call 84 [(.t 15),(.t 16),(.t 17)],none⟩,
 ⟨none,.store 2 (.t 6) (.t 18),none⟩])
 .ret)
def lI:Tryz.f168.body.bind (Hr Tryz.prog Tryz.f168.ntmps [] [])=some (erase aQ,fL,(.t 14),erase aM):=by kernel_rfl
def oj:S6:= .oA 19 aQ fL (.t 14) aM [.c 6 (some 2)] [1,2,3,6] [1,2,3,6]
def mf:Iv Tryz.prog 168 oj:=fun _ _ _ hn h=>FP Tryz.func168 (by kernel_rfl) lI (by kernel_rfl) hn h
def e168:Ue Tryz.prog:=⟨168,oj,mf⟩
end Go.Gl
