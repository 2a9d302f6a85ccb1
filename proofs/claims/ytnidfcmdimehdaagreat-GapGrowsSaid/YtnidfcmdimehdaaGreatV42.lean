import Derived.Test.YtnidfcmdimehdaaGreatProg
import Derived.KernelRfl
import Derived.Test.YtnidfcmdimehdaaGreatV14
import Derived.Test.YtnidfcmdimehdaaGreatV41
set_option linter.all false
set_option linter.defProp false
set_option maxHeartbeats 8000000
noncomputable section
namespace Go.Gl
variable {P:Program}
abbrev Uo (sz b:Nat):AT:=(.seq [0] (.DA [⟨(some 2),.mv (.c (.l [] true)),none⟩])
 (.seq [0] (.seq [0,4] (.DA [⟨(some 3),.mv (.t 0),none⟩,
  ⟨(some 4),.ew 1 false (.t 3),none⟩])
 (.cond (.t 4)
 (.seq [2] (.DA [⟨(some 2),.mv (.c (.l [] true)),none⟩])
 .ret)
 .skip))
 (.seq [2] (.DA [⟨(some 5),.HT 1 0 [] [],none⟩,
  ⟨(some 6),.mv (.t 0),none⟩,
  ⟨(some 7),.append sz b (.t 5) (.t 6),none⟩,
  ⟨(some 2),.mv (.t 7),none⟩])
 .ret)))
def dM {q:Nat} {neg:Bool} {x:V} {k k':V->Prop} (h:JS q neg x k) (hm: ∀t,k (.b t)->k' (.b t)):JS q neg x k':=by
 unfold JS at *;split at h<;>first|exact hm _ h|exact⟨fun e t=>hm _ (h.1 e t),fun e=>hm _ (h.2 e)⟩|exact h.elim
def OQ {v:V} {Z:AE} {Q:R->AE->Prop} (h:Q (.ret v) Z):An Z v Q:=⟨v,Z,fun _ _ h=>h,.refl _,h⟩
def jR {Y:Ren} {f:Bool}:RV Y (.l [] f) (.l [] f):=by simp only[RV];exact⟨[],rfl,rfl⟩
section
attribute [local irreducible] Av An Af AQ AL Ac AP AS AK Ab AN AO As A3 AV A0 Ag W JS
def pZ {sz b:Nat} {v:V} {Z:AE} {Q:R->AE->Prop} (h1:JS 1 false v fun t=>(t= .b true->An Z (.l [] true) Q)/\(t= .b false->AL b Z sz (.l [] true) v fun v' Z'=>An Z' v' Q)) :
    W P (Uo sz b) (VZ [.t 2] Q) [(0,v)] Z:=by
 conv=>whnf
 repeat((first|refine⟨rfl,?_⟩|refine⟨kZ,?_⟩|refine LR ?_|refine LS ?_|refine KF ?_|refine KE ?_|refine E4 ?_|refine Kv ?_|(refine D3 ?_;intro K U)|(refine Ci ?_;intro KR KP hR hP)|(refine hR _ _ ?_;clear hP;clear KP;clear hR;clear KR)|(refine hP _ _ _ ?_;clear hP;clear KP;clear hR;clear KR)|refine EY ?_|refine GF ?_|refine LU ?_|refine E6 ?_|refine D7 ?_|refine GD ?_|(refine Ii ?_;intro KR KP hR hP)|(refine hP _ _ fun Z hsub=>?_;clear hP;clear KP;clear hR;clear KR)|refine H9 ?_|refine IA ?_|(apply U;clear U K)|(clear U K));try(conv=>whnf))
 refine dM h1 fun t ht=>?_
 conv=>whnf
 repeat((first|refine⟨rfl,?_⟩|refine⟨kZ,?_⟩|refine LR ?_|refine LS ?_|refine KF ?_|refine KE ?_|refine E4 ?_|refine Kv ?_|(refine D3 ?_;intro K U)|(refine Ci ?_;intro KR KP hR hP)|(refine hR _ _ ?_;clear hP;clear KP;clear hR;clear KR)|(refine hP _ _ _ ?_;clear hP;clear KP;clear hR;clear KR)|refine EY ?_|refine GF ?_|refine LU ?_|refine E6 ?_|refine D7 ?_|refine GD ?_|(refine Ii ?_;intro KR KP hR hP)|(refine hP _ _ fun Z hsub=>?_;clear hP;clear KP;clear hR;clear KR)|refine H9 ?_|refine IA ?_|(apply U;clear U K)|(clear U K));try(conv=>whnf))
 refine⟨fun h=>?_,fun h=>?_⟩
 .subst h
  conv=>whnf
  repeat((first|refine⟨rfl,?_⟩|refine⟨kZ,?_⟩|refine LR ?_|refine LS ?_|refine KF ?_|refine KE ?_|refine E4 ?_|refine Kv ?_|(refine D3 ?_;intro K U)|(refine Ci ?_;intro KR KP hR hP)|(refine hR _ _ ?_;clear hP;clear KP;clear hR;clear KR)|(refine hP _ _ _ ?_;clear hP;clear KP;clear hR;clear KR)|refine EY ?_|refine GF ?_|refine LU ?_|refine E6 ?_|refine D7 ?_|refine GD ?_|(refine Ii ?_;intro KR KP hR hP)|(refine hP _ _ fun Z hsub=>?_;clear hP;clear KP;clear hR;clear KR)|refine H9 ?_|refine IA ?_|(apply U;clear U K)|(clear U K));try(conv=>whnf))
  exact ht.1 rfl
 .subst h
  conv=>whnf
  repeat((first|refine⟨rfl,?_⟩|refine⟨kZ,?_⟩|refine LR ?_|refine LS ?_|refine KF ?_|refine KE ?_|refine E4 ?_|refine Kv ?_|(refine D3 ?_;intro K U)|(refine Ci ?_;intro KR KP hR hP)|(refine hR _ _ ?_;clear hP;clear KP;clear hR;clear KR)|(refine hP _ _ _ ?_;clear hP;clear KP;clear hR;clear KR)|refine EY ?_|refine GF ?_|refine LU ?_|refine E6 ?_|refine D7 ?_|refine GD ?_|(refine Ii ?_;intro KR KP hR hP)|(refine hP _ _ fun Z hsub=>?_;clear hP;clear KP;clear hR;clear KR)|refine H9 ?_|refine IA ?_|(apply U;clear U K)|(clear U K));try(conv=>whnf))
  refine NB (ht.2 rfl) fun v' Z' hq=>?_
  conv=>whnf
  repeat((first|refine⟨rfl,?_⟩|refine⟨kZ,?_⟩|refine LR ?_|refine LS ?_|refine KF ?_|refine KE ?_|refine E4 ?_|refine Kv ?_|(refine D3 ?_;intro K U)|(refine Ci ?_;intro KR KP hR hP)|(refine hR _ _ ?_;clear hP;clear KP;clear hR;clear KR)|(refine hP _ _ _ ?_;clear hP;clear KP;clear hR;clear KR)|refine EY ?_|refine GF ?_|refine LU ?_|refine E6 ?_|refine D7 ?_|refine GD ?_|(refine Ii ?_;intro KR KP hR hP)|(refine hP _ _ fun Z hsub=>?_;clear hP;clear KP;clear hR;clear KR)|refine H9 ?_|refine IA ?_|(apply U;clear U K)|(clear U K));try(conv=>whnf))
  exact hq
end
def lM {f : FuncId} {n sz b:Nat} (h: ∀(args:List V) (Z:AE) (Q:R->AE->Prop),args.length<=n->T P (Uo sz b) (VZ [.t 2] Q) (A5 0 args) Z->Av P f args Z Q) (hn:1<=n) (hb:b<=131072:=by decide):PB P f (.br (YX sz)):=by
 intro vs s r s' hc Y vs' Z hv hs Q hQ
 have main: ∀ {v v':V} {ys:List (List V)},vs= [v]->vs'= [v']->RV Y v v'->JB s sz v=some ys->(ys= []->r= .ret (.l [] true)/\s'=s)->
  (ys≠[]->(ys.all (fun e=>e.all CJ)&&Nat.ble ys.length 1073741824)=true/\s.nx<=NW/\r= .ret (.sl s.nx ys.length 0)/\s'=⟨s.nx+1,Tr.set (some (.arr sz ys)) A9 s.t s.nx⟩)->
  (∀k:V->Prop,(ys= []-> ∀t,k (.b t))->(ys≠[]->k (.b false))->JS 1 false v' k)->Av P f vs' Z Q:=fun {v v' ys} e1 e2 hr hy h0 h1 hk=>by
  subst e1;subst e2;refine h _ _ _ hn (mJ (pZ (hk _ (fun e t=>⟨fun _=>?_,fun _=>?_⟩) fun e=>⟨fun h=>(by cases h),fun _=>?_⟩)))
  .obtain⟨rfl,rfl⟩:=h0 e
   exact OQ (hQ Y _ Z (.refl _) ⟨_,jR,rfl⟩ hs)
  .obtain⟨rfl,rfl⟩:=h0 e
   refine H7 hs hy hr fun ys' hr'=>?_
   have:ys'= []:=by
    have:=hr'.len;rw[e]at this;exact Xy.1 this
   subst this;exact⟨fun e he=>(by cases he),fun e he=>(by cases he),⟨Nat.zero_le _,by simp⟩,fun _=>OQ (hQ Y _ Z (.refl _) ⟨_,jR,rfl⟩ hs),fun h=>absurd rfl h⟩
  .obtain⟨g1,g2,rfl,rfl⟩:=h1 e
   simp only[A4]at g1;refine H7 hs hy hr fun ys' hr'=>?_
   have hl:=hr'.len;have hne:ys'≠[]:=fun e'=>e (by rw[e']at hl;exact Xy.1 hl.symm)
   refine⟨M0 g1.1 hr',fun e he=>(by cases he),?_,fun e=>absurd e hne,fun _=>⟨rfl,fun n cap hn0 hc=>?_⟩⟩
   .have:=Tz (b:=b) (L:=ys.length) (by simp only[xc,A4];exact⟨g1.2,Nat.ble_eq_true_of_le hb⟩)
    simp only[List.length_nil,Gq];rw[hl];exact this
   .obtain⟨Y',q1,q2,q3⟩:=hs.new g2 hn0 cap (o:= .arr sz ys) (o':= .arr sz ys' cap) ⟨_,hr',rfl⟩
    refine OQ (hQ Y' _ _ q1 ?_ ?_)
    .refine⟨_,?_,rfl⟩
     simp only[RV];exact⟨_,q2,by simp[hl]⟩
    .simpa using q3
 have parts: ∀ {ys:List (List V)},(match some ys with
  | some []=>some (R.ret (V.l [] true),s)
  | some (y::ys)=>bif (y::ys).all (fun e=>e.all CJ)&&Nat.ble (y::ys).length 1073741824 then s.new (.arr sz (y::ys)) fun i s'=>some (.ret (.sl i (y::ys).length 0),s')else none
  | none=>none)=some (r,s')->(ys= []->r= .ret (.l [] true)/\s'=s)/\
    (ys≠[]->(ys.all (fun e=>e.all CJ)&&Nat.ble ys.length 1073741824)=true/\s.nx<=NW/\r= .ret (.sl s.nx ys.length 0)/\s'=⟨s.nx+1,Tr.set (some (.arr sz ys)) A9 s.t s.nx⟩):=fun {ys} hc=>by
  cases ys with
  | nil=>cases hc;exact⟨fun _=>⟨rfl,rfl⟩,fun h=>absurd rfl h⟩
  | cons y ys=>
    obtain⟨h1,h2⟩:=AW hc;obtain⟨h3,h4⟩:=St.IX h2;cases h4;exact⟨fun h=>(by cases h),fun _=>⟨h1,h3,rfl,rfl⟩⟩
 unfold YX at hc;split at hc
 .rename_i es f
  obtain⟨v',l',k1,k2,rfl⟩:=hv;obtain rfl:l'= []:=k2;cases hy:JB s sz (.l es f)with
  | none=>rw[hy]at hc;cases hc
  | some ys=>
    rw[hy]at hc;obtain⟨p1,p2⟩:=parts hc;refine main rfl rfl k1 hy p1 p2 fun k h0 h1=>?_
    simp only[RV]at k1;obtain⟨es',k3,rfl⟩:=k1;have hl:=(Fo.1 k3).len
    have he:ys=es:=by
     simp only[JB]at hy;exact(Option.some.inj (AW hy).2).symm
    subst he;unfold JS;exact⟨fun e=>h0 (by rw[e]at hl;exact Xy.1 hl.symm),fun e=>h1 fun e'=>e (by rw[e']at hl;exact Xy.1 hl)⟩
 .rename_i m len c
  obtain⟨v',l',k1,k2,rfl⟩:=hv;obtain rfl:l'= []:=k2;cases hy:JB s sz (.sl m len c)with
  | none=>rw[hy]at hc;cases hc
  | some ys=>
    rw[hy]at hc;obtain⟨p1,p2⟩:=parts (ys:=ys) hc;refine main rfl rfl k1 hy p1 p2 fun k h0 h1=>?_
    simp only[RV]at k1;obtain⟨m',k3,rfl⟩:=k1;unfold JS;show k (.b false);by_cases e:ys= []
    .exact h0 e false
    .exact h1 e
 .cases hc
end Go.Gl
namespace Go.Gl
variable {P:Program}
structure fD (P:Program) where
 k:Nat
 fs:bk
 ok:PB P k fs
def xu:List (fD P)->Tr bk
 | []=> .leaf
 | e::r=>bif Nat.ble e.k 1000000 then Tr.set (some e.fs) A9 (xu r) e.k else xu r
def YL: ∀l:List (fD P),Zo (fun i=>PB P i) id (xu l)
 | []=>px
 | e ::r=>by
   unfold xu;cases h:Nat.ble e.k 1000000 with
   | false=>exact YL r
   | true=>
     have hk:e.k+1<2 ^ A9:=by
      have:=Nat.le_of_ble_eq_true h;have e2:(2:Nat) ^ A9=1099511627776:=by decide
      omega
     intro j a ha;rw[cond_true,Tr.ED A9 _ _ hk]at ha;split at ha
     .next e1=>subst e1;cases ha;exact e.ok
     .exact YL r j a ha
def eX {k n:Nat} {fn:Func} {ac:AT} {rs:List RS} (pu fz:List Nat) (hf:P.funcs[k]? =some fn)
    (hn:fn.ntmps=n:=by conv=>lhs;reduce)
    (hr:NT P fn.results.toList=some rs:=by conv=>lhs;reduce)
    (hc:bg (rs.map xk) ((fn.body.bind (res P fn.ntmps pu fz)).getD .skip) [] (rs.map xk)=ac:=by conv=>lhs;reduce)
    (hb:fn.body.bind (res P fn.ntmps pu fz)=some (erase ac):=by kernel_rfl) (hok:okF P k=true:=by kernel_rfl):fD P:=
 ⟨k,.fn n ac rs,fun _ _ _ ha h=>Er hf hok hb hr (hn ▸ ha) h⟩
def eZ {k n:Nat} {fn:Func} {ac:AT} {rs:List RS} (pu fz:List Nat) (hf:P.funcs[k]? =some fn)
    (hn:fn.ntmps=n:=by conv=>lhs;reduce)
    (hr:NT P fn.results.toList=some rs:=by conv=>lhs;reduce)
    (hc:bg (rs.map xk) ((fn.body.bind (res P fn.ntmps pu fz)).getD .skip) [] (rs.map xk)=ac:=by conv=>lhs;reduce)
    (hb:fn.body.bind (res P fn.ntmps pu fz)=some (erase ac):=by kernel_rfl) (hok:okF P k=true:=by kernel_rfl):fD P:=
 ⟨k,.xw n ac rs,fun _ _ _ ha h=>Er hf hok hb hr (hn ▸ ha) h⟩
def eC {k:Nat} {fn:Func} (sz b:Nat) (hf:P.funcs[k]? =some fn) (hb:fn.body.bind (res P fn.ntmps [] [])=some (erase (Uo sz b)):=by kernel_rfl)
    (hr:NT P fn.results.toList=some [.t 2]:=by kernel_rfl) (hok:okF P k=true:=by kernel_rfl) (hn:Nat.ble 1 fn.ntmps=true:=by kernel_rfl) (hs:Nat.ble b 131072=true:=by kernel_rfl):fD P:=
 ⟨k,.br (YX sz),lM (sz:=sz) (b:=b) (fun _ _ _ ha h=>Er hf hok hb hr ha h) (Nat.le_of_ble_eq_true hn) (Nat.le_of_ble_eq_true hs)⟩
structure MM (P:Program) where
 m:FG
 ok:HU P m
def MM.add (M:MM P) {f:Nat} {vs:List V} {v:V} (h:CG vs=true/\BG v=true/\Pure P f vs v):MM P:=⟨sK M.m f vs v,qB M.ok h⟩
end Go.Gl
namespace Go.Gl
open Go.Proofs
set_option maxRecDepth 100000
def e9:=eX [] [] Tryz.func9
def e36:=eZ [] [] Tryz.func36
def e7:=eX [] [] Tryz.func7
def e8:=eX [] [] Tryz.func8
def e20:=eX [] [] Tryz.func20
def e37:=eX [] [] Tryz.func37
def e15:=eX [] [] Tryz.func15
def e39:=eZ [] [] Tryz.func39
def e38:=eX [] [] Tryz.func38
def e17:=eX [] [] Tryz.func17
def e40:=eX [] [] Tryz.func40
def e26:=eX [] [] Tryz.func26
def e43:=eX [] [] Tryz.func43
def e42:=eX [] [] Tryz.func42
def e41:=eX [] [] Tryz.func41
def e44:=eX [] [] Tryz.func44
def e31:=eX [] [] Tryz.func31
def e34:=eX [] [] Tryz.func34
def e33:=eX [] [] Tryz.func33
def e32:=eX [] [] Tryz.func32
def e35:=eX [] [] Tryz.func35
def e65:=eX [] [] Tryz.func65
def e50:=eX [] [] Tryz.func50
def e52:=eZ [] [] Tryz.func52
def e51:=eX [] [] Tryz.func51
def e53:=eX [] [] Tryz.func53
def e98:=eX [] [] Tryz.func98
def e97:=eX [] [] Tryz.func97
def e75:=eX [] [] Tryz.func75
def e73:=eX [] [] Tryz.func73
def e74:=eX [] [] Tryz.func74
def e99:=eX [] [] Tryz.func99
def e100:=eX [] [] Tryz.func100
def e71:=eX [] [] Tryz.func71
def e11:=eX [] [] Tryz.func11
def e87:=eX [] [] Tryz.func87
def e88:=eX [] [] Tryz.func88
def e89:=eX [] [] Tryz.func89
def e91:=eX [] [] Tryz.func91
def e90:=eX [] [] Tryz.func90
def e95:=eX [] [] Tryz.func95
def e67:=eX [] [] Tryz.func67
def e66:=eX [] [] Tryz.func66
def e108:=eX [] [] Tryz.func108
def e106:=eX [] [] Tryz.func106
def e107:=eX [] [] Tryz.func107
def e109:=eX [] [] Tryz.func109
def e72:=eX [] [] Tryz.func72
def e116:=eX [] [] Tryz.func116
def e117:=eX [] [] Tryz.func117
def e142:=eX [] [] Tryz.func142
def e156:=eZ [] [] Tryz.func156
def e77:=eX [] [] Tryz.func77
def e157:=eX [] [] Tryz.func157
end Go.Gl
