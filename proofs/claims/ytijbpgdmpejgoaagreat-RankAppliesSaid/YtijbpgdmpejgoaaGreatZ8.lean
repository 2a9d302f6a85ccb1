import Derived.Test.YtijbpgdmpejgoaaGreatZ5
import Derived.Test.YtijbpgdmpejgoaaGreatZ7
set_option linter.all false
set_option linter.defProp false
noncomputable section
namespace Go.Gl
open Go.Proofs
attribute [local irreducible] BC Ax Ai AU AO Ag AV AW AM Af AR AT A0 A9 Sat Ab A6 Ak W
def Ay (p:Prog):List (List Int):=p.AN.map (·.parents)
def fQ (p:Prog):Prop:=p.AN.length≤Ae∧ ∀c∈p.AN,c.parents.length≤Ae∧c.AS.length≤Ae∧c.inits.length≤Ae
def Vj (p:Prog) (hp:fQ p) (hk0:p.AN.length≤1000):Pure Tryz.prog 91 [.a (BU p)] (.l (EZ (Ay p)) false):=by
 refine mz kZ ?_
 conv=>whnf
 repeat((first|(refine As ?_;intro K U)|(refine AY ?_;intro I C G F)|(apply G;clear F C G I)|refine Bc ?_|refine DY ?_|(apply U;clear U K)|fail);conv=>whnf)
 refine CZ p.AN.length (fun k v=>[(3,v),(4,eI (BL k))]) (fun k v=>[.own v 1 (EZ ((p.AN.take k).map (·.parents)))]) (fun _ _=>True) (.l [] true) rfl trivial (Gg Sat.nil 1) ?_;rintro k v σ hk - hs
 conv=>whnf
 repeat((first|refine⟨rfl,?_⟩|refine Br ?_|refine Eo ?_|(refine As ?_;intro K U)|(refine AY ?_;intro I C G F)|(apply G;clear F C G I)|refine Bs ?_|(apply U;clear U K)|fail);conv=>whnf)
 refine Fs hk hp.1 (fun c hc hlt=>?_) fun hk=>?_
 ·have hcm:=hp.2 c (Cj hc)
  conv=>whnf
  repeat((first|refine Br ?_|(refine As ?_;intro K U)|(refine AY ?_;intro I C G F)|refine Bv ?_|refine Bc ?_|(apply U;clear U K)|fail);conv=>whnf)
  refine Hy hc hp.1 rfl ?_
  conv=>whnf
  repeat((first|refine Br ?_|fail);conv=>whnf)
  refine Yq Co (by have:=hcm.1;have hM:=Mx;omega) ?_
  conv=>whnf
  refine Fo hs 0 (x:=c.parents) rfl (by have hM:=Mx;simp only[BQ,MS];omega) DM fun v' σ' hs'=>?_
  conv=>whnf
  repeat((first|refine⟨rfl,?_⟩|(refine AY ?_;intro I C G F)|(apply G;clear F C G I)|(apply U;clear U K)|(clear U K));conv=>whnf)
  refine⟨hlt,v',rfl,trivial,?_⟩;rw[AX hc,TN];exact hs'
 ·conv=>whnf
  repeat((first|(refine As ?_;intro K U)|(refine AY ?_;intro I C G F)|(apply G;clear F C G I)|refine DZ ?_|refine D3 ?_|(apply U;clear U K)|(clear U K));conv=>whnf)
  exact Fw hs 0 rfl (by rw[BK hk];rfl)
def BT (i:Nat):List ON→List Int
 | []=>[]
 | c::r=>List.replicate c.AS.length ((i:Int)+3)++BT (i+1) r
def AQ (p:Prog):AK:=⟨Ay p,BT 0 p.AN⟩
def Hf (i:Nat) (a b:List ON):BT i (a++b)=BT i a++BT (i+a.length) b:=by
 induction a generalizing i with
 | nil=>simp[BT]
 | cons c r ih=>
   simp only[List.cons_append,BT,ih,TW,MC];rw[show i+1+r.length=i+(r.length+1) by omega]
def Bp (cs:List ON):Nat:=(cs.map (·.AS.length)).sum
def CL (i:Nat) (cs:List ON):(BT i cs).length=Bp cs:=by
 induction cs generalizing i with
 | nil=>rfl
 | cons c r ih=>simp[BT,ih,Bp]
def Nz {cs:List ON} {k:Nat} {c:ON} (h:cs[k]? =some c):Bp (cs.take k)+c.AS.length≤Bp cs:=by
 induction cs generalizing k with
 | nil=>cases h
 | cons d r ih=>
   cases k with
   | zero=>simp at h;subst h;simp[Bp]
   | succ k=>simp at h;have:=ih h;simp only[Bp,List.take_succ_cons,Et,List.sum_cons]at *;omega
def MD (p:Prog) (hp:fQ p) (hk0:p.AN.length≤1000) (hm:Bp p.AN≤Ae):Pure Tryz.prog 62 [.a (BU p)] (.a (A2 (AQ p))):=by
 refine nK kZ ?_
 conv=>whnf
 repeat((first|(refine As ?_;intro K U)|(refine AY ?_;intro I C G F)|fail);conv=>whnf)
 intro n hn;have hs:=YE (l:=[]) (σ:=emp) Sat.nil hn (o:= .cs [.l [] true,.l [] true])
 conv=>whnf
 repeat((first|refine⟨kZ,?_⟩|refine Br ?_|(refine As ?_;intro K U)|(refine AY ?_;intro I C G F)|(apply G;clear F C G I)|(apply U;clear U K)|fail);conv=>whnf)
 refine(Vj p hp hk0).use ?_
 conv=>whnf
 intro m hm;have hs:=YE hs hm (o:= .cs [.l [] true,.l [] true])
 conv=>whnf
 refine IA hs 1 rfl rfl rfl rfl (by decide) fun σ hs=>?_
 conv=>whnf
 repeat((first|(refine As ?_;intro K U)|(refine AY ?_;intro I C G F)|(apply G;clear F C G I)|refine Bc ?_|refine DY ?_|(apply U;clear U K)|fail);conv=>whnf)
 refine CZ p.AN.length (fun k _=>[(4,eI (BL k))]) (fun k v=>[.box n [.l [] true,.l [] true],.box m [.l (EZ (Ay p)) false,v],.own v 1 (iL (BT 0 (p.AN.take k)))]) (fun _ _=>True) (.l [] true) rfl trivial (Gg hs 1) ?_;rintro k v σ hk - hs
 conv=>whnf
 repeat((first|refine⟨rfl,?_⟩|refine Br ?_|refine Eo ?_|(refine As ?_;intro K U)|(refine AY ?_;intro I C G F)|(apply G;clear F C G I)|refine Bs ?_|(apply U;clear U K)|fail);conv=>whnf)
 refine Fs hk hp.1 (fun c hc hlt=>?_) fun hk=>?_
 ·have hcm:=hp.2 c (Cj hc)
  have htk:=Nz hc
  conv=>whnf
  repeat((first|(refine As ?_;intro K U)|(refine AY ?_;intro I C G F)|(apply G;clear F C G I)|refine Bv ?_|refine Bc ?_|refine DY ?_|(apply U;clear U K)|fail);conv=>whnf)
  refine CZ c.AS.length (fun j _=>[(5,eI (BL j))]) (fun j v=>[.box n [.l [] true,.l [] true],.box m [.l (EZ (Ay p)) false,v],.own v 1 (iL (BT 0 (p.AN.take k)++List.replicate j ((k:Int)+3)))]) (fun _ _=>True) v rfl trivial (by simpa using hs) ?_;rintro j v σ hj - hs
  conv=>whnf
  repeat((first|refine Br ?_|(refine As ?_;intro K U)|(refine AY ?_;intro I C G F)|fail);conv=>whnf)
  refine Hy hc hp.1 rfl ?_
  conv=>whnf
  repeat((first|refine⟨rfl,?_⟩|refine Br ?_|refine Eo ?_|(apply G;clear F C G I)|refine Bs ?_|(apply U;clear U K)|fail);conv=>whnf)
  refine Fs hj hcm.2.1 (fun s hsl hjlt=>?_) fun hj=>?_
  ·conv=>whnf
   repeat((first|(refine As ?_;intro K U)|(refine AY ?_;intro I C G F)|refine Bv ?_|refine Bc ?_|(apply U;clear U K)|fail);conv=>whnf)
   refine Ro hs 1 rfl ?_
   conv=>whnf
   repeat((first|refine⟨rfl,?_⟩|fail);conv=>whnf)
   have he:IntKind.i64.wrap (BL k+3)=(k:Int)+3:=by
    have:=hp.1;rw[AL (by omega),wrap64 (by omega) (by simp only[Ae]at *;omega)]
   refine Fo hs 2 (x:=IntKind.i64.wrap (BL k+3)) rfl (by have hM:=Mx;simp only[RA,CL,List.length_replicate];omega) Co fun v' σ' hs'=>?_
   conv=>whnf
   refine Jy hs' 1 rfl (Ge hs' 2 rfl) kZ fun σ2 hs2=>?_
   conv=>whnf
   repeat((first|refine⟨rfl,?_⟩|(refine AY ?_;intro I C G F)|(apply G;clear F C G I)|(apply U;clear U K)|(clear U K));conv=>whnf)
   refine⟨hjlt,v',rfl,trivial,?_⟩;rw[List.replicate_succ',←TW];rw[he]at hs2;exact hs2
  ·conv=>whnf
   repeat((first|refine⟨rfl,?_⟩|(refine AY ?_;intro I C G F)|(apply G;clear F C G I)|refine DZ ?_|(apply U;clear U K)|(clear U K));conv=>whnf)
   refine⟨hlt,v,rfl,trivial,?_⟩;rw[AX hc,Hf];have:(p.AN.take k).length=k:=by simp;omega
   rw[this];simpa[BT,hj]using hs
 ·conv=>whnf
  repeat((first|(refine As ?_;intro K U)|(refine AY ?_;intro I C G F)|refine DZ ?_|(apply U;clear U K)|(clear U K));conv=>whnf)
  refine Ro hs 1 rfl ?_
  conv=>whnf
  repeat((first|refine⟨kZ,?_⟩|fail);conv=>whnf)
  refine IA hs 0 rfl rfl rfl (by simp[Ge hs 2 rfl]) kZ fun σ2 hs2=>?_
  conv=>whnf
  repeat((first|(apply G;clear F C G I)|refine D3 ?_|(apply U;clear U K)|fail);conv=>whnf)
  refine Ro hs2 0 rfl ?_
  conv=>whnf
  repeat((first|refine⟨kZ,?_⟩|fail);conv=>whnf)
  refine Bu (.a (.cons (.refl _) (.cons ?_ .nil)));have:=hs2.RL 2 rfl;rw[BK hk]at this;exact this
def Yp (xs:List Int) (f:Bool) (x:Int) (hx:xs.length≤Ae):Pure Tryz.prog 154 [.l (iL xs) f,.i .i64 x] (.b (xs.contains x)):=by
 refine j7 kZ ?_
 conv=>whnf
 repeat((first|(refine As ?_;intro K U)|(refine AY ?_;intro I C G F)|(apply G;clear F C G I)|refine Bc ?_|refine DY ?_|(apply U;clear U K)|fail);conv=>whnf)
 refine CZ xs.length (fun k (_:Unit)=>[(5,eI (BL k))]) (fun _ _=>[]) (fun k _=>x∉xs.take k) () rfl (by simp) Sat.nil ?_;rintro k - σ hk hn -
 conv=>whnf
 repeat((first|refine⟨rfl,?_⟩|refine Eo ?_|(refine As ?_;intro K U)|(refine AY ?_;intro I C G F)|(apply G;clear F C G I)|refine Bs ?_|(apply U;clear U K)|fail);conv=>whnf)
 refine Fs hk hx (fun y hy hlt=>?_) fun hk=>?_
 ·conv=>whnf
  repeat((first|(refine As ?_;intro K U)|(refine AY ?_;intro I C G F)|refine Bv ?_|refine Bc ?_|(apply U;clear U K)|fail);conv=>whnf)
  refine Hy hy hx rfl ?_
  conv=>whnf
  repeat((first|refine⟨rfl,?_⟩|refine Br ?_|(apply G;clear F C G I)|refine Bs ?_|(apply U;clear U K)|fail);conv=>whnf)
  refine Vo (fun he=>?_) (fun he=>?_)
  ·conv=>whnf
   repeat((first|(refine As ?_;intro K U)|(refine AY ?_;intro I C G F)|(apply G;clear F C G I)|refine D3 ?_|(apply U;clear U K)|(clear U K));conv=>whnf)
   refine AI ?_;have:x∈xs:=he ▸ Cj hy;simp[this]
  ·conv=>whnf
   repeat((first|refine⟨rfl,?_⟩|(refine AY ?_;intro I C G F)|(apply G;clear F C G I)|refine Bv ?_|(apply U;clear U K)|(clear U K));conv=>whnf)
   refine⟨hlt,(),rfl,?_,Sat.nil⟩;rw[AX hy];simp only[FQ,Kj,not_or];exact⟨hn,fun e=>he e.symm⟩
 ·conv=>whnf
  repeat((first|(refine As ?_;intro K U)|(refine AY ?_;intro I C G F)|(apply G;clear F C G I)|refine DZ ?_|refine D3 ?_|(apply U;clear U K)|(clear U K));conv=>whnf)
  refine AI ?_;rw[BK hk]at hn;simp[hn]
def NZ (xs:List Int) (f:Bool) (x:Int) (hx:xs.length≤Ae):Pure Tryz.prog 241 [.l (iL xs) f,.i .i64 x] (.l (iL (xs.filter (· != x))) false):=by
 refine ir kZ ?_
 conv=>whnf
 repeat((first|(refine As ?_;intro K U)|(refine AY ?_;intro I C G F)|(apply G;clear F C G I)|refine Bc ?_|refine DY ?_|(apply U;clear U K)|fail);conv=>whnf)
 refine CZ xs.length (fun k v=>[(5,v),(6,eI (BL k))]) (fun k v=>[.own v 1 (iL ((xs.take k).filter (· != x)))]) (fun _ _=>True) (.l [] true) rfl trivial (Gg Sat.nil 1) ?_;rintro k v σ hk - hs
 conv=>whnf
 repeat((first|refine⟨rfl,?_⟩|refine Eo ?_|(refine As ?_;intro K U)|(refine AY ?_;intro I C G F)|(apply G;clear F C G I)|refine Bs ?_|(apply U;clear U K)|fail);conv=>whnf)
 refine Fs hk hx (fun y hy hlt=>?_) fun hk=>?_
 ·conv=>whnf
  repeat((first|(refine As ?_;intro K U)|(refine AY ?_;intro I C G F)|refine Bv ?_|refine Bc ?_|(apply U;clear U K)|fail);conv=>whnf)
  refine Hy hy hx rfl ?_
  conv=>whnf
  repeat((first|refine⟨rfl,?_⟩|refine Br ?_|(apply G;clear F C G I)|refine Bs ?_|(apply U;clear U K)|fail);conv=>whnf)
  refine cz (fun he=>?_) (fun he=>?_)
  ·conv=>whnf
   repeat((first|(refine AY ?_;intro I C G F)|fail);conv=>whnf)
   refine Hy hy hx rfl ?_
   conv=>whnf
   repeat((first|refine Br ?_|fail);conv=>whnf)
   refine Fo hs 0 (x:=y) rfl (by have:=OJ (· != x) (xs.take k);simp only[MS]at this;have hM:=Mx;omega) Co fun v' σ' hs'=>?_
   conv=>whnf
   repeat((first|refine⟨rfl,?_⟩|(refine AY ?_;intro I C G F)|(apply G;clear F C G I)|(apply U;clear U K)|(clear U K));conv=>whnf)
   refine⟨hlt,v',rfl,trivial,?_⟩;rw[AX hy,List.filter_append];simpa[he]using hs'
  ·conv=>whnf
   repeat((first|refine⟨rfl,?_⟩|(refine AY ?_;intro I C G F)|(apply G;clear F C G I)|refine Bv ?_|(apply U;clear U K)|(clear U K));conv=>whnf)
   refine⟨hlt,v,rfl,trivial,?_⟩;rw[AX hy,List.filter_append];simpa[he]using hs
 ·conv=>whnf
  repeat((first|(refine As ?_;intro K U)|(refine AY ?_;intro I C G F)|(apply G;clear F C G I)|refine DZ ?_|refine D3 ?_|(apply U;clear U K)|(clear U K));conv=>whnf)
  exact Fw hs 0 rfl (by rw[BK hk])
def free (ls:List (List Int)) (x:Int):Bool:=ls.all fun l=> !(l.drop 1).contains x
def cw (ls:List (List Int)) (f:Bool) (x:Int) (hl:ls.length≤Ae) (hls: ∀l∈ls,l.length≤Ae):Pure Tryz.prog 242 [.l (EZ ls) f,.i .i64 x] (.b (free ls x)):=by
 refine im kZ ?_
 conv=>whnf
 repeat((first|(refine As ?_;intro K U)|(refine AY ?_;intro I C G F)|(apply G;clear F C G I)|refine Bc ?_|refine DY ?_|(apply U;clear U K)|fail);conv=>whnf)
 refine CZ ls.length (fun k (_:Unit)=>[(5,eI (BL k))]) (fun _ _=>[]) (fun k _=> ∀l∈ls.take k,x∉l.drop 1) () rfl (by simp) Sat.nil ?_;rintro k - σ hk hn -
 conv=>whnf
 repeat((first|refine⟨rfl,?_⟩|refine Eo ?_|(refine As ?_;intro K U)|(refine AY ?_;intro I C G F)|(apply G;clear F C G I)|refine Bs ?_|(apply U;clear U K)|fail);conv=>whnf)
 refine Fs hk hl (fun y hy hlt=>?_) fun hk=>?_
 ·have hb:=hls _ (Cj hy)
  have next:(x∉y.drop 1)→ ∀l∈ls.take (k+1),x∉l.drop 1:=fun hc l hm=>by
   rw[AX hy]at hm;rcases FQ.1 hm with hm|hm
   ·exact hn l hm
   ·rw[Kj.1 hm];exact hc
  conv=>whnf
  repeat((first|(refine As ?_;intro K U)|(refine AY ?_;intro I C G F)|refine Bv ?_|refine Bc ?_|(apply U;clear U K)|fail);conv=>whnf)
  refine Hy hy hl rfl ?_
  conv=>whnf
  repeat((first|refine⟨rfl,?_⟩|refine Br ?_|refine Eo ?_|fail);conv=>whnf)
  refine⟨fun h=>?_,fun h=>?_⟩<;>(try rw[h])
  ·have hp:=of_decide_eq_true h
   simp only[BQ]at hp
   conv=>whnf
   repeat((first|refine K5 ?_|fail);conv=>whnf)
   refine Hy hy hl rfl ?_
   conv=>whnf
   repeat((first|refine K5 ?_|refine Br ?_|fail);conv=>whnf)
   refine R8 1 rfl (by omega) (fun _=>rfl) ?_
   conv=>whnf
   repeat((first|refine K5 ?_|fail);conv=>whnf)
   refine(Yp _ _ _ (by rw[List.length_drop];omega)).use ?_
   conv=>whnf
   repeat((first|(apply G;clear F C G I)|refine Bs ?_|(apply U;clear U K)|fail);conv=>whnf)
   refine⟨fun hc=>?_,fun hc=>?_⟩
   ·conv=>whnf
    repeat((first|(refine As ?_;intro K U)|(refine AY ?_;intro I C G F)|(apply G;clear F C G I)|refine D3 ?_|(apply U;clear U K)|(clear U K));conv=>whnf)
    refine AI ?_
    have:free ls x=false:=by
     simp only[free,List.all_eq_false];exact⟨y,Cj hy,by simpa using hc⟩
    rw[this]
   ·conv=>whnf
    repeat((first|refine⟨rfl,?_⟩|(refine AY ?_;intro I C G F)|(apply G;clear F C G I)|refine Bv ?_|(apply U;clear U K)|(clear U K));conv=>whnf)
    exact⟨hlt,(),rfl,next (by simpa using hc),Sat.nil⟩
  ·have hp: ¬_:=of_decide_eq_false h
   simp only[BQ]at hp
   conv=>whnf
   repeat((first|refine⟨rfl,?_⟩|refine QI ?_|(refine AY ?_;intro I C G F)|(apply G;clear F C G I)|refine Bs ?_|refine Bv ?_|(apply U;clear U K)|(clear U K));conv=>whnf)
   refine⟨hlt,(),rfl,next ?_,Sat.nil⟩;rw[List.drop_eq_nil_of_le (by omega)];simp
 ·conv=>whnf
  repeat((first|(refine As ?_;intro K U)|(refine AY ?_;intro I C G F)|(apply G;clear F C G I)|refine DZ ?_|refine D3 ?_|(apply U;clear U K)|(clear U K));conv=>whnf)
  rw[BK hk]at hn;refine AI ?_;have:free ls x=true:=by simpa[free]using hn
  rw[this]
def Aw (ls:List (List Int)) (c:Int):List Int:=if c<3 then []else ls.getD (c - 3).toNat []
def UJ (ls:List (List Int)) (f:Bool) (c:Int) (hc:c<3+ls.length) (hm:ls.length≤Ae):Pure Tryz.prog 240 [.l (EZ ls) f,.i .i64 c] (.l (iL (Aw ls c)) false):=by
 refine iu kZ ?_
 conv=>whnf
 repeat((first|refine⟨rfl,?_⟩|(refine As ?_;intro K U)|(refine AY ?_;intro I C G F)|(apply G;clear F C G I)|refine Bs ?_|(apply U;clear U K)|fail);conv=>whnf)
 refine fork (fun h=>?_) (fun h=>?_)
 ·conv=>whnf
  repeat((first|(refine As ?_;intro K U)|(refine AY ?_;intro I C G F)|(apply G;clear F C G I)|refine D3 ?_|(apply U;clear U K)|(clear U K));conv=>whnf)
  refine Bu (.l (fun h=>(by cases h)) ?_);rw[Aw,if_pos h];exact .nil
 ·conv=>whnf
  repeat((first|refine⟨rfl,?_⟩|(refine As ?_;intro K U)|(refine AY ?_;intro I C G F)|refine Bv ?_|(apply U;clear U K)|fail);conv=>whnf)
  simp only[Ae]at hm;have hlt:(c - 3).toNat<ls.length:=by omega
  refine RY (c - 3).toNat (Da hlt) (by rw[wrap64 (by omega) (by omega)];omega) rfl ?_
  conv=>whnf
  repeat((first|refine Br ?_|(apply G;clear F C G I)|refine D3 ?_|(apply U;clear U K)|fail);conv=>whnf)
  refine AI ?_;rw[Aw,if_neg h,Dc,Da hlt];rfl
def EB (ls os:List (List Int)) (c:Int):Option (List (List Int)):=
 if(Aw ls c).any fun p=>(os.getD p.toNat []).isEmpty then none else some ((Aw ls c).map (fun p=>(os.getD p.toNat []).filter (· != 0))++[Aw ls c])
def mJ (o:Option (List (List Int))):V:=match o with|some l=> .t [.l (EZ l) false,.b true]|none=> .t [.l [] false,.b false]
def Zw (ls os:List (List Int)) (f:Bool) (w:V) (c:Int) (hc:c<3+ls.length) (hm:ls.length≤Ae) (hos: ∀o∈os,o.length≤Ae) (hpl:(Aw ls c).length<1000000)
    (hp: ∀p∈Aw ls c,0≤p∧p.toNat<os.length):Bd Tryz.prog 194 [.l (EZ ls) f,w,.i .i64 c] [.own w 1 (EZ os)] fun r post=>r= .ret (mJ (EB ls os c))∧post= [.own w 1 (EZ os)]:=by
 have hM:=Mx;intro σ hs;refine jX kZ ?_
 conv=>whnf
 repeat((first|(refine As ?_;intro K U)|(refine AY ?_;intro I C G F)|(apply G;clear F C G I)|(apply U;clear U K)|fail);conv=>whnf)
 refine(UJ _ _ _ hc hm).use ?_
 conv=>whnf
 repeat((first|(refine As ?_;intro K U)|(refine AY ?_;intro I C G F)|(apply G;clear F C G I)|refine Bc ?_|refine DY ?_|(apply U;clear U K)|fail);conv=>whnf)
 refine CZ (Aw ls c).length (fun k v=>[(8,v),(10,eI (BL k))]) (fun k v=>[.own w 1 (EZ os),.own v 1 (EZ (((Aw ls c).take k).map fun p=>(os.getD p.toNat []).filter (· != 0)))]) (fun k _=> ∀p∈(Aw ls c).take k,(os.getD p.toNat []).isEmpty=false)
  (.l [] true) rfl (by simp) (Gg hs 1) ?_
 rintro k v σ hk hne hs
 conv=>whnf
 repeat((first|refine⟨rfl,?_⟩|refine Eo ?_|(refine As ?_;intro K U)|(refine AY ?_;intro I C G F)|(apply G;clear F C G I)|refine Bs ?_|(apply U;clear U K)|fail);conv=>whnf)
 refine Fs hk (by omega) (fun p hpk hlt=>?_) fun hk=>?_
 ·obtain ⟨hp0,hp1⟩:=hp _ (Cj hpk)
  have hq:=Da hp1
  have hgd:os.getD p.toNat []=os[p.toNat]:=by
   rw[Dc,hq];rfl
  have hqm:(EZ os)[p.toNat]? =some [.l (iL os[p.toNat]) false]:=by rw[Pw,hq];rfl
  conv=>whnf
  repeat((first|(refine As ?_;intro K U)|(refine AY ?_;intro I C G F)|refine Bv ?_|refine Bc ?_|(apply U;clear U K)|fail);conv=>whnf)
  refine Hy hpk (by omega) rfl ?_
  conv=>whnf
  repeat((first|refine Br ?_|fail);conv=>whnf)
  refine a6 hs 0 p.toNat rfl (by omega) (by simpa using hp1) ?_
  conv=>whnf
  refine IS hs 0 rfl hqm ?_
  conv=>whnf
  repeat((first|refine⟨rfl,?_⟩|refine Eo ?_|(apply G;clear F C G I)|refine Bs ?_|(apply U;clear U K)|fail);conv=>whnf)
  refine Vo (fun he=>?_) (fun he=>?_)
  ·conv=>whnf
   repeat((first|(refine As ?_;intro K U)|(refine AY ?_;intro I C G F)|(apply G;clear F C G I)|refine D3 ?_|(apply U;clear U K)|(clear U K));conv=>whnf)
   have hn:EB ls os c=none:=by
    simp only[EB];rw[if_pos];rw[Ip];refine⟨p,Cj hpk,?_⟩;rw[hgd];have:(os[p.toNat]).length=0:=by simpa using he
    simp[bB.1 this]
   rw[hn];exact Ar (l':=[.own w 1 (EZ os)]) hs (by simp) (.t (.cons (.l (fun h=>(by cases h)) .nil) (.cons (.refl _) .nil))) fun σ' hs'=>⟨_,⟨rfl,rfl⟩,hs'⟩
  ·conv=>whnf
   repeat((first|(refine AY ?_;intro I C G F)|refine Bv ?_|(apply U;clear U K)|fail);conv=>whnf)
   refine Hy hpk (by omega) rfl ?_
   conv=>whnf
   repeat((first|refine Br ?_|fail);conv=>whnf)
   refine a6 hs 0 p.toNat rfl (by omega) (by simpa using hp1) ?_
   conv=>whnf
   refine IS hs 0 rfl hqm ?_
   conv=>whnf
   refine(NZ _ _ _ (hos _ (List.getElem_mem hp1))).use ?_
   conv=>whnf
   refine Fo hs 1 (x:=os[p.toNat].filter (· != 0)) rfl (by have hM:=Mx;simp;omega) DM fun v' σ' hs'=>?_
   conv=>whnf
   repeat((first|refine⟨rfl,?_⟩|(refine AY ?_;intro I C G F)|(apply G;clear F C G I)|(apply U;clear U K)|(clear U K));conv=>whnf)
   refine⟨hlt,v',rfl,fun q hm=>?_,?_⟩
   ·rw [AX hpk]at hm
    rcases FQ.1 hm with hm|hm
    ·exact hne q hm
    ·rw[Kj.1 hm,hgd]
     have:(os[p.toNat]).length≠0:=by
      intro e;exact he (by simp[e])
     cases hq:os[p.toNat]with
     | nil=>rw[hq]at this;exact absurd rfl this
     | cons _ _=>rfl
   ·rw[AX hpk,TN,List.map_singleton,hgd]
    exact hs'
 ·rw[BK hk]at hne hs
  conv=>whnf
  repeat((first|(refine As ?_;intro K U)|(refine AY ?_;intro I C G F)|refine DZ ?_|(apply U;clear U K)|(clear U K));conv=>whnf)
  refine Fo hs 1 (x:=Aw ls c) rfl (by have hM:=Mx;simp;omega) DM fun v' σ' hs'=>?_
  conv=>whnf
  repeat((first|(apply G;clear F C G I)|refine D3 ?_|(apply U;clear U K)|fail);conv=>whnf)
  have hn:EB ls os c=some ((Aw ls c).map (fun p=>(os.getD p.toNat []).filter (· != 0))++[Aw ls c]):=by
   simp only[EB];rw[if_neg];rw[Ip];rintro⟨p,h1,h2⟩;rw[hne p h1]at h2;cases h2
  rw[hn];obtain⟨σ2,h1,h2,h3⟩:=H2 hs' 1 rfl;exact GM h1 (.t (.cons h2 (.cons (.refl _) .nil))) ⟨_,⟨rfl,rfl⟩,h3⟩
def pick (ls:List (List Int)):Option Int:=(ls.find? fun l=>match l with| []=>false|x::_=>free ls x).bind List.head?
def total (ls:List (List Int)):Nat:=(ls.map List.length).sum
def DD:Nat→List (List Int)→List Int→List Int×Bool
 | 0,ls,out=>(out,ls.all List.isEmpty)
 | n+1,ls,out=>match pick ls with
   | none=>(out,ls.all List.isEmpty)
   | some x=>DD n (ls.map fun l=>l.filter (· != x)) (out++[x])
def CA (ls:List (List Int)):List Int×Bool:=DD (total ls) ls []
def HO {ls:List (List Int)} {x:Int} (h:pick ls=some x):total (ls.map fun l=>l.filter (· != x))<total ls:=by
 unfold pick at h;rw[Option.bind_eq_some_iff]at h;obtain⟨l,h1,h2⟩:=h;have hm:=List.mem_of_find?_eq_some h1;clear h1;cases l with
 | nil=>cases h2
 | cons y r=>
   simp only[List.head?_cons,Hg]at h2;subst h2
   have hle: ∀ls:List (List Int),total (ls.map fun l=>l.filter (· != y))≤total ls:=fun ls=>by
    induction ls with
    | nil=>simp[total]
    | cons a bs ih=>
      have:=OJ (· != y) a;simp only[total,Et,List.sum_cons]at *;omega
   induction ls with
   | nil=>cases hm
   | cons a bs ih=>
     rcases Fh.1 hm with rfl|hm
     ·have h1:=hle bs
      have h2:=OJ (· != y) r;simp only[total,Et,List.sum_cons]at *;have:((y::r).filter (· != y)).length≤r.length:=by simpa using h2
      simp only[MC];omega
     ·have h1:=ih hm
      have h2:=OJ (· != y) a;simp only[total,Et,List.sum_cons]at *;omega
def Kq (ls:List (List Int)):Prop:=ls.length≤1000000∧ ∀l∈ls,l.length≤Ae∧ ∀x∈l,0≤x
def Kq.filter {ls:List (List Int)} (h:Kq ls) (x:Int):Kq (ls.map fun l=>l.filter (· != x)):=by
 refine⟨by rw[BQ];exact h.1,fun l hl=>?_⟩;obtain⟨l',hl',rfl⟩:=MT.1 hl;obtain⟨h1,h2⟩:=h.2 l' hl';exact⟨Nat.le_trans (OJ _ _) h1,fun y hy=>h2 y (Kl.1 hy).1⟩
def Dh (ls:List (List Int)) (k:Nat):Int:=((((ls.take k).find? fun l=>match l with| []=>false|x::_=>free ls x).bind List.head?).getD (-1))
def S0 : ∀ (n:Nat) (ls:List (List Int)) (out:List Int),total ls≤n→DD n ls out=DD (total ls) ls out:=by
 intro n
 induction n using Nat.strongRecOn with
 | _ n ih=>
   intro ls out hn;by_cases he:total ls=n
   ·rw[he]
   ·cases n with
    | zero=>omega
    | succ n=>
      cases hp:pick ls with
      | none=>
        cases ht:total ls with
        | zero=>simp[DD,hp]
        | succ m=>simp[DD,hp]
      | some x=>
        have h1:=HO hp;cases ht:total ls with
        | zero=>omega
        | succ m=>
          simp only[DD,hp];rw[ih n (by omega) _ _ (by omega),ih m (by omega) _ _ (by omega)]
def Ln {ls:List (List Int)} {x:Int} {out:List Int} (hp:pick ls=some x):DD (total ls) ls out=DD (total (ls.map fun l=>l.filter (· != x))) (ls.map fun l=>l.filter (· != x)) (out++[x]):=by
 have h1:=HO hp;cases ht:total ls with
 | zero=>omega
 | succ m=>
   simp only[DD,hp];exact S0 m _ _ (by omega)
def Nx {ls:List (List Int)} {out:List Int} (hp:pick ls=none):DD (total ls) ls out=(out,ls.all List.isEmpty):=by
 cases ht:total ls with
 | zero=>rfl
 | succ m=>simp only[DD,hp]
def Ep (ls:List (List Int)) (l:List Int):Bool:=match l with| []=>false|x::_=>free ls x
def G4 (ls:List (List Int)) (k:Nat):Dh ls k=(((ls.take k).find? (Ep ls)).bind List.head?).getD (-1):=rfl
def HP {ls:List (List Int)} (hok:Kq ls) {k:Nat} (h:Dh ls k<0):(ls.take k).find? (Ep ls)=none:=by
 rw[G4]at h;cases hf:(ls.take k).find? (Ep ls)with
 | none=>rfl
 | some l=>
   rw[hf]at h;have hm:=List.mem_of_mem_take (List.mem_of_find?_eq_some hf);have hg:=List.find?_some hf;cases l with
   | nil=>cases hg
   | cons x r=>
     have:=(hok.2 _ hm).2 x (.head _);simp at h;omega
def Sy {ls:List (List Int)} (hok:Kq ls) {k:Nat} (hk:k<ls.length) (h:Dh ls k<0):Dh ls (k+1)=if Ep ls ls[k]then(ls[k].head?).getD (-1)else -1:=by
 rw[G4,List.take_succ_eq_append_getElem hk,List.find?_append,HP hok h];by_cases hg:Ep ls ls[k]=true
 ·simp[hg]
 ·simp[hg]
def Nn {ls:List (List Int)} {k:Nat} (h:0≤Dh ls k):pick ls=some (Dh ls k):=by
 rw[G4]at *;show((ls.find? (Ep ls)).bind List.head?)=_;cases hf:(ls.take k).find? (Ep ls)with
 | none=>rw[hf]at h;simp at h
 | some l=>
   have h1:ls.find? (Ep ls)=some l:=by
    have:=List.take_append_drop k ls;rw[←this,List.find?_append,this,hf];rfl
   rw[h1];rw[hf]at h;cases l with
   | nil=>simp at h
   | cons x r=>simp
def IG {ls:List (List Int)} (hok:Kq ls) {k:Nat} {l:List Int} (hl:ls[k]? =some l) (h:Dh ls k<0):Dh ls (k+1)=if Ep ls l then(l.head?).getD (-1)else -1:=by
 obtain⟨hk,rfl⟩:=Hr.1 hl;exact Sy hok hk h
def WY {ls:List (List Int)} {l:List Int} (h:l∈ls):l.length≤total ls:=by
 induction ls with
 | nil=>cases h
 | cons a r ih=>
   simp only[total,Et,List.sum_cons]at *;rcases Fh.1 h with rfl|h
   ·omega
   ·have:=ih h;omega
def Zu (ls:List (List Int)) (f:Bool) (hok:Kq ls) (ht:total ls<Ae):Pure Tryz.prog 195 [.l (EZ ls) f] (.t [.l (iL (CA ls).1) false,.b (CA ls).2]):=by
 have hM:=Mx;refine jW kZ ?_
 conv=>whnf
 repeat((first|(refine As ?_;intro K U)|(refine AY ?_;intro I C G F)|(apply G;clear F C G I)|refine Bc ?_|refine DY ?_|(apply U;clear U K)|fail);conv=>whnf)
 refine GS (fun(x:List (List Int)×Bool×V×List Int)=>total x.1) (fun x=>[(0,.l (EZ x.1) x.2.1),(4,x.2.2.1)]) (fun x=>[.own x.2.2.1 1 (iL x.2.2.2)])
  (fun x=>Kq x.1∧x.2.2.2.length+total x.1≤total ls∧DD (total x.1) x.1 x.2.2.2=CA ls) (ls,f,.l [] true,[]) rfl ⟨hok,by simp,rfl⟩ (Gg Sat.nil 1) ?_
 rintro⟨ls',f',v,out⟩ σ ⟨hok',hlen,hm⟩ hs;dsimp only at hok' hlen hm hs;have hlm:ls'.length≤Ae:=by have:=hok'.1;omega
 conv=>whnf
 repeat((first|(refine As ?_;intro K U)|(refine AY ?_;intro I C G F)|(apply G;clear F C G I)|refine Bc ?_|refine DY ?_|(apply U;clear U K)|fail);conv=>whnf)
 have hJ :=Ov U (fun(y:Int×Bool)=>[(5,.i .i64 y.1),(6,.b y.2)]) (fun _=>[.own v 1 (iL out)]) (fun y=>(0≤y.1∧pick ls'=some y.1)∨(y.1<0∧pick ls'=none∧y.2=ls'.any fun l=> !l.isEmpty))
  [(0,.l (EZ ls') f'),(4,v),(5,.pn),(6,.pn)] (by
  rintro⟨nx,lf⟩ σ hor hs;dsimp only at hor
  conv=>whnf
  repeat((first|refine⟨rfl,?_⟩|(refine As ?_;intro K U)|(refine AY ?_;intro I C G F)|(apply G;clear F C G I)|refine Bs ?_|(apply U;clear U K)|fail);conv=>whnf)
  refine fork (fun hneg=>?_) (fun hneg=>?_)
  ·conv=>whnf
   repeat((first|(refine As ?_;intro K U)|(refine AY ?_;intro I C G F)|(apply G;clear F C G I)|refine D3 ?_|(apply U;clear U K)|(clear U K));conv=>whnf)
   rcases hor with⟨h0,_⟩|⟨_,hp,rfl⟩
   ·omega
   ·rw[Nx hp]at hm
    refine Bu ?_;rw[←hm];refine .t (.cons (hs.RL 0 rfl) (.cons ?_ .nil));have:(!ls'.any fun l=> !l.isEmpty)=ls'.all List.isEmpty:=by simp[List.all_eq_not_any_not]
    rw[←this];exact .refl _
  ·conv=>whnf
   repeat((first|(refine As ?_;intro K U)|(refine AY ?_;intro I C G F)|refine Bv ?_|(apply U;clear U K)|fail);conv=>whnf)
   rcases hor with⟨_,hp⟩|⟨h0,_⟩
   ·have hlt:=HO hp
    refine Fo hs 0 (x:=nx) rfl (by omega) Co fun v' σ hs=>?_
    conv=>whnf
    repeat((first|(refine As ?_;intro K U)|(refine AY ?_;intro I C G F)|(apply G;clear F C G I)|refine Bc ?_|refine DY ?_|(apply U;clear U K)|fail);conv=>whnf)
    refine CZ ls'.length (fun k u=>[(8,u),(9,eI (BL k))]) (fun k u=>[.own v' 1 (iL (out++[nx])),.own u 1 (EZ ((ls'.take k).map fun l=>l.filter (· != nx)))]) (fun _ _=>True) (.l [] true) rfl trivial (Gg hs 1) ?_;rintro k u σ hk - hs
    conv=>whnf
    repeat((first|refine⟨rfl,?_⟩|refine Eo ?_|(refine As ?_;intro K U)|(refine AY ?_;intro I C G F)|(apply G;clear F C G I)|refine Bs ?_|(apply U;clear U K)|fail);conv=>whnf)
    refine Fs hk hlm (fun l hl hlt'=>?_) fun hk=>?_
    ·conv=>whnf
     repeat((first|(refine As ?_;intro K U)|(refine AY ?_;intro I C G F)|refine Bv ?_|refine Bc ?_|(apply U;clear U K)|fail);conv=>whnf)
     refine Hy hl hlm rfl ?_
     conv=>whnf
     repeat((first|refine Br ?_|fail);conv=>whnf)
     refine(NZ _ _ _ (hok'.2 _ (Cj hl)).1).use ?_
     conv=>whnf
     refine Fo hs 1 (x:=l.filter (· != nx)) rfl (by have:=hok'.1;simp;omega) DM fun u' σ' hs'=>?_
     conv=>whnf
     repeat((first|refine⟨rfl,?_⟩|(refine AY ?_;intro I C G F)|(apply G;clear F C G I)|(apply U;clear U K)|(clear U K));conv=>whnf)
     refine⟨hlt',u',rfl,trivial,?_⟩;rw[AX hl,TN];exact hs'
    ·rw[BK hk]at hs
     conv=>whnf
     repeat((first|(refine AY ?_;intro I C G F)|refine DZ ?_|(apply U;clear U K)|(clear U K));conv=>whnf)
     refine fP hs 1 rfl fun σ' hs'=>?_
     conv=>whnf
     repeat((first|(apply G;clear F C G I)|fail);conv=>whnf)
     refine⟨(ls'.map fun l=>l.filter (· != nx),false,v',out++[nx]),hlt,rfl,⟨hok'.filter nx,by simp;omega,?_⟩,hs'⟩;rw[←Ln hp];exact hm
   ·omega)
 clear U
 ·refine CZ ls'.length (fun k (_:Unit)=>[(5,.i .i64 (Dh ls' k)),(6,.b ((ls'.take k).any fun l=> !l.isEmpty)),(7,eI (BL k))]) (fun _ _=>[.own v 1 (iL out)]) (fun _ _=>True) () rfl trivial hs ?_
  rintro k - σ hk - hs
  conv=>whnf
  repeat((first|refine⟨rfl,?_⟩|refine Eo ?_|(refine As ?_;intro K U)|(refine AY ?_;intro I C G F)|fail);conv=>whnf)
  refine⟨fun h=>?_,fun h=>?_⟩<;>(try rw[h])
  ·have hlt:=of_decide_eq_true h
   rw[AL (by have:=hok'.1;omega)]at hlt;have hlt:=Yi hlt;have hl:=Da hlt;have hb:=hok'.2 _ (List.getElem_mem hlt);generalize ls'[k]=l at *
   conv=>whnf
   repeat((first|refine⟨rfl,?_⟩|refine K5 ?_|(apply G;clear F C G I)|refine Bs ?_|(apply U;clear U K)|fail);conv=>whnf)
   refine fork (fun hneg=>?_) (fun hneg=>?_)
   ·conv=>whnf
    repeat((first|(refine As ?_;intro K U)|(refine AY ?_;intro I C G F)|refine Bv ?_|refine Bc ?_|(apply U;clear U K)|fail);conv=>whnf)
    refine Hy hl hlm rfl ?_
    conv=>whnf
    repeat((first|refine⟨rfl,?_⟩|refine Br ?_|refine Eo ?_|(apply G;clear F C G I)|refine Bs ?_|(apply U;clear U K)|fail);conv=>whnf)
    refine fork (fun hp=>?_) (fun hp=>?_)
    ·simp only[BQ]at hp
     obtain⟨x,r,rfl⟩: ∃x r,l=x::r:=by cases l with
      | nil=>simp at hp
      | cons x r=>exact⟨x,r,rfl⟩
     have hany:((ls'.take (k+1)).any fun l=> !l.isEmpty)=true:=by
      rw[AX hl];simp
     conv=>whnf
     repeat((first|(refine As ?_;intro K U)|(refine AY ?_;intro I C G F)|(apply G;clear F C G I)|(apply U;clear U K)|fail);conv=>whnf)
     refine Hy hl hlm rfl ?_
     conv=>whnf
     repeat((first|refine Br ?_|fail);conv=>whnf)
     refine RY 0 rfl rfl rfl ?_
     conv=>whnf
     repeat((first|refine Br ?_|fail);conv=>whnf)
     refine(cw _ _ _ hlm fun l hl=>(hok'.2 l hl).1).use ?_
     conv=>whnf
     repeat((first|(apply G;clear F C G I)|refine Bs ?_|(apply U;clear U K)|fail);conv=>whnf)
     refine⟨fun hf=>?_,fun hf=>?_⟩
     ·conv=>whnf
      repeat((first|(refine AY ?_;intro I C G F)|fail);conv=>whnf)
      refine Hy hl hlm rfl ?_
      conv=>whnf
      repeat((first|refine Br ?_|fail);conv=>whnf)
      refine RY 0 rfl rfl rfl ?_
      conv=>whnf
      repeat((first|refine⟨rfl,?_⟩|refine Br ?_|(refine AY ?_;intro I C G F)|(apply G;clear F C G I)|(apply U;clear U K)|fail);conv=>whnf)
      refine⟨hlt,(),?_,trivial,hs⟩;have:Dh ls' (k+1)=x:=by rw[IG hok' hl hneg];simp[Ep,hf]
      dsimp only;rw[this,hany];rfl
     ·conv=>whnf
      repeat((first|refine⟨rfl,?_⟩|(refine AY ?_;intro I C G F)|(apply G;clear F C G I)|refine Bv ?_|(apply U;clear U K)|fail);conv=>whnf)
      refine⟨hlt,(),?_,trivial,hs⟩;have:Dh ls' (k+1)=Dh ls' k:=by rw[IG hok' hl hneg,G4 ls' k,HP hok' hneg];simp[Ep,hf]
      dsimp only;rw[this,hany];rfl
    ·simp only[BQ]at hp
     obtain rfl:l= []:=bB.1 (by omega)
     conv=>whnf
     repeat((first|refine⟨rfl,?_⟩|(refine AY ?_;intro I C G F)|(apply G;clear F C G I)|refine Bv ?_|(apply U;clear U K)|fail);conv=>whnf)
     refine⟨hlt,(),?_,trivial,hs⟩;have:Dh ls' (k+1)=Dh ls' k:=by rw[IG hok' hl hneg,G4 ls' k,HP hok' hneg];simp[Ep]
     have hany:((ls'.take (k+1)).any fun l=> !l.isEmpty)=((ls'.take k).any fun l=> !l.isEmpty):=by
      rw[AX hl,List.any_append];simp
     dsimp only;rw[this,hany];rfl
   ·conv=>whnf
    repeat((first|refine DZ ?_|(clear U K));conv=>whnf)
    refine hJ (Dh ls' k,(ls'.take k).any fun l=> !l.isEmpty) _ _ rfl (.inl ⟨by omega,?_⟩) hs;exact Nn (by omega)
  ·have hlt:=of_decide_eq_false h
   rw[AL (by have:=hok'.1;omega)]at hlt;have hke:=Vv hk hlt
   conv=>whnf
   repeat((first|refine QI ?_|(apply G;clear F C G I)|refine Bs ?_|refine DZ ?_|(apply U;clear U K)|(clear U K));conv=>whnf)
   refine hJ (Dh ls' k,(ls'.take k).any fun l=> !l.isEmpty) _ _ rfl ?_ hs;rw[BK hke];by_cases h0:0≤Dh ls' k
   ·exact .inl ⟨h0,Nn h0⟩
   ·refine .inr ⟨by omega,?_,rfl⟩
    have:=HP hok' (k:=k) (by omega);rw[BK hke]at this;show((ls'.find? (Ep ls')).bind List.head?)=none;rw[this];rfl
def Dr (g os:List (List Int)) (c:Int):List Int:=
 match EB g os c with
 | none=>[]
 | some l=>if(CA l).2 then [c]++(CA l).1++[0]else []
def Bb (g:List (List Int)):Nat→List (List Int)
 | 0=>[[0]]
 | k+1=>Bb g k++[Dr g (Bb g k) ((k:Int)+1)]
def Bx (g:List (List Int)):List (List Int):=Bb g (2+g.length)
def Ha (g:List (List Int)):Prop:=g.length≤16∧ ∀(i:Nat) (l:List Int),g[i]? =some l→l.length≤3∧l.Nodup∧ ∀c∈l,(3:Int)≤c∧c<3+(i:Int)
def CS (g:List (List Int)): ∀k,(Bb g k).length=k+1
 | 0=>rfl
 | k+1=>by simp[Bb,CS g k]
def HQ: ∀(n:Nat) (ls:List (List Int)) (out:List Int),(DD n ls out).1.length≤out.length+n
 | 0,ls,out=>by simp[DD]
 | n + 1,ls,out=>by
   simp only[DD];split
   ·simp
   ·rename_i x _
    have:=HQ n (ls.map fun l=>l.filter (· != x)) (out++[x]);simp only[RA,List.length_singleton]at this;refine Nat.le_trans this ?_;omega
def Sx {ls:List (List Int)} (h: ∀l∈ls,∀x∈l,(0:Int)≤x) {x:Int} (hp:pick ls=some x):0≤x:=by
 unfold pick at hp;rw[Option.bind_eq_some_iff]at hp;obtain⟨l,h1,h2⟩:=hp;have hm:=List.mem_of_find?_eq_some h1;cases l with
 | nil=>cases h2
 | cons y r=>cases h2;exact h _ hm _ (.head _)
def I2: ∀(n:Nat) (ls:List (List Int)) (out:List Int),(∀l∈ls,∀x∈l,(0:Int)≤x)→(∀x∈out,(0:Int)≤x)→ ∀x∈(DD n ls out).1,(0:Int)≤x
 | 0,ls,out,_,h2=>h2
 | n + 1,ls,out,h1,h2=>by
   simp only[DD];split
   ·exact h2
   ·rename_i y hy
    refine I2 n _ _ (fun l hl x hx=>?_) fun x hx=>?_
    ·obtain⟨l',hl',rfl⟩:=MT.1 hl
     exact h1 _ hl' _ (Kl.1 hx).1
    ·rcases FQ.1 hx with hx|hx
     ·exact h2 x hx
     ·rw[Kj.1 hx];exact Sx h1 hy
def DS {g:List (List Int)} (hg:Ha g) {c p:Int} (hp:p∈Aw g c):3≤p∧p<c:=by
 unfold Aw at hp;split at hp
 ·cases hp
 ·rename_i hc
  rw[Dc]at hp;cases hq:g[(c - 3).toNat]? with
  | none=>rw[hq]at hp;cases hp
  | some l=>
    rw[hq]at hp;obtain⟨_,_,h⟩:=hg.2 _ _ hq;have:=h p hp;omega
def Cx {g:List (List Int)} (hg:Ha g) (c:Int):(Aw g c).length≤3:=by
 unfold Aw;split
 ·simp
 ·rw[Dc]
  cases hq:g[(c - 3).toNat]? with
  | none=>simp
  | some l=>exact(hg.2 _ _ hq).1
def GP {g os:List (List Int)} {c:Int} {ls:List (List Int)} (h:EB g os c=some ls):ls=(Aw g c).map (fun p=>(os.getD p.toNat []).filter (· != 0))++[Aw g c]:=by
 unfold EB at h;split at h
 ·cases h
 ·exact(Option.some.inj h).symm
def SW {os:List (List Int)} {B:Nat} (h: ∀o∈os,o.length≤B) (n:Nat):(os.getD n []).length≤B:=by
 rw[Dc];cases hq:os[n]? with
 | none=>simp
 | some l=>exact h _ (Cj hq)
def NK {os:List (List Int)} {Q:Int→Prop} (h: ∀o∈os,∀x∈o,Q x) (n:Nat): ∀x∈os.getD n [],Q x:=by
 rw[Dc];cases hq:os[n]? with
 | none=>simp
 | some l=>exact h _ (Cj hq)
def FA {g os:List (List Int)} {c:Int} {ls:List (List Int)} (h:EB g os c=some ls) {B:Nat} (Z: ∀o∈os,o.length≤B):total ls≤(Aw g c).length*(B+1):=by
 rw[GP h];simp only[total,TN,List.map_map,List.sum_append,Et,List.map_nil,List.sum_cons,List.sum_nil,Nat.add_zero]
 have: ∀ps:List Int,(ps.map (List.length∘fun p=>(os.getD p.toNat []).filter (· != 0))).sum≤ps.length*B:=fun ps=>by
  induction ps with
  | nil=>simp
  | cons p r ih=>
    simp only[Et,List.sum_cons,Function.comp,MC,Nat.succ_mul];have h1:=OJ (· != 0) (os.getD p.toNat []);have h2:=SW Z p.toNat;simp only[Function.comp_def]at *;omega
 have:=this (Aw g c);rw[Nat.mul_add,Nat.mul_one];simp only[Function.comp_def]at *;omega
def Sz {g os:List (List Int)} {c:Int} {B:Nat} (Z: ∀o∈os,o.length≤B):(Dr g os c).length≤(Aw g c).length*(B+1)+2:=by
 unfold Dr;split
 ·simp
 ·rename_i ls h
  have h1:=FA h Z;have h2:=HQ (total ls) ls [];simp only[List.length_nil,Gb]at h2;split
  ·simp only[RA,List.length_singleton,CA]
   omega
  ·simp
def OI {g os:List (List Int)} {c:Int} (hg:Ha g) (hc:0≤c) (h: ∀o∈os,∀x∈o,(0:Int)≤x): ∀x∈Dr g os c,0≤x:=by
 unfold Dr;split
 ·simp
 ·rename_i ls hl
  split
  ·intro x hx
   have hls: ∀l∈ls,∀x∈l,(0:Int)≤x:=by
    rw[GP hl];intro l hl x hx;rcases FQ.1 hl with hl|hl
    ·obtain⟨p,_,rfl⟩:=MT.1 hl
     exact NK h p.toNat x (Kl.1 hx).1
    ·rw[Kj.1 hl]at hx
     have:=DS hg hx;omega
   simp only[FQ,Kj]at hx;rcases hx with(rfl|hx)|rfl
   ·exact hc
   ·exact I2 _ _ _ hls (by simp) x hx
   ·exact Int.le_refl _
  ·simp
def Hw (k:Nat):Nat:=5*3 ^ (k - 3) - 3
def ft (n:Nat):1≤3 ^ n:=Nat.one_le_pow _ _ (by omega)
def HW {g : List (List Int)} (hg:Ha g): ∀(k:Nat),∀o∈Bb g k,o.length≤Hw k∧ ∀x∈o,(0:Int)≤x
 | 0,o,ho=>by
   simp only[Bb,Kj]at ho;subst ho;simp[Hw]
 | k + 1,o,ho=>by
   have ih:=HW hg k
   have hmono:Hw k≤Hw (k+1):=by
    unfold Hw;have:3 ^ (k - 3)≤3 ^ (k+1 - 3):=Nat.pow_le_pow_right (by omega) (by omega);omega
   simp only[Bb,FQ,Kj]at ho;rcases ho with ho|rfl
   ·exact⟨Nat.le_trans (ih o ho).1 hmono,(ih o ho).2⟩
   ·refine⟨?_,OI hg (by omega) fun o ho=>(ih o ho).2⟩
    have h1:=Sz (g:=g) (c:=(k:Int)+1) fun o ho=>(ih o ho).1
    by_cases hk:k<3
    ·have:Aw g ((k:Int)+1)= []:=by
      apply List.eq_nil_iff_forall_not_mem.2;intro p hp;have:=DS hg hp;omega
     rw[this]at h1
     have:Hw (k+1)=2:=by
      have:k+1 - 3=0:=by omega
      simp[Hw,this]
     simpa[this]using h1
    ·have h2:=Cx hg ((k:Int)+1)
     have h3:(Aw g ((k:Int)+1)).length*(Hw k+1)≤3*(Hw k+1):=Q9 _ h2;have:k+1 - 3=(k - 3)+1:=by omega
     unfold Hw at *;rw[this,Nat.pow_succ];have:=ft (k - 3);omega
def V3 {k:Nat} (h:k≤18):Hw k≤71744535:=by
 unfold Hw;have:3 ^ (k - 3)≤3 ^ 15:=Nat.pow_le_pow_right (by omega) (by omega);have e:(3:Nat) ^ 15=14348907:=by decide
 omega
def Ej {g:List (List Int)}: ∀ {k j:Nat},j≤k→(Bb g k)[j]? =(Bb g j)[j]?
 | 0,j,h=>by(obtain rfl:j=0:=by omega);rfl
 | k+1,j,h=>by
   by_cases e:j=k+1
   ·subst e;rfl
   ·rw[←Ej (k:=k) (by omega),Bb,ei (by rw[CS];omega)]
def UK {g os:List (List Int)} {c:Int} {ls:List (List Int)} (hg:Ha g) (h:EB g os c=some ls) {B:Nat} (Z: ∀o∈os,o.length≤B∧ ∀x∈o,(0:Int)≤x) (hb:B≤100000000):Kq ls∧total ls<Ae:=by
 have h3:=Cx hg c;have ht:=FA h fun o ho=>(Z o ho).1
 have:(Aw g c).length*(B+1)≤3*(B+1):=Q9 _ h3;have htl:total ls<Ae:=by simp only[Ae];omega
 refine⟨⟨?_,fun l hl=>⟨?_,?_⟩⟩,htl⟩
 ·rw[GP h]
  simp only[RA,BQ,List.length_singleton,Ae];omega
 ·have:=WY hl
  simp only[Ae]at *;omega
 ·intro x hx
  rw[GP h]at hl;rcases FQ.1 hl with hl|hl
  ·obtain⟨p,_,rfl⟩:=MT.1 hl
   exact NK (fun o ho=>(Z o ho).2) p.toNat x (Kl.1 hx).1
  ·rw[Kj.1 hl]at hx
   have:=DS hg hx;omega
def Wx (g : List (List Int)) (f:Bool) (hg:Ha g):Pure Tryz.prog 155 [.l (EZ g) f] (.l (EZ (Bx g)) false):=by
 refine j6 kZ ?_
 conv=>whnf
 repeat((first|(refine As ?_;intro K U)|(refine AY ?_;intro I C G F)|(apply G;clear F C G I)|(apply U;clear U K)|fail);conv=>whnf)
 have hg16:=hg.1;have hgm:g.length≤Ae:=by simp only[Ae];omega
 refine⟨.l (EZ [[0]]) true,emp,fun _ _ h=>h,.l (fun _=>rfl) (.cons (.cons (.l (fun h=>(by cases h)) (.refl _ _ _)) .nil) .nil),?_⟩
 conv=>whnf
 repeat((first|(refine As ?_;intro K U)|(refine AY ?_;intro I C G F)|(apply G;clear F C G I)|refine Bc ?_|refine DY ?_|(apply U;clear U K)|fail);conv=>whnf)
 refine CZ (2+g.length) (fun k v=>[(3,v),(4,eI (Jh 1 k))]) (fun k v=>[.own v 1 (EZ (Bb g k))]) (fun _ _=>True) (.l (EZ [[0]]) true) rfl trivial (fO Sat.nil (by simp)) ?_;rintro k v σ hk - hs;have hc1:Jh 1 k=(k:Int)+1:=by rw[MQ (by omega) (by omega)];omega
 have hw:IntKind.i64.wrap (3+((EZ g).length:Nat))=3+(g.length:Int):=by rw[BQ,wrap64 (by omega) (by omega)]
 conv=>whnf
 repeat((first|refine⟨rfl,?_⟩|refine Eo ?_|(refine As ?_;intro K U)|(refine AY ?_;intro I C G F)|(apply G;clear F C G I)|refine Bs ?_|(apply U;clear U K)|fail);conv=>whnf)
 rw[hc1];rw[hw];refine fork (fun hlt=>?_) (fun hlt=>?_)
 ·have hlt':k<2+g.length:=by omega
  have Z:=HW hg k;have hb18:Hw k≤71744535:=V3 (by omega);have hc2:Jh 1 (k+1)=IntKind.i64.wrap ((k:Int)+1+1):=by rw[Jh,hc1]
  conv=>whnf
  repeat((first|(refine As ?_;intro K U)|(refine AY ?_;intro I C G F)|refine Bv ?_|refine Bc ?_|(apply U;clear U K)|fail);conv=>whnf)
  refine⟨.l (iL []) false,σ,fun _ _ h=>h,.l (fun h=>(by cases h)) (.refl _ _ _),?_⟩
  conv=>whnf
  repeat((first|(refine As ?_;intro K U)|(refine AY ?_;intro I C G F)|(apply G;clear F C G I)|(apply U;clear U K)|fail);conv=>whnf)
  refine(Zw g (Bb g k) f v ((k:Int)+1) (by omega) hgm (fun o ho=>by have:=(Z o ho).1;simp only[Ae];omega) (by have:=Cx hg ((k:Int)+1);omega)
   (fun p hp=>by have:=DS hg hp;rw[CS];omega)).use (rest:=[]) hs ?_
  rintro r post σ' ⟨rfl,rfl⟩ hs;cases hl:EB g (Bb g k) ((k:Int)+1)with
  | none=>
    conv=>whnf
    repeat((first|refine QI ?_|(refine As ?_;intro K U)|(refine AY ?_;intro I C G F)|(apply G;clear F C G I)|refine Bs ?_|refine Bv ?_|(apply U;clear U K)|fail);conv=>whnf)
    refine Fo hs 0 (x:=[]) rfl (by rw[CS];simp only[Ae];omega) DM fun v' σ' hs'=>?_
    conv=>whnf
    refine⟨v',σ',fun _ _ h=>h,.refl _,?_⟩
    conv=>whnf
    repeat((first|refine⟨rfl,?_⟩|(refine AY ?_;intro I C G F)|(apply G;clear F C G I)|(apply U;clear U K)|(clear U K));conv=>whnf)
    refine⟨hlt',v',?_,trivial,?_⟩
    ·skip
     rw[hc2];rfl
    ·have:Dr g (Bb g k) ((k:Int)+1)= []:=by simp[Dr,hl,]
     rw[Bb,this];exact hs'
  | some ls=>
    obtain⟨hok,htot⟩:=UK hg hl Z (by omega)
    conv=>whnf
    repeat((first|refine K5 ?_|(refine As ?_;intro K U)|(refine AY ?_;intro I C G F)|(apply G;clear F C G I)|refine Bs ?_|(apply U;clear U K)|fail);conv=>whnf)
    refine(Zu ls false hok htot).use ?_;have hml:=HQ (total ls) ls [];simp only[List.length_nil,Gb]at hml
    conv=>whnf
    repeat((first|(refine As ?_;intro K U)|(refine AY ?_;intro I C G F)|(apply G;clear F C G I)|refine Bs ?_|(apply U;clear U K)|fail);conv=>whnf)
    refine⟨fun h=>?_,fun h=>?_⟩<;>(try rw[h])
    ·conv=>whnf
     repeat((first|(refine AY ?_;intro I C G F)|fail);conv=>whnf)
     refine Mj (fO hs (by simp)) 1 (xs:=[(k:Int)+1]) rfl (by simp[CA];have:=FA hl fun o ho=>(Z o ho).1;have h3:=Cx hg ((k:Int)+1);have:(Aw g ((k:Int)+1)).length*(Hw k+1)≤3*(Hw k+1):=Q9 _ h3;simp only[Ae]at *;omega) Co fun u σ1 hs=>?_
     conv=>whnf
     refine Fo hs 1 (x:=0) rfl (by simp[CA];have:=FA hl fun o ho=>(Z o ho).1;have h3:=Cx hg ((k:Int)+1);have:(Aw g ((k:Int)+1)).length*(Hw k+1)≤3*(Hw k+1):=Q9 _ h3;simp only[Ae]at *;omega) Co fun u σ1 hs=>?_
     conv=>whnf
     refine fP hs 1 rfl fun σ' hs=>?_
     conv=>whnf
     repeat((first|(refine AY ?_;intro I C G F)|(apply G;clear F C G I)|(apply U;clear U K)|fail);conv=>whnf)
     refine Fo hs 0 (x:=([(k:Int)+1]++(CA ls).1++[0])) rfl (by rw[CS];simp only[Ae];omega) DM fun v' σ' hs'=>?_
     conv=>whnf
     refine⟨v',σ',fun _ _ h=>h,.refl _,?_⟩
     conv=>whnf
     repeat((first|refine⟨rfl,?_⟩|(refine AY ?_;intro I C G F)|(apply G;clear F C G I)|(apply U;clear U K)|(clear U K));conv=>whnf)
     refine⟨hlt',v',?_,trivial,?_⟩
     ·skip
      rw[hc2];rfl
     ·have:Dr g (Bb g k) ((k:Int)+1)=([(k:Int)+1]++(CA ls).1++[0]):=by simp[Dr,hl,h]
      rw[Bb,this];exact hs'
    ·conv=>whnf
     repeat((first|(refine AY ?_;intro I C G F)|refine Bv ?_|(apply U;clear U K)|fail);conv=>whnf)
     refine Fo hs 0 (x:=[]) rfl (by rw[CS];simp only[Ae];omega) DM fun v' σ' hs'=>?_
     conv=>whnf
     refine⟨v',σ',fun _ _ h=>h,.refl _,?_⟩
     conv=>whnf
     repeat((first|refine⟨rfl,?_⟩|(refine AY ?_;intro I C G F)|(apply G;clear F C G I)|(apply U;clear U K)|(clear U K));conv=>whnf)
     refine⟨hlt',v',?_,trivial,?_⟩
     ·skip
      rw[hc2];rfl
     ·have:Dr g (Bb g k) ((k:Int)+1)= []:=by simp[Dr,hl,h]
      rw[Bb,this];exact hs'
 ·conv=>whnf
  repeat((first|(refine As ?_;intro K U)|(refine AY ?_;intro I C G F)|(apply G;clear F C G I)|refine DZ ?_|refine D3 ?_|(apply U;clear U K)|(clear U K));conv=>whnf)
  have hke:k=2+g.length:=by omega
  subst hke;exact Fw hs 0 rfl rfl
end Go.Gl
namespace Go.Gl
def par (ps:List (List Int)) (c:Nat):List Int:=if c<3 then []else ps.getD (c - 3) []
def ordered (ps:List (List Int)):Prop:= ∀c p,p∈par ps c→3≤p∧p<(c:Int)
def X2 (ps:List (List Int)):Nat→Nat→Nat→Bool
 | 0,c,b=>c==b
 | f+1,c,b=>c==b||(par ps c).any fun p=>X2 ps f p.toNat b
def Ik (ps:List (List Int)) (c b:Nat):Bool:=X2 ps c c b
def JJ {ps:List (List Int)} (ho:ordered ps): ∀(f c b:Nat),c≤f→X2 ps f c b=Ik ps c b
 | 0,c,b,h=>by(obtain rfl:c=0:=by omega);rfl
 | f + 1,c,b,h=>by
   cases c with
   | zero=>
     have:par ps 0= []:=rfl;simp[Ik,X2,this]
   | succ c=>
     simp only[Ik,X2];congr 1
     have key: ∀l:List Int,(∀p∈l,p∈par ps (c+1))→(l.any fun p=>X2 ps f p.toNat b)=l.any fun p=>X2 ps c p.toNat b:=by
      intro l hl
      induction l with
      | nil=>rfl
      | cons p r ih=>
        have hp:=ho (c+1) p (hl p (.head _));simp only[Q7];rw[ih fun q hq=>hl q (.tail _ hq),JJ ho f p.toNat b (by omega),JJ ho c p.toNat b (by omega)]
     exact key _ fun p hp=>hp
def Eb {ps:List (List Int)} (ho:ordered ps) (c b:Nat):Ik ps c b=(c==b||(par ps c).any fun p=>Ik ps p.toNat b):=by
 cases c with
 | zero=>simp[Ik,X2,par]
 | succ c=>
   simp only[Ik,X2];congr 1
   have key: ∀l:List Int,(∀p∈l,p∈par ps (c+1))→(l.any fun p=>X2 ps c p.toNat b)=l.any fun p=>X2 ps p.toNat p.toNat b:=by
    intro l hl
    induction l with
    | nil=>rfl
    | cons p r ih=>
      have hp:=ho (c+1) p (hl p (.head _));simp only[Q7];rw[ih fun q hq=>hl q (.tail _ hq),JJ ho c p.toNat b (by omega)];rfl
   exact key _ fun p hp=>hp
def FI {ps:List (List Int)} (ho:ordered ps) (c:Nat):Ik ps c c=true:=by rw[Eb ho];simp
def Ya {ps:List (List Int)} (ho:ordered ps): ∀(c b:Nat),Ik ps c b=true→b≤c:=by
 intro c
 induction c using Nat.strongRecOn with
 | _ c ih=>
   intro b h;rw[Eb ho]at h;simp only[FU,Dn,Ip]at h;rcases h with rfl|⟨p,hp,h⟩
   ·omega
   ·have:=ho c p hp
    have:=ih p.toNat (by omega) b h;omega
def K9 {ps:List (List Int)} (ho:ordered ps): ∀(a b c:Nat),Ik ps a b=true→Ik ps b c=true→Ik ps a c=true:=by
 intro a
 induction a using Nat.strongRecOn with
 | _ a ih=>
   intro b c h k;rw[Eb ho]at h ⊢;simp only[FU,Dn,Ip]at h ⊢;rcases h with rfl|⟨p,hp,h⟩
   ·rw[Eb ho]at k
    simpa using k
   ·have:=ho a p hp
    exact .inr ⟨p,hp,ih p.toNat (by omega) b c h k⟩
def FE (bs:List Bool) (i:Nat):List Int→List Bool
 | []=>bs
 | p::r=>FE (bs.set p.toNat (bs.getD p.toNat false||bs.getD i false)) i r
def KY (i:Nat): ∀(a b:List Int) (bs:List Bool),FE bs i (a++b)=FE (FE bs i a) i b
 | [],b,bs=>rfl
 | p::r,b,bs=>by simp only[List.cons_append,FE];exact KY i r b _
def LI (i:Nat): ∀(l:List Int) (bs:List Bool),(FE bs i l).length=bs.length
 | [],bs=>rfl
 | p::r,bs=>by simp only[FE];rw[LI i r];simp
def Gc (ps:List (List Int)) (n c:Nat):Nat→List Bool
 | 0=>(List.replicate n false).set c true
 | k+1=>FE (Gc ps n c k) (c - k) (par ps (c - k))
def Jv (ps:List (List Int)) (n c:Nat): ∀k,(Gc ps n c k).length=n
 | 0=>by simp[Gc]
 | k+1=>by simp only[Gc];rw[LI,Jv ps n c k]
def Eg {bs:List Bool} {j:Nat} {x:Bool} (hj:j<bs.length) (b:Nat):(bs.set j x).getD b false=if b=j then x else bs.getD b false:=by
 simp only[Dc,List.getElem?_set];by_cases h:j=b
 ·subst h;simp[hj]
 ·rw[if_neg h,if_neg (fun e=>h e.symm)]
def LJ {i:Nat}: ∀(l:List Int) (bs:List Bool),(∀p∈l,0≤p∧p.toNat<bs.length∧p.toNat<i)→ ∀b,(FE bs i l).getD b false=(bs.getD b false||(bs.getD i false&&l.contains (b:Int)))
 | [],bs,_,b=>by simp[FE]
 | p ::r,bs,h,b=>by
   obtain⟨h1,h2,h3⟩:=h p (.head _);simp only[FE];have hi:i≠p.toNat:=by omega
   rw[LJ r _ (fun q hq=>by have:=h q (.tail _ hq);simpa using this),Eg h2,Eg h2,if_neg hi];by_cases hb:b=p.toNat
   ·subst hb
    have:((p.toNat:Nat):Int)=p:=by omega
    simp only[if_true,this,List.contains_cons,beq_self_eq_true,Bool.true_or,Bool.and_true];cases bs.getD p.toNat false<;>cases bs.getD i false<;>simp
   ·rw[if_neg hb]
    have:((b:Int)==p)=false:=by simp;omega
    simp only[List.contains_cons,this,Bool.false_or]
def R1 {ps:List (List Int)} (ho:ordered ps) {n c:Nat} (hc:c<n): ∀k,k≤c - 2→(∀b,(Gc ps n c k).getD b false=true→Ik ps c b=true)∧(Gc ps n c k).getD c false=true∧
    (∀j p,c - k<j→(Gc ps n c k).getD j false=true→p∈par ps j→(Gc ps n c k).getD p.toNat false=true)
 | 0,_=>by
   have hg: ∀b,(Gc ps n c 0).getD b false=decide (b=c):=fun b=>by
    simp only[Gc];rw[Eg (by simpa using hc)];by_cases h:b=c
    ·simp[h]
    ·rw[if_neg h]
     simp[h,Dc,List.getElem?_replicate];split<;>rfl
   refine⟨fun b hb=>?_,by rw[hg];simp,fun j p hj hb hp=>?_⟩
   ·rw[hg]at hb
    simp only[CY]at hb;subst hb;exact FI ho _
   ·rw[hg]at hb
    simp only[CY]at hb;omega
 | k + 1,hk=>by
   obtain⟨h1,h2,h3⟩:=R1 ho hc k (by omega)
   have hpar: ∀p∈par ps (c - k),0≤p∧p.toNat<(Gc ps n c k).length∧p.toNat<c - k:=fun p hp=>by
    have:=ho _ p hp;rw[Jv];omega
   have hg: ∀b,(Gc ps n c (k+1)).getD b false=((Gc ps n c k).getD b false||((Gc ps n c k).getD (c - k) false&&(par ps (c - k)).contains (b:Int))):=fun b=>by
    simp only[Gc];exact LJ _ _ hpar b
   refine⟨fun b hb=>?_,by rw[hg,h2];rfl,fun j p hj hb hp=>?_⟩
   ·rw[hg]at hb
    simp only[FU,BY,List.contains_iff_mem]at hb;rcases hb with hb|⟨hb,hm⟩
    ·exact h1 b hb
    ·refine K9 ho c (c - k) b (h1 _ hb) ?_
     rw[Eb ho];simp only[FU,Ip];exact .inr ⟨b,hm,by simpa using FI ho b⟩
   ·have hjp:=ho j p hp
    have hb':(Gc ps n c k).getD j false=true:=by
     rw[hg]at hb;simp only[FU,BY,List.contains_iff_mem]at hb;rcases hb with hb|⟨_,hm⟩
     ·exact hb
     ·have:=ho _ _ hm
      omega
    rw[hg];by_cases e:j=c - k
    ·subst e
     rw[hb'];have:((p.toNat:Nat):Int)=p:=by omega
     simp only[this,EW,FU,List.contains_iff_mem];exact .inr hp
    ·rw[h3 j p (by omega) hb' hp]
     rfl
def VF {ps:List (List Int)} (ho:ordered ps) {n c:Nat} (hc:c<n) (b:Nat):(Gc ps n c (c - 2)).getD b false=Ik ps c b:=by
 obtain⟨h1,h2,h3⟩:=R1 ho hc (c - 2) (Ja _)
 have key: ∀a,(Gc ps n c (c - 2)).getD a false=true→ ∀b,Ik ps a b=true→(Gc ps n c (c - 2)).getD b false=true:=by
  intro a
  induction a using Nat.strongRecOn with
  | _ a ih=>
    intro ha b hb;rw[Eb ho]at hb;simp only[FU,Dn,Ip]at hb;rcases hb with rfl|⟨p,hp,hb⟩
    ·exact ha
    ·have:=ho a p hp
     exact ih p.toNat (by omega) (h3 a p (by omega) ha hp) b hb
 cases hb:Ik ps c b with
 | true=>exact key c h2 b hb
 | false=>
   cases hq:(Gc ps n c (c - 2)).getD b false with
   | false=>rfl
   | true=>rw[h1 b hq]at hb;cases hb
end Go.Gl
namespace Go.Gl
open Go.Proofs
attribute [local irreducible] BC Ax Ai AU AO Ag AV AW AM Af AR AT A0 A9 Sat Ab A6 Ak W
def gd (g:List (List Int)) (f:Bool) (c:Int) (hg:Ha g) (h0:0≤c) (h1:c<3+g.length):Pure Tryz.prog 124 [.l (EZ g) f,eI c] (.t [.l (iL ((Bx g).getD c.toNat [])) false,.b (!((Bx g).getD c.toNat []).isEmpty)]):=by
 refine kX kZ ?_
 conv=>whnf
 repeat((first|(refine As ?_;intro K U)|(refine AY ?_;intro I C G F)|(apply G;clear F C G I)|(apply U;clear U K)|fail);conv=>whnf)
 refine(Wx g f hg).use ?_
 conv=>whnf
 have hlen:=CS g (2+g.length);have hlt:c.toNat<(Bx g).length:=by unfold Bx;omega
 have hq:=Da hlt;refine RY c.toNat hq (by omega) rfl ?_
 conv=>whnf
 repeat((first|refine⟨rfl,?_⟩|refine Br ?_|refine Eo ?_|(refine As ?_;intro K U)|(refine AY ?_;intro I C G F)|(apply G;clear F C G I)|refine D3 ?_|(apply U;clear U K)|fail);conv=>whnf)
 refine AI ?_;rw[Dc,hq,Option.getD_some];cases(Bx g)[c.toNat]with
 | nil=>rfl
 | cons _ _=>simp
def r8 (w:AK):Prop:=w.parents.length≤1000∧(∀l∈w.parents,l.length≤Ae)∧w.owner.length≤Ae
def fy {ps:List (List Int)} {c:Nat} (h3:3≤c) (hc:c<3+ps.length):ps[c - 3]? =some (par ps c):=by
 unfold par;rw[if_neg (by omega),Dc,Da (by omega)];rfl
def VB {bs:List Bool} {j:Nat} (h:j<bs.length):(bL bs)[j]? =some [.b (bs.getD j false)]:=by
 rw[Pw,Dc,Da h];rfl
def Tw (bs:List Bool) (j:Nat) (x:Bool):(bL bs).set j [.b x]=bL (bs.set j x):=by
 simp[bL,List.map_set]
def l8 (w : AK) (c:Nat) (hw:r8 w) (ho:ordered w.parents) (hc:c<3+w.parents.length):Pure Tryz.prog 153 [.a (A2 w),eI c] (.l (bL (Gc w.parents (3+w.parents.length) c (c - 2))) false):=by
 obtain⟨hw1,hw2,hw3⟩:=hw;have hmL:3+w.parents.length≤Ae:=by simp only[Ae];omega
 refine j8 kZ ?_
 conv=>whnf
 repeat((first|refine⟨rfl,?_⟩|refine Br ?_|refine Eo ?_|(refine As ?_;intro K U)|(refine AY ?_;intro I C G F)|(apply G;clear F C G I)|(apply U;clear U K)|fail);conv=>whnf)
 rw[show IntKind.i64.wrap (3+((EZ w.parents).length:Nat))=((3+w.parents.length:Nat):Int) by rw[BQ,wrap64 (by omega) (by omega)];omega];refine uD Sat.nil (by omega) fun v σ hs hv=>?_
 obtain⟨id,rfl⟩:=hv
 conv=>whnf
 repeat((first|(refine As ?_;intro K U)|(refine AY ?_;intro I C G F)|(apply G;clear F C G I)|(apply U;clear U K)|fail);conv=>whnf)
 refine a6 hs 0 c rfl rfl (by simpa using hc) ?_
 conv=>whnf
 refine KG hs 0 rfl (e:=[.b false]) (by simp[hc]) rfl rfl rfl rfl rfl fun σ hs=>?_
 have e0:(List.replicate (3+w.parents.length) [V.b false]).set c [V.b true]=bL (Gc w.parents (3+w.parents.length) c 0):=by
  simp only[Gc];rw[←Tw];simp[bL]
 conv=>whnf
 repeat((first|(refine As ?_;intro K U)|(refine AY ?_;intro I C G F)|(apply G;clear F C G I)|refine Bc ?_|refine DY ?_|(apply U;clear U K)|fail);conv=>whnf)
 refine CZ (c - 2) (fun k (_:Unit)=>[(6,eI (WQ c k))]) (fun k _=>[.own (.sl id (3+w.parents.length) (3+w.parents.length)) 1 (bL (Gc w.parents (3+w.parents.length) c k))]) (fun _ _=>True) () rfl trivial (e0 ▸ hs) ?_;rintro k - σ hk - hs;have hd:WQ c k=(c:Int) - k:=Vw (by omega) (by omega);have hul:=Jv w.parents (3+w.parents.length) c k
 conv=>whnf
 repeat((first|refine⟨rfl,?_⟩|(refine As ?_;intro K U)|(refine AY ?_;intro I C G F)|(apply G;clear F C G I)|refine Bs ?_|(apply U;clear U K)|fail);conv=>whnf)
 refine fork (fun hlt=>?_) (fun hlt=>?_)
 ·rw [hd]at hlt
  have h3:3≤c - k:=by omega
  have hpar:=fy (ps:=w.parents) h3 (by omega);have hpl:=hw2 _ (Cj hpar)
  conv=>whnf
  repeat((first|refine⟨rfl,?_⟩|refine Br ?_|(refine As ?_;intro K U)|(refine AY ?_;intro I C G F)|refine Bv ?_|refine Bc ?_|(apply U;clear U K)|fail);conv=>whnf)
  refine RY (c - k - 3) hpar (by rw[hd,wrap64 (by omega) (by omega)];omega) rfl ?_
  conv=>whnf
  repeat((first|refine Br ?_|refine Eo ?_|(apply G;clear F C G I)|refine Bc ?_|refine DY ?_|(apply U;clear U K)|fail);conv=>whnf)
  refine CZ (par w.parents (c - k)).length (fun j (_:Unit)=>[(29,eI (BL j))]) (fun j _=>[.own (.sl id (3+w.parents.length) (3+w.parents.length)) 1 (bL (FE (Gc w.parents (3+w.parents.length) c k) (c - k) ((par w.parents (c - k)).take j)))]) (fun _ _=>True) () rfl trivial hs ?_;rintro j - σ hj - hs;have hml:=LI (c - k) ((par w.parents (c - k)).take j) (Gc w.parents (3+w.parents.length) c k)
  conv=>whnf
  repeat((first|refine⟨rfl,?_⟩|(refine As ?_;intro K U)|(refine AY ?_;intro I C G F)|(apply G;clear F C G I)|refine Bs ?_|(apply U;clear U K)|fail);conv=>whnf)
  refine Fs hj hpl (fun p hp hjlt=>?_) fun hj=>?_
  ·have hpp:=ho _ p (Cj hp)
   have hm:(FE (Gc w.parents (3+w.parents.length) c k) (c - k) ((par w.parents (c - k)).take (j+1)))=(FE (Gc w.parents (3+w.parents.length) c k) (c - k) ((par w.parents (c - k)).take j)).set p.toNat
    ((FE (Gc w.parents (3+w.parents.length) c k) (c - k) ((par w.parents (c - k)).take j)).getD p.toNat false||(FE (Gc w.parents (3+w.parents.length) c k) (c - k) ((par w.parents (c - k)).take j)).getD (c - k) false):=by
    rw[AX hp,KY];rfl
   generalize hbs:FE (Gc w.parents (3+w.parents.length) c k) (c - k) ((par w.parents (c - k)).take j)=bs at *;have hlp:p.toNat<bs.length:=by omega
   have hlc:c - k<bs.length:=by omega
   conv=>whnf
   repeat((first|(refine As ?_;intro K U)|(refine AY ?_;intro I C G F)|refine Bv ?_|refine Bc ?_|(apply U;clear U K)|fail);conv=>whnf)
   refine Hy hp hpl rfl ?_
   conv=>whnf
   repeat((first|refine Br ?_|(refine AY ?_;intro I C G F)|(apply G;clear F C G I)|(apply U;clear U K)|fail);conv=>whnf)
   refine a6 hs 0 p.toNat rfl (by omega) (by simpa using hlp) ?_
   conv=>whnf
   refine IS hs 0 rfl (VB hlp) ?_
   conv=>whnf
   cases hb:bs.getD p.toNat false with
   | true=>
     rw[hb]at hm
     conv=>whnf
     repeat((first|refine V5 ?_|fail);conv=>whnf)
     refine a6 hs 0 p.toNat rfl (by omega) (by simpa using hlp) ?_
     conv=>whnf
     refine KG hs 0 rfl (VB hlp) rfl rfl rfl rfl rfl fun σ hs=>?_
     conv=>whnf
     repeat((first|refine⟨rfl,?_⟩|(refine AY ?_;intro I C G F)|(apply G;clear F C G I)|(apply U;clear U K)|(clear U K));conv=>whnf)
     refine⟨hjlt,(),rfl,trivial,?_⟩;rw[hm,←Tw];exact hs
   | false=>
     rw[hb]at hm
     conv=>whnf
     repeat((first|refine Ql ?_|fail);conv=>whnf)
     refine a6 hs 0 (c - k) rfl (by rw[hd];omega) (by simpa using hlc) ?_
     conv=>whnf
     repeat((first|refine Ql ?_|fail);conv=>whnf)
     refine IS hs 0 rfl (VB hlc) ?_
     conv=>whnf
     refine a6 hs 0 p.toNat rfl (by omega) (by simpa using hlp) ?_
     conv=>whnf
     refine KG hs 0 rfl (VB hlp) rfl rfl rfl rfl rfl fun σ hs=>?_
     conv=>whnf
     repeat((first|refine⟨rfl,?_⟩|(refine AY ?_;intro I C G F)|(apply G;clear F C G I)|(apply U;clear U K)|(clear U K));conv=>whnf)
     refine⟨hjlt,(),rfl,trivial,?_⟩;rw[hm,←Tw];exact hs
  ·rw[BK hj]at hs
   conv=>whnf
   repeat((first|refine⟨rfl,?_⟩|(refine AY ?_;intro I C G F)|(apply G;clear F C G I)|refine DZ ?_|(apply U;clear U K)|(clear U K));conv=>whnf)
   refine⟨by omega,(),rfl,trivial,hs⟩
 ·rw[hd]at hlt
  conv=>whnf
  repeat((first|(refine As ?_;intro K U)|(refine AY ?_;intro I C G F)|(apply G;clear F C G I)|refine DZ ?_|refine D3 ?_|(apply U;clear U K)|(clear U K));conv=>whnf)
  have:k=c - 2:=by omega
  subst this;exact Fw hs 0 rfl rfl
end Go.Gl
namespace Go.Gl
variable {P:Program} {σ σ':AH}
mutual
def Ev:V→Prop
 | .i k n=>k.min≤n∧n≤k.max
 | .rp cs=>HA cs
 | .l es _=>es.length≤Ae∧RV es
 | .f _ a b=>HA a∧HA b
 | .Jd _ v=>Ev v
 | .a cs=>HA cs
 | .t vs=>HA vs
 | _=>True
def HA:List V→Prop
 | []=>True
 | v::r=>Ev v∧HA r
def RV:List (List V)→Prop
 | []=>True
 | e::r=>HA e∧RV r
end
mutual
def eG {H:Nat→Nat→Option Value}: ∀(v:V) (c:Value),Aa H v c→Ev v
 | .b _,_,_| .s _,_,_| .pn,_,_| .p _ _,_,_| .sl _ _ _,_,_| .sv _ _ _ _,_,_| .pe _ _ _ _,_,_| .m _,_,_| .mn,_,_| .MZ,_,_| .Hq,_,_| .any,_,_=>by simp only[Ev]
 | .i k n,_,h=>by
   simp only[Aa]at h;simp only[Ev];exact h.2
 | .rp cs,_,h=>by
   simp only[Aa]at h;obtain⟨b,o,rfl,h⟩:=h;simp only[Ev];exact IB cs o h
 | .l es full,_,h=>by
   simp only[Aa]at h;obtain⟨a,cap,h1,h2,h3,h4,h5,h6⟩:=h;simp only[Ev];refine⟨h4,?_⟩;cases es with
   | nil=>exact trivial
   | cons e es=>
     obtain⟨b,o,sz,h7,h8⟩:=h6 (by simp);exact Ys (e::es) o h8
 | .f fn first cap,_,h=>by
   simp only[Aa]at h;obtain⟨f',c',h1,h2,h3,h4,h5⟩:=h;simp only[Ev];exact⟨IB first 0 h3,IB cap 0 h5⟩
 | .Jd t v,_,h=>by
   simp only[Aa]at h;obtain⟨c',h1,h2⟩:=h;simp only[Ev];exact eG v c' h2
 | .a cs,_,h=>by
   simp only[Aa]at h;obtain⟨c',h1,h2,h3⟩:=h;simp only[Ev];exact IB cs 0 h3
 | .t cs,_,h=>by
   simp only[Aa]at h;obtain⟨c',h1,h2,h3⟩:=h;simp only[Ev];exact IB cs 0 h3
def IB {H:Nat→Nat→Option Value} {g:Nat→Option Value}: ∀(vs:List V) (o:Nat),BZ H g o vs→HA vs
 | [],_,_=>trivial
 | v::vs,o,h=>by
   simp only[BZ]at h;obtain⟨⟨c,h1,h2⟩,h3⟩:=h;exact⟨eG v c h2,IB vs (o+1) h3⟩
def Ys {H:Nat→Nat→Option Value} {g:Nat→Option Value} {sz:Nat}: ∀(es:List (List V)) (o:Nat),BN H g sz o es→RV es
 | [],_,_=>trivial
 | e::es,o,h=>by
   simp only[BN]at h;obtain⟨h1,h2,h3⟩:=h;exact⟨IB e o h2,Ys es (o+sz) h3⟩
end
def BC.fit {f:FuncId} {args:List V} {Q:R→AH→Prop} (hok:okF P f=true) (h:HA args→BC P f args σ Q):BC P f args σ Q:=
 ⟨hok,fun Λ w cs G hv=>(h (IB args 0 hv.2)).2 Λ w cs G hv⟩
def Pure.fit {f:FuncId} {args:List V} {v:V} (hok:okF P f=true) (h:HA args→Pure P f args v):Pure P f args v:=BC.fit hok h
def Bd.fit {f:FuncId} {args:List V} {pre:List At} {Φ:R→List At→Prop} (hok:okF P f=true) (h:HA args→Bd P f args pre Φ):Bd P f args pre Φ:=fun σ hs=>BC.fit hok fun hf=>h hf σ hs
def aD {es:List (List V)}:RV es↔ ∀e∈es,HA e:=by
 induction es with
 | nil=>simp[RV]
 | cons e r ih=>simp[RV,ih]
def IF {α:Type} {enc:α→List V} {xs:List α}:RV (xs.map enc)↔ ∀x∈xs,HA (enc x):=by
 rw[aD];simp
def Ed {es:List (List V)} {f:Bool}:Ev (.l es f)↔es.length≤Ae∧RV es:=Iff.rfl
def IC {cs:List V}:Ev (.a cs)↔HA cs:=Iff.rfl
def Qh {cs:List V}:Ev (.rp cs)↔HA cs:=Iff.rfl
def EP {v:V} {r:List V}:HA (v::r)↔Ev v∧HA r:=Iff.rfl
def drop_cons {α:Type} {xs:List α} {k:Nat} {x:α} (h:xs[k]? =some x):xs.drop k=x::xs.drop (k+1):=by
 obtain⟨hk,rfl⟩:=Hr.1 h;exact List.drop_eq_getElem_cons hk
def An {α:Type} {xs:List α} {k:Nat} (h:k=xs.length):xs.drop k= []:=List.drop_of_length_le (by omega)
end Go.Gl
namespace Go.Gl
variable {P:Program} {σ:AH} {env:Env}
class RM (AD:Prop) (G':outParam Prop):Prop where
 h:G'→AD
def st {AD G':Prop} [i:RM AD G'] (h:G'):AD:=i.h h
def sq {l:List Nat} {a b:AJ} {Q:Aq→Env→AH→Prop} (h: ∀K:Env→AH→Prop,(∀env σ,(pk l env fun E=>W P b Q E σ)→K env σ)→W P a (Aq.andThen K Q) env σ):W P (.seq l a b) Q env σ:=As h
class r6 (AD:Prop) (G':outParam Prop):Prop where
 h:G'→AD
def si {AD G':Prop} [i:r6 AD G'] (h:G'):AD:=i.h h
instance {ops:List Ac} {Q:Aq→Env→AH→Prop}:r6 (W P (.A4 ops) Q env σ) (∀(I:Env→AH→Prop) (C:Env→V→AH→Prop),(∀env σ,Q .normal env σ→I env σ)→(∀env v σ,Q (.Cy v) env σ→C env v σ)→WT P ops I C env σ):=⟨AY⟩
instance {l:List Nat} {ops:List C3} {Q:Aq→Env→AH→Prop}:r6 (W P (.Ba l ops) Q env σ) (∀(I:Env→AH→Prop) (C:V→AH→Prop),(∀env σ,(pk l env fun E=>Q .normal E σ)→I env σ)→(∀v σ,(∀σ',Sub σ σ'→Q (.Cy v) [] σ')→C v σ)→WD P ops I C env σ):=⟨dZ⟩
instance {c:B9} {a b:AJ} {Q:Aq→Env→AH→Prop}:RM (W P (.cond c a b) Q env σ) (match ev env c with
 | some (.b t)=>(t=true→W P a Q env σ)∧(t=false→W P b Q env σ)
 | _=>False):=⟨Bs⟩
instance {id:Nat} {a:AJ} {Q:Aq→Env→AH→Prop}:RM (W P (.block id a) Q env σ) (W P a (Aq.inBlock id Q) env σ):=⟨Bc⟩
instance {l:List Nat} {a:AJ} {Q:Aq→Env→AH→Prop}:RM (W P (.loop l a) Q env σ) (pk l env fun E=>Ak l a (W P a) Q E σ):=⟨DY⟩
instance {id:Nat} {Q:Aq→Env→AH→Prop}:RM (W P (.exit id) Q env σ) (Q (.exit id) env σ):=⟨DZ⟩
instance {Q:Aq→Env→AH→Prop}:RM (W P .ret Q env σ) (Q .ret env σ):=⟨D3⟩
instance {Q:Aq→Env→AH→Prop}:RM (W P .skip Q env σ) (Q .normal env σ):=⟨Bv⟩
instance {a:AJ} {Q:Aq→Env→AH→Prop}:RM (W P (.scope a) Q env σ) (W P a Q env σ):=⟨ah⟩
instance {l:List Nat} {g:B9} {ps:List Nat} {a b:AJ} {Q:Aq→Env→AH→Prop}:RM (W P (.DT l g ps a b) Q env σ) (match ev env g with
 | some (.f (.func gf) [] cap)=>pk l env fun E=> ∀L,σ L=none→BC P gf (.f (.yield L) [] []::cap) (A8 σ L (.loop .ready E (Bw P ps a b))) (JI L Q env)
 | _=>False):=⟨ai⟩
instance {A B:Prop}:RM ((true=true→A)∧(true=false→B)) A:=⟨K5⟩
instance {A B:Prop}:RM ((false=true→A)∧(false=false→B)) B:=⟨QI⟩
instance {A B:Prop}:RM ((false=false→A)∧(false=true→B)) A:=⟨Ql⟩
instance {A B:Prop}:RM ((true=false→A)∧(true=true→B)) B:=⟨V5⟩
instance {A B:Prop} {b:Bool}:RM ((b=true→A)∧(b= !true→B)) ((b=true→A)∧(b=false→B)):=⟨id⟩
instance {A B:Prop} {b:Bool}:RM ((b=false→A)∧(b= !false→B)) ((b=false→A)∧(b=true→B)):=⟨id⟩
instance {agg:Option Nat} {cs:List V} {K:V→Prop}:RM (Ab σ agg (.rp cs) K) (cut agg cs 0 K):=⟨fun h=>h⟩
instance {es:List (List V)} {f:Bool} {K:V→Prop}:RM (A6 (.l es f) K) (K (.i .i64 es.length)):=⟨Eo⟩
def kc {K A:Env→AH→Prop} (h:A env σ) (hk: ∀env σ,A env σ→K env σ:=by assumption):K env σ:=hk _ _ h
def kp {K A:Env→V→AH→Prop} {v:V} (h:A env v σ) (hk: ∀env v σ,A env v σ→K env v σ:=by assumption):K env v σ:=hk _ _ _ h
def rk {x:Ac} {r:List Ac} {A:Prop} (h1:Gs P x env σ) (h2:Ee P r env σ∧A):Ee P (x::r) env σ∧A:=⟨⟨h1,h2.1⟩,h2.2⟩
def dr {A:Prop} (h:A):Ee P [] env σ∧A:=⟨trivial,h⟩
class BP (b v:Bool) (p:outParam Prop):Prop where
 h:b=v→p
def bp {b v:Bool} {p:Prop} [i:BP b v p] (h:b=v):p:=i.h h
instance (priority:=low) {b v:Bool}:BP b v (b=v):=⟨id⟩
instance (priority:=mid) {p:Prop} [Decidable p]:BP (decide p) true p:=⟨of_decide_eq_true⟩
instance (priority:=mid) {p:Prop} [Decidable p]:BP (decide p) false (¬p):=⟨of_decide_eq_false⟩
instance {a b:Int}:BP (decide (a<b)) false (b≤a):=⟨fun h=>Int.not_lt.1 (of_decide_eq_false h)⟩
instance {a b:Int}:BP (decide (a≤b)) false (b<a):=⟨fun h=>Int.not_le.1 (of_decide_eq_false h)⟩
instance {a b:Int}:BP (a==b) true (a=b):=⟨fun h=>by simpa using h⟩
instance {a b:Int}:BP (a==b) false (a≠b):=⟨fun h=>by simpa using h⟩
instance {a b:Int}:BP (a != b) true (a≠b):=⟨fun h=>by simpa using h⟩
instance {a b:Int}:BP (a != b) false (a=b):=⟨fun h=>by simpa using h⟩
instance {b:Bool} {p:Prop} [i:BP b false p]:BP (!b) true p:=⟨fun h=>i.h (by simpa using h)⟩
instance {b:Bool} {p:Prop} [i:BP b true p]:BP (!b) false p:=⟨fun h=>i.h (by simpa using h)⟩
instance {b x v:Bool} {p:Prop} [i:BP b v p]:BP (bif false then x else b) v p:=⟨i.h⟩
instance {b x v:Bool} {p:Prop} [i:BP b v p]:BP (bif true then b else x) v p:=⟨i.h⟩
def fc {α:Type} {enc:α→List V} {xs:List α} {k:Nat} {A B:Prop} (h1: ∀x,xs[k]? =some x→k<xs.length→decide (BL k<((xs.map enc).length:Nat))=true→A) (h2:k=xs.length→decide (BL k<((xs.map enc).length:Nat))=false→B) (hk:k≤xs.length:=by assumption) (hm:xs.length≤Ae:=by first|assumption|omega|simp[Ae]<;>omega) :
    (decide (BL k<((xs.map enc).length:Nat))=true→A)∧(decide (BL k<((xs.map enc).length:Nat))=false→B):=
 ⟨fun h=>(Fs (enc:=enc) (A:=A) (B:=True) hk hm (fun x hx hlt=>h1 x hx hlt h) fun _=>trivial).1 h,fun h=>(Fs (enc:=enc) (A:=True) (B:=B) hk hm (fun _ _ _=>trivial) fun he=>h2 he h).2 h⟩
def ix {α:Type} {enc:α→List V} {xs:List α} {f:Bool} {sz:Nat} {K:V→Prop} {ki:IntKind} {k:Nat} {x:α} (h:K (.rp (enc x))) (hx:xs[k]? =some x:=by assumption) (hm:xs.length≤Ae:=by first|assumption|omega|simp[Ae]<;>omega) (hs:(enc x).length=sz:=by first|rfl|simp) :
    AU sz none (.l (xs.map enc) f) (.i ki (BL k)) K:=Hy hx hm hs h
def iq {α:Type} {enc:α→List V} {xs:List α} {f:Bool} {sz:Nat} {K:V→Prop} {ki:IntKind} {j:Int} (h: ∀x,xs[j.toNat]? =some x→K (.rp (enc x))) (h0:0≤j:=by omega) (h1:j<xs.length:=by omega) (hs: ∀x,(enc x).length=sz:=by intro x;first|rfl|simp|(rw[B5];rfl)) :
    AU sz none (.l (xs.map enc) f) (.i ki j) K:=by
 have hlt:j.toNat<xs.length:=by omega
 exact RY j.toNat (Da hlt) (by omega) (hs _) (h _ (Da hlt))
def rn {α:Type} {enc:α→List V} {xs:List α} {f:Bool} {sz:Nat} {ki:IntKind} {k:Nat} {K:V→AH→Prop} (h:K (.l ((xs.take k).map enc) (f&&decide ((k:Int)=((xs.map enc).length:Nat)))) σ) (hl:k≤xs.length:=by first|assumption|omega) (hm:xs.length≤Ae:=by first|assumption|omega) (hs: ∀x,(enc x).length=sz:=by intro x;first|rfl|simp|(rw[B5];rfl)) :
    AV σ sz (.l (xs.map enc) f) none (some (.i ki (BL k))) none K:=by
 rw[AL (by omega)];refine⟨fun e he=>?_,?_⟩
 ·obtain⟨x,_,rfl⟩:=MT.1 he
  exact hs x
 ·simp only[OM,BQ]
  refine⟨by omega,by omega,by omega,?_⟩;rw[Jb];simpa[List.map_take]using h
def TP {xs:List Fact} {f:Bool} {K:V→Prop} {ki:IntKind} {k:Nat} {x:Fact} (h:K (.rp (xF x))) (hx:xs[k]? =some x:=by assumption) (hm:xs.length≤Ae:=by first|assumption|omega):AU 6 none (.l (xs.map Fq) f) (.i ki (BL k)) K:=by
 refine Hy hx hm (by rw[B5];rfl) ?_;rw[B5];exact h
def RK {a0:At} {l:List At}:(a0::l)[0]? =some a0:=rfl
def RJ {a0 a1:At} {l:List At}:(a0::a1::l)[1]? =some a1:=rfl
def RI {a0 a1 a2:At} {l:List At}:(a0::a1::a2::l)[2]? =some a2:=rfl
def RH {a0 a1 a2 a3:At} {l:List At}:(a0::a1::a2::a3::l)[3]? =some a3:=rfl
def RG {a0 a1 a2 a3 a4:At} {l:List At}:(a0::a1::a2::a3::a4::l)[4]? =some a4:=rfl
def RF {a0 a1 a2 a3 a4 a5:At} {l:List At}:(a0::a1::a2::a3::a4::a5::l)[5]? =some a5:=rfl
def ld {l:List At} {i n off:Nat} {agg:Option Nat} {vs:List V} {K:V→Prop} (hk:cut agg vs off K) (h:Sat σ l:=by assumption)
    (hi:l[i]? =some (.box n vs):=by first|exact RK|exact RJ|exact RI|exact RH|exact RG|exact RF):Ab σ agg (.p n off) K:=Ro h i hi hk
def s1 {l:List At} {i n off:Nat} {vs:List V} {x:V} {K:AH→Prop} (hk: ∀σ',Sat σ' (l.set i (.box n (vs.set off x)))→K σ') (h:Sat σ l:=by assumption)
    (hi:l[i]? =some (.box n vs):=by first|exact RK|exact RJ|exact RI|exact RH|exact RG|exact RF)
    (h1:Db x=true:=by first|rfl|exact Ge (by assumption) 0 rfl|exact Ge (by assumption) 1 rfl|exact Ge (by assumption) 2 rfl|exact Ge (by assumption) 3 rfl|simp) (ho:off+1≤vs.length:=by exact Nat.le_of_ble_eq_true rfl):AW σ 1 (.p n off) x K:=
 Jy h i hi h1 ho hk
def sn {l:List At} {i n off sz:Nat} {vs vc:List V} {x:V} {K:AH→Prop} (hk: ∀σ',Sat σ' (l.set i (.box n (putAt vs off vc)))→K σ') (h:Sat σ l:=by assumption)
    (hi:l[i]? =some (.box n vs):=by first|exact RK|exact RJ|exact RI|exact RH|exact RG|exact RF)
    (hc:cellsOf x=some vc:=by rfl) (hl:vc.length=sz:=by rfl) (h1:vc.all Db=true:=by first|rfl|simp) (ho:off+sz≤vs.length:=by exact Nat.le_of_ble_eq_true rfl):AW σ sz (.p n off) x K:=
 IA h i hi hc hl h1 ho hk
def QE:Er (fun f:Fact=>Fq f) 6:=fun f=>by
 simp only[B5];refine⟨rfl,fun v hv=>?_⟩;simp only[Fh,List.not_mem_nil,or_false]at hv;rcases hv with rfl|rfl|rfl|rfl|rfl|rfl<;>rfl
def Qf:Er (fun l:List Fact=>[V.l (facts l) false]) 1:=fun x=>⟨rfl,fun v hv=>by simp at hv;subst hv;rfl⟩
def af {α:Type} {enc:α→List V} {sz:Nat} {ys:List α} {g:Bool} {K:V→Prop} (hk:K (.l (ys.map enc) false)) (hg:Er enc sz:=by first|exact Co|exact DM|exact Qe|exact QE|exact Qf) {b:Nat} (hl:ys.length≤Ae∧ys.length*b≤140737488355328:=by first|assumption|omega) :
    Ag b σ sz (.l [] true) (.l (ys.map enc) g) K:=Yq hg hl hk
def al {l:List At} {o:O} {n:Nat} {K:Prop} {σ':AH} (e:A8 σ n o=σ') (hk:Sat σ' (l++[.obj n o])→K) (hn:σ n=none:=by assumption) (h:Sat σ l:=by assumption):K:=hk (e ▸ YE h hn)
def oi {l:List At} {i:Nat} {v:V} {sz:Nat} {es:List (List V)} {ki:IntKind} {j:Int} {K:V→Prop} (hk:K (GC v sz j.toNat)) (h:Sat σ l:=by assumption)
    (hi:l[i]? =some (.own v sz es):=by first|exact RK|exact RJ|exact RI|exact RH|exact RG|exact RF) (h0:0≤j:=by omega) (h1:j<es.length:=by first|omega|(simp only[BQ]at *;omega)):AU sz none v (.i ki j) K:=
 a6 h i j.toNat hi (by omega) (by omega) hk
def oc {l:List At} {i:Nat} {v:V} {sz k:Nat} {es:List (List V)} {ki:IntKind} {K:V→Prop} (hk:K (GC v sz k)) (h:Sat σ l:=by assumption)
    (hi:l[i]? =some (.own v sz es):=by first|exact RK|exact RJ|exact RI|exact RH|exact RG|exact RF) (h1:k<es.length:=by first|omega|(simp only[BQ]at *;omega)) (hm:k≤Ae:=by first|omega|(simp only[Ae];omega)):AU sz none v (.i ki (BL k)) K:=
 a6 h i k hi (AL (by omega)) h1 hk
def ol {α:Type} {enc:α→List V} {xs:List α} {l:List At} {i:Nat} {v:V} {sz k:Nat} {agg:Option Nat} {K:V→Prop} (hk: ∀x,xs[k]? =some x→cut agg (enc x) 0 K) (h:Sat σ l:=by assumption)
    (hi:l[i]? =some (.own v sz (xs.map enc)):=by first|exact RK|exact RJ|exact RI|exact RH|exact RG|exact RF) (h1:k<xs.length:=by first|omega|(simp only[BQ]at *;omega)):Ab σ agg (GC v sz k) K:=
 IS h i hi (by rw[Pw,Da h1];rfl) (hk _ (Da h1))
def oset {α:Type} {enc:α→List V} {xs:List α} {y:α} {l:List At} {i:Nat} {v x:V} {sz k:Nat} {vc:List V} {K:AH→Prop} (hk: ∀σ',Sat σ' (l.set i (.own v sz ((xs.set k y).map enc)))→K σ') (h:Sat σ l:=by assumption)
    (hi:l[i]? =some (.own v sz (xs.map enc)):=by first|exact RK|exact RJ|exact RI|exact RH|exact RG|exact RF) (hc:cellsOf x=some vc:=by rfl) (he:vc=enc y:=by rfl) (hg:Er enc sz:=by first|exact Co|exact DM|exact Qe|exact QE|exact Qf)
    (hv:(Cc v).isSome=true:=by assumption) (h1:k<xs.length:=by first|omega|(simp only[BQ]at *;omega)):AW σ sz (GC v sz k) x K:=by
 subst he;refine KG h i hi (by rw[Pw,Da h1];rfl) hc (hg y).1 (EY.2 fun v hv=>(hg y).2 v hv) (hg _).1 hv fun σ' hs=>hk σ' ?_
 rw[List.map_set];exact hs
def HS {b sz:Nat} {v:V} {e:List V} {f:Bool} {K:V→AH→Prop} (h:AO b σ sz v (.l [e] f) fun v' σ'=>(Cc v').isSome=true→K v' σ'):AO b σ sz v (.l [e] f) K:=by
 obtain⟨h1,h2,h3⟩:=h;refine⟨h1,h2,?_⟩;cases v with
 | l es full=>exact⟨h3.1,h3.2.1,fun e=>(by cases e),fun e=>⟨(h3.2.2.2 e).1,fun n cap hn hc=>(h3.2.2.2 e).2 n cap hn hc rfl⟩⟩
 | sl n len cap=>
   simp only at h3 ⊢;split at h3
   ·exact⟨h3.1,h3.2.1,h3.2.2.1,h3.2.2.2.1,fun n' cap' hn hc=>h3.2.2.2.2 n' cap' hn hc rfl⟩
   ·exact h3.elim
 | _=>exact h3.elim
def aq {l:List At} {i:Nat} {α:Type} {enc:α→List V} {sz:Nat} {xs:List α} {x:α} {v:V} {f:Bool} {e:List V} {K:V→AH→Prop} (hk: ∀v' σ',Sat σ' (l.set i (.own v' sz ((xs++[x]).map enc)))→(Cc v').isSome=true→K v' σ') (h:Sat σ l:=by assumption)
    (hi:l[i]? =some (.own v sz (xs.map enc)):=by first|exact RK|exact RJ|exact RI|exact RH|exact RG|exact RF)
    (he:e=enc x:=by rfl) (hg:Er enc sz:=by first|exact Co|exact DM|exact Qe|exact QE|exact Qf)
    {b:Nat} (hl:xs.length<Ae∧(xs.length+1)*b≤140737488355328:=by first|assumption|omega|(simp only[RA,BQ,MC,List.length_nil,MS,List.length_drop,List.length_replicate,Ae]at *;omega)):AO b σ sz v (.l [e] f) K:=
 HS (Fo h i hi hl hg hk he)
end Go.Gl
