import Derived.Test.YtijbpgdmpejgoaaGreatW5
import Derived.Test.YtijbpgdmpejgoaaGreatW7
set_option linter.all false
set_option linter.defProp false
noncomputable section
namespace Go.Gl
open Go.Proofs
attribute [local irreducible] BD Aw Ai AU AO Ah AV AW AN Ag AS AT Ay A9 Sat Ab A4 Aj W
def Av (p:Prog):List (List Int):=p.AL.map (·.parents)
def hZ (p:Prog):Prop:=p.AL.length≤Ac∧ ∀c∈p.AL,c.parents.length≤Ac∧c.AP.length≤Ac∧c.inits.length≤Ac
def Wc (p:Prog) (hp:hZ p) (hk0:p.AL.length≤1000):Pure Tryz.prog 91 [.a (BN p)] (.l (Ei (Av p)) false):=by
 refine oy kZ ?_
 conv=>whnf
 repeat((first|(refine As ?_;intro K U)|(refine AZ ?_;intro I C G F)|(apply G;clear F C G I)|refine Be ?_|refine Dg ?_|(apply U;clear U K)|fail);conv=>whnf)
 refine CZ p.AL.length (fun k v=>[(3,v),(4,eI (BH k))]) (fun k v=>[.own v 1 (Ei ((p.AL.take k).map (·.parents)))]) (fun _ _=>True) (.l [] true) rfl trivial (Fl Sat.nil 1) ?_;rintro k v σ hk - hs
 conv=>whnf
 repeat((first|refine⟨rfl,?_⟩|refine Bq ?_|refine Ey ?_|(refine As ?_;intro K U)|(refine AZ ?_;intro I C G F)|(apply G;clear F C G I)|refine Br ?_|(apply U;clear U K)|fail);conv=>whnf)
 refine F6 hk hp.1 (fun c hc hlt=>?_) fun hk=>?_
 ·have hcm:=hp.2 c (Cg hc)
  conv=>whnf
  repeat((first|refine Bq ?_|(refine As ?_;intro K U)|(refine AZ ?_;intro I C G F)|refine Bv ?_|refine Be ?_|(apply U;clear U K)|fail);conv=>whnf)
  refine IK hc hp.1 rfl ?_
  conv=>whnf
  repeat((first|refine Bq ?_|fail);conv=>whnf)
  refine UP Cs (by have:=hcm.1;have hM:=Mx;omega) ?_
  conv=>whnf
  refine Fh hs 0 (x:=c.parents) rfl (by have hM:=Mx;simp only[BR,K6];omega) DQ fun v' σ' hs'=>?_
  conv=>whnf
  repeat((first|refine⟨rfl,?_⟩|(refine AZ ?_;intro I C G F)|(apply G;clear F C G I)|(apply U;clear U K)|(clear U K));conv=>whnf)
  refine⟨hlt,v',rfl,trivial,?_⟩;rw[AX hc,Tu];exact hs'
 ·conv=>whnf
  repeat((first|(refine As ?_;intro K U)|(refine AZ ?_;intro I C G F)|(apply G;clear F C G I)|refine Dh ?_|refine D9 ?_|(apply U;clear U K)|(clear U K));conv=>whnf)
  exact GA hs 0 rfl (by rw[BC hk];rfl)
def BQ (i:Nat):List Me→List Int
 | []=>[]
 | c::r=>List.replicate c.AP.length ((i:Int)+3)++BQ (i+1) r
def AR (p:Prog):AK:=⟨Av p,BQ 0 p.AL⟩
def Fe (i:Nat) (a b:List Me):BQ i (a++b)=BQ i a++BQ (i+a.length) b:=by
 induction a generalizing i with
 | nil=>simp[BQ]
 | cons c r ih=>
   simp only[List.cons_append,BQ,ih,T0,Lt];rw[show i+1+r.length=i+(r.length+1) by omega]
def Bl (cs:List Me):Nat:=(cs.map (·.AP.length)).sum
def CS (i:Nat) (cs:List Me):(BQ i cs).length=Bl cs:=by
 induction cs generalizing i with
 | nil=>rfl
 | cons c r ih=>simp[BQ,ih,Bl]
def OU {cs:List Me} {k:Nat} {c:Me} (h:cs[k]? =some c):Bl (cs.take k)+c.AP.length≤Bl cs:=by
 induction cs generalizing k with
 | nil=>cases h
 | cons d r ih=>
   cases k with
   | zero=>simp at h;subst h;simp[Bl]
   | succ k=>simp at h;have:=ih h;simp only[Bl,List.take_succ_cons,EA,List.sum_cons]at *;omega
def Qt (p:Prog) (hp:hZ p) (hk0:p.AL.length≤1000) (hm:Bl p.AL≤Ac):Pure Tryz.prog 62 [.a (BN p)] (.a (BE (AR p))):=by
 refine pK kZ ?_
 conv=>whnf
 repeat((first|(refine As ?_;intro K U)|(refine AZ ?_;intro I C G F)|fail);conv=>whnf)
 intro n hn;have hs:=Y4 (l:=[]) (σ:=emp) Sat.nil hn (o:= .cs [.l [] true,.l [] true])
 conv=>whnf
 repeat((first|refine⟨kZ,?_⟩|refine Bq ?_|(refine As ?_;intro K U)|(refine AZ ?_;intro I C G F)|(apply G;clear F C G I)|(apply U;clear U K)|fail);conv=>whnf)
 refine(Wc p hp hk0).use ?_
 conv=>whnf
 intro m hm;have hs:=Y4 hs hm (o:= .cs [.l [] true,.l [] true])
 conv=>whnf
 refine F5 hs 1 rfl rfl rfl rfl (by decide) fun σ hs=>?_
 conv=>whnf
 repeat((first|(refine As ?_;intro K U)|(refine AZ ?_;intro I C G F)|(apply G;clear F C G I)|refine Be ?_|refine Dg ?_|(apply U;clear U K)|fail);conv=>whnf)
 refine CZ p.AL.length (fun k _=>[(4,eI (BH k))]) (fun k v=>[.box n [.l [] true,.l [] true],.box m [.l (Ei (Av p)) false,v],.own v 1 (iL (BQ 0 (p.AL.take k)))]) (fun _ _=>True) (.l [] true) rfl trivial (Fl hs 1) ?_;rintro k v σ hk - hs
 conv=>whnf
 repeat((first|refine⟨rfl,?_⟩|refine Bq ?_|refine Ey ?_|(refine As ?_;intro K U)|(refine AZ ?_;intro I C G F)|(apply G;clear F C G I)|refine Br ?_|(apply U;clear U K)|fail);conv=>whnf)
 refine F6 hk hp.1 (fun c hc hlt=>?_) fun hk=>?_
 ·have hcm:=hp.2 c (Cg hc)
  have htk:=OU hc
  conv=>whnf
  repeat((first|(refine As ?_;intro K U)|(refine AZ ?_;intro I C G F)|(apply G;clear F C G I)|refine Bv ?_|refine Be ?_|refine Dg ?_|(apply U;clear U K)|fail);conv=>whnf)
  refine CZ c.AP.length (fun j _=>[(5,eI (BH j))]) (fun j v=>[.box n [.l [] true,.l [] true],.box m [.l (Ei (Av p)) false,v],.own v 1 (iL (BQ 0 (p.AL.take k)++List.replicate j ((k:Int)+3)))]) (fun _ _=>True) v rfl trivial (by simpa using hs) ?_;rintro j v σ hj - hs
  conv=>whnf
  repeat((first|refine Bq ?_|(refine As ?_;intro K U)|(refine AZ ?_;intro I C G F)|fail);conv=>whnf)
  refine IK hc hp.1 rfl ?_
  conv=>whnf
  repeat((first|refine⟨rfl,?_⟩|refine Bq ?_|refine Ey ?_|(apply G;clear F C G I)|refine Br ?_|(apply U;clear U K)|fail);conv=>whnf)
  refine F6 hj hcm.2.1 (fun s hsl hjlt=>?_) fun hj=>?_
  ·conv=>whnf
   repeat((first|(refine As ?_;intro K U)|(refine AZ ?_;intro I C G F)|refine Bv ?_|refine Be ?_|(apply U;clear U K)|fail);conv=>whnf)
   refine SN hs 1 rfl ?_
   conv=>whnf
   repeat((first|refine⟨rfl,?_⟩|fail);conv=>whnf)
   have he:IntKind.i64.wrap (BH k+3)=(k:Int)+3:=by
    have:=hp.1;rw[AM (by omega),wrap64 (by omega) (by simp only[Ac]at *;omega)]
   refine Fh hs 2 (x:=IntKind.i64.wrap (BH k+3)) rfl (by have hM:=Mx;simp only[QP,CS,List.length_replicate];omega) Cs fun v' σ' hs'=>?_
   conv=>whnf
   refine HZ hs' 1 rfl (Fb hs' 2 rfl) kZ fun σ2 hs2=>?_
   conv=>whnf
   repeat((first|refine⟨rfl,?_⟩|(refine AZ ?_;intro I C G F)|(apply G;clear F C G I)|(apply U;clear U K)|(clear U K));conv=>whnf)
   refine⟨hjlt,v',rfl,trivial,?_⟩;rw[List.replicate_succ',←T0];rw[he]at hs2;exact hs2
  ·conv=>whnf
   repeat((first|refine⟨rfl,?_⟩|(refine AZ ?_;intro I C G F)|(apply G;clear F C G I)|refine Dh ?_|(apply U;clear U K)|(clear U K));conv=>whnf)
   refine⟨hlt,v,rfl,trivial,?_⟩;rw[AX hc,Fe];have:(p.AL.take k).length=k:=by simp;omega
   rw[this];simpa[BQ,hj]using hs
 ·conv=>whnf
  repeat((first|(refine As ?_;intro K U)|(refine AZ ?_;intro I C G F)|refine Dh ?_|(apply U;clear U K)|(clear U K));conv=>whnf)
  refine SN hs 1 rfl ?_
  conv=>whnf
  repeat((first|refine⟨kZ,?_⟩|fail);conv=>whnf)
  refine F5 hs 0 rfl rfl rfl (by simp[Fb hs 2 rfl]) kZ fun σ2 hs2=>?_
  conv=>whnf
  repeat((first|(apply G;clear F C G I)|refine D9 ?_|(apply U;clear U K)|fail);conv=>whnf)
  refine SN hs2 0 rfl ?_
  conv=>whnf
  repeat((first|refine⟨kZ,?_⟩|fail);conv=>whnf)
  refine Bu (.a (.cons (.refl _) (.cons ?_ .nil)));have:=hs2.QU 2 rfl;rw[BC hk]at this;exact this
def Zl (xs:List Int) (f:Bool) (x:Int) (hx:xs.length≤Ac):Pure Tryz.prog 154 [.l (iL xs) f,.i .i64 x] (.b (xs.contains x)):=by
 refine ln kZ ?_
 conv=>whnf
 repeat((first|(refine As ?_;intro K U)|(refine AZ ?_;intro I C G F)|(apply G;clear F C G I)|refine Be ?_|refine Dg ?_|(apply U;clear U K)|fail);conv=>whnf)
 refine CZ xs.length (fun k (_:Unit)=>[(5,eI (BH k))]) (fun _ _=>[]) (fun k _=>x∉xs.take k) () rfl (by simp) Sat.nil ?_;rintro k - σ hk hn -
 conv=>whnf
 repeat((first|refine⟨rfl,?_⟩|refine Ey ?_|(refine As ?_;intro K U)|(refine AZ ?_;intro I C G F)|(apply G;clear F C G I)|refine Br ?_|(apply U;clear U K)|fail);conv=>whnf)
 refine F6 hk hx (fun y hy hlt=>?_) fun hk=>?_
 ·conv=>whnf
  repeat((first|(refine As ?_;intro K U)|(refine AZ ?_;intro I C G F)|refine Bv ?_|refine Be ?_|(apply U;clear U K)|fail);conv=>whnf)
  refine IK hy hx rfl ?_
  conv=>whnf
  repeat((first|refine⟨rfl,?_⟩|refine Bq ?_|(apply G;clear F C G I)|refine Br ?_|(apply U;clear U K)|fail);conv=>whnf)
  refine Wh (fun he=>?_) (fun he=>?_)
  ·conv=>whnf
   repeat((first|(refine As ?_;intro K U)|(refine AZ ?_;intro I C G F)|(apply G;clear F C G I)|refine D9 ?_|(apply U;clear U K)|(clear U K));conv=>whnf)
   refine AI ?_;have:x∈xs:=he ▸ Cg hy;simp[this]
  ·conv=>whnf
   repeat((first|refine⟨rfl,?_⟩|(refine AZ ?_;intro I C G F)|(apply G;clear F C G I)|refine Bv ?_|(apply U;clear U K)|(clear U K));conv=>whnf)
   refine⟨hlt,(),rfl,?_,Sat.nil⟩;rw[AX hy];simp only[FX,K8,not_or];exact⟨hn,fun e=>he e.symm⟩
 ·conv=>whnf
  repeat((first|(refine As ?_;intro K U)|(refine AZ ?_;intro I C G F)|(apply G;clear F C G I)|refine Dh ?_|refine D9 ?_|(apply U;clear U K)|(clear U K));conv=>whnf)
  refine AI ?_;rw[BC hk]at hn;simp[hn]
def N8 (xs:List Int) (f:Bool) (x:Int) (hx:xs.length≤Ac):Pure Tryz.prog 241 [.l (iL xs) f,.i .i64 x] (.l (iL (xs.filter (· != x))) false):=by
 refine kG kZ ?_
 conv=>whnf
 repeat((first|(refine As ?_;intro K U)|(refine AZ ?_;intro I C G F)|(apply G;clear F C G I)|refine Be ?_|refine Dg ?_|(apply U;clear U K)|fail);conv=>whnf)
 refine CZ xs.length (fun k v=>[(5,v),(6,eI (BH k))]) (fun k v=>[.own v 1 (iL ((xs.take k).filter (· != x)))]) (fun _ _=>True) (.l [] true) rfl trivial (Fl Sat.nil 1) ?_;rintro k v σ hk - hs
 conv=>whnf
 repeat((first|refine⟨rfl,?_⟩|refine Ey ?_|(refine As ?_;intro K U)|(refine AZ ?_;intro I C G F)|(apply G;clear F C G I)|refine Br ?_|(apply U;clear U K)|fail);conv=>whnf)
 refine F6 hk hx (fun y hy hlt=>?_) fun hk=>?_
 ·conv=>whnf
  repeat((first|(refine As ?_;intro K U)|(refine AZ ?_;intro I C G F)|refine Bv ?_|refine Be ?_|(apply U;clear U K)|fail);conv=>whnf)
  refine IK hy hx rfl ?_
  conv=>whnf
  repeat((first|refine⟨rfl,?_⟩|refine Bq ?_|(apply G;clear F C G I)|refine Br ?_|(apply U;clear U K)|fail);conv=>whnf)
  refine eY (fun he=>?_) (fun he=>?_)
  ·conv=>whnf
   repeat((first|(refine AZ ?_;intro I C G F)|fail);conv=>whnf)
   refine IK hy hx rfl ?_
   conv=>whnf
   repeat((first|refine Bq ?_|fail);conv=>whnf)
   refine Fh hs 0 (x:=y) rfl (by have:=Oy (· != x) (xs.take k);simp only[K6]at this;have hM:=Mx;omega) Cs fun v' σ' hs'=>?_
   conv=>whnf
   repeat((first|refine⟨rfl,?_⟩|(refine AZ ?_;intro I C G F)|(apply G;clear F C G I)|(apply U;clear U K)|(clear U K));conv=>whnf)
   refine⟨hlt,v',rfl,trivial,?_⟩;rw[AX hy,List.filter_append];simpa[he]using hs'
  ·conv=>whnf
   repeat((first|refine⟨rfl,?_⟩|(refine AZ ?_;intro I C G F)|(apply G;clear F C G I)|refine Bv ?_|(apply U;clear U K)|(clear U K));conv=>whnf)
   refine⟨hlt,v,rfl,trivial,?_⟩;rw[AX hy,List.filter_append];simpa[he]using hs
 ·conv=>whnf
  repeat((first|(refine As ?_;intro K U)|(refine AZ ?_;intro I C G F)|(apply G;clear F C G I)|refine Dh ?_|refine D9 ?_|(apply U;clear U K)|(clear U K));conv=>whnf)
  exact GA hs 0 rfl (by rw[BC hk])
def free (ls:List (List Int)) (x:Int):Bool:=ls.all fun l=> !(l.drop 1).contains x
def eX (ls:List (List Int)) (f:Bool) (x:Int) (hl:ls.length≤Ac) (hls: ∀l∈ls,l.length≤Ac):Pure Tryz.prog 242 [.l (Ei ls) f,.i .i64 x] (.b (free ls x)):=by
 refine kF kZ ?_
 conv=>whnf
 repeat((first|(refine As ?_;intro K U)|(refine AZ ?_;intro I C G F)|(apply G;clear F C G I)|refine Be ?_|refine Dg ?_|(apply U;clear U K)|fail);conv=>whnf)
 refine CZ ls.length (fun k (_:Unit)=>[(5,eI (BH k))]) (fun _ _=>[]) (fun k _=> ∀l∈ls.take k,x∉l.drop 1) () rfl (by simp) Sat.nil ?_;rintro k - σ hk hn -
 conv=>whnf
 repeat((first|refine⟨rfl,?_⟩|refine Ey ?_|(refine As ?_;intro K U)|(refine AZ ?_;intro I C G F)|(apply G;clear F C G I)|refine Br ?_|(apply U;clear U K)|fail);conv=>whnf)
 refine F6 hk hl (fun y hy hlt=>?_) fun hk=>?_
 ·have hb:=hls _ (Cg hy)
  have next:(x∉y.drop 1)→ ∀l∈ls.take (k+1),x∉l.drop 1:=fun hc l hm=>by
   rw[AX hy]at hm;rcases FX.1 hm with hm|hm
   ·exact hn l hm
   ·rw[K8.1 hm];exact hc
  conv=>whnf
  repeat((first|(refine As ?_;intro K U)|(refine AZ ?_;intro I C G F)|refine Bv ?_|refine Be ?_|(apply U;clear U K)|fail);conv=>whnf)
  refine IK hy hl rfl ?_
  conv=>whnf
  repeat((first|refine⟨rfl,?_⟩|refine Bq ?_|refine Ey ?_|fail);conv=>whnf)
  refine⟨fun h=>?_,fun h=>?_⟩<;>(try rw[h])
  ·have hp:=of_decide_eq_true h
   simp only[BR]at hp
   conv=>whnf
   repeat((first|refine LR ?_|fail);conv=>whnf)
   refine IK hy hl rfl ?_
   conv=>whnf
   repeat((first|refine LR ?_|refine Bq ?_|fail);conv=>whnf)
   refine Si 1 rfl (by omega) (fun _=>rfl) ?_
   conv=>whnf
   repeat((first|refine LR ?_|fail);conv=>whnf)
   refine(Zl _ _ _ (by rw[tJ];omega)).use ?_
   conv=>whnf
   repeat((first|(apply G;clear F C G I)|refine Br ?_|(apply U;clear U K)|fail);conv=>whnf)
   refine⟨fun hc=>?_,fun hc=>?_⟩
   ·conv=>whnf
    repeat((first|(refine As ?_;intro K U)|(refine AZ ?_;intro I C G F)|(apply G;clear F C G I)|refine D9 ?_|(apply U;clear U K)|(clear U K));conv=>whnf)
    refine AI ?_
    have:free ls x=false:=by
     simp only[free,List.all_eq_false];exact⟨y,Cg hy,by simpa using hc⟩
    rw[this]
   ·conv=>whnf
    repeat((first|refine⟨rfl,?_⟩|(refine AZ ?_;intro I C G F)|(apply G;clear F C G I)|refine Bv ?_|(apply U;clear U K)|(clear U K));conv=>whnf)
    exact⟨hlt,(),rfl,next (by simpa using hc),Sat.nil⟩
  ·have hp: ¬_:=of_decide_eq_false h
   simp only[BR]at hp
   conv=>whnf
   repeat((first|refine⟨rfl,?_⟩|refine Qp ?_|(refine AZ ?_;intro I C G F)|(apply G;clear F C G I)|refine Br ?_|refine Bv ?_|(apply U;clear U K)|(clear U K));conv=>whnf)
   refine⟨hlt,(),rfl,next ?_,Sat.nil⟩;rw[List.drop_eq_nil_of_le (by omega)];simp
 ·conv=>whnf
  repeat((first|(refine As ?_;intro K U)|(refine AZ ?_;intro I C G F)|(apply G;clear F C G I)|refine Dh ?_|refine D9 ?_|(apply U;clear U K)|(clear U K));conv=>whnf)
  rw[BC hk]at hn;refine AI ?_;have:free ls x=true:=by simpa[free]using hn
  rw[this]
def Ax (ls:List (List Int)) (c:Int):List Int:=if c<3 then []else ls.getD (c - 3).toNat []
def Ux (ls:List (List Int)) (f:Bool) (c:Int) (hc:c<3+ls.length) (hm:ls.length≤Ac):Pure Tryz.prog 240 [.l (Ei ls) f,.i .i64 c] (.l (iL (Ax ls c)) false):=by
 refine kH kZ ?_
 conv=>whnf
 repeat((first|refine⟨rfl,?_⟩|(refine As ?_;intro K U)|(refine AZ ?_;intro I C G F)|(apply G;clear F C G I)|refine Br ?_|(apply U;clear U K)|fail);conv=>whnf)
 refine fork (fun h=>?_) (fun h=>?_)
 ·conv=>whnf
  repeat((first|(refine As ?_;intro K U)|(refine AZ ?_;intro I C G F)|(apply G;clear F C G I)|refine D9 ?_|(apply U;clear U K)|(clear U K));conv=>whnf)
  refine Bu (.l (fun h=>(by cases h)) ?_);rw[Ax,if_pos h];exact .nil
 ·conv=>whnf
  repeat((first|refine⟨rfl,?_⟩|(refine As ?_;intro K U)|(refine AZ ?_;intro I C G F)|refine Bv ?_|(apply U;clear U K)|fail);conv=>whnf)
  simp only[Ac]at hm;have hlt:(c - 3).toNat<ls.length:=by omega
  refine R9 (c - 3).toNat (DZ hlt) (by rw[wrap64 (by omega) (by omega)];omega) rfl ?_
  conv=>whnf
  repeat((first|refine Bq ?_|(apply G;clear F C G I)|refine D9 ?_|(apply U;clear U K)|fail);conv=>whnf)
  refine AI ?_;rw[Ax,if_neg h,DS,DZ hlt];rfl
def EK (ls os:List (List Int)) (c:Int):Option (List (List Int)):=
 if(Ax ls c).any fun p=>(os.getD p.toNat []).isEmpty then none else some ((Ax ls c).map (fun p=>(os.getD p.toNat []).filter (· != 0))++[Ax ls c])
def nu (o:Option (List (List Int))):V:=match o with|some l=> .t [.l (Ei l) false,.b true]|none=> .t [.l [] false,.b false]
def bJ (ls os:List (List Int)) (f:Bool) (w:V) (c:Int) (hc:c<3+ls.length) (hm:ls.length≤Ac) (hos: ∀o∈os,o.length≤Ac) (hpl:(Ax ls c).length<1000000)
    (hp: ∀p∈Ax ls c,0≤p∧p.toNat<os.length):Bc Tryz.prog 194 [.l (Ei ls) f,w,.i .i64 c] [.own w 1 (Ei os)] fun r post=>r= .ret (nu (EK ls os c))∧post= [.own w 1 (Ei os)]:=by
 have hM:=Mx;intro σ hs;refine k8 kZ ?_
 conv=>whnf
 repeat((first|(refine As ?_;intro K U)|(refine AZ ?_;intro I C G F)|(apply G;clear F C G I)|(apply U;clear U K)|fail);conv=>whnf)
 refine(Ux _ _ _ hc hm).use ?_
 conv=>whnf
 repeat((first|(refine As ?_;intro K U)|(refine AZ ?_;intro I C G F)|(apply G;clear F C G I)|refine Be ?_|refine Dg ?_|(apply U;clear U K)|fail);conv=>whnf)
 refine CZ (Ax ls c).length (fun k v=>[(8,v),(10,eI (BH k))]) (fun k v=>[.own w 1 (Ei os),.own v 1 (Ei (((Ax ls c).take k).map fun p=>(os.getD p.toNat []).filter (· != 0)))]) (fun k _=> ∀p∈(Ax ls c).take k,(os.getD p.toNat []).isEmpty=false)
  (.l [] true) rfl (by simp) (Fl hs 1) ?_
 rintro k v σ hk hne hs
 conv=>whnf
 repeat((first|refine⟨rfl,?_⟩|refine Ey ?_|(refine As ?_;intro K U)|(refine AZ ?_;intro I C G F)|(apply G;clear F C G I)|refine Br ?_|(apply U;clear U K)|fail);conv=>whnf)
 refine F6 hk (by omega) (fun p hpk hlt=>?_) fun hk=>?_
 ·obtain ⟨hp0,hp1⟩:=hp _ (Cg hpk)
  have hq:=DZ hp1
  have hgd:os.getD p.toNat []=os[p.toNat]:=by
   rw[DS,hq];rfl
  have hqm:(Ei os)[p.toNat]? =some [.l (iL os[p.toNat]) false]:=by rw[PF,hq];rfl
  conv=>whnf
  repeat((first|(refine As ?_;intro K U)|(refine AZ ?_;intro I C G F)|refine Bv ?_|refine Be ?_|(apply U;clear U K)|fail);conv=>whnf)
  refine IK hpk (by omega) rfl ?_
  conv=>whnf
  repeat((first|refine Bq ?_|fail);conv=>whnf)
  refine cW hs 0 p.toNat rfl (by omega) (by simpa using hp1) ?_
  conv=>whnf
  refine Ip hs 0 rfl hqm ?_
  conv=>whnf
  repeat((first|refine⟨rfl,?_⟩|refine Ey ?_|(apply G;clear F C G I)|refine Br ?_|(apply U;clear U K)|fail);conv=>whnf)
  refine Wh (fun he=>?_) (fun he=>?_)
  ·conv=>whnf
   repeat((first|(refine As ?_;intro K U)|(refine AZ ?_;intro I C G F)|(apply G;clear F C G I)|refine D9 ?_|(apply U;clear U K)|(clear U K));conv=>whnf)
   have hn:EK ls os c=none:=by
    simp only[EK];rw[if_pos];rw[JA];refine⟨p,Cg hpk,?_⟩;rw[hgd];have:(os[p.toNat]).length=0:=by simpa using he
    simp[cZ.1 this]
   rw[hn];exact Aq (l':=[.own w 1 (Ei os)]) hs (by simp) (.t (.cons (.l (fun h=>(by cases h)) .nil) (.cons (.refl _) .nil))) fun σ' hs'=>⟨_,⟨rfl,rfl⟩,hs'⟩
  ·conv=>whnf
   repeat((first|(refine AZ ?_;intro I C G F)|refine Bv ?_|(apply U;clear U K)|fail);conv=>whnf)
   refine IK hpk (by omega) rfl ?_
   conv=>whnf
   repeat((first|refine Bq ?_|fail);conv=>whnf)
   refine cW hs 0 p.toNat rfl (by omega) (by simpa using hp1) ?_
   conv=>whnf
   refine Ip hs 0 rfl hqm ?_
   conv=>whnf
   refine(N8 _ _ _ (hos _ (List.getElem_mem hp1))).use ?_
   conv=>whnf
   refine Fh hs 1 (x:=os[p.toNat].filter (· != 0)) rfl (by have hM:=Mx;simp;omega) DQ fun v' σ' hs'=>?_
   conv=>whnf
   repeat((first|refine⟨rfl,?_⟩|(refine AZ ?_;intro I C G F)|(apply G;clear F C G I)|(apply U;clear U K)|(clear U K));conv=>whnf)
   refine⟨hlt,v',rfl,fun q hm=>?_,?_⟩
   ·rw [AX hpk]at hm
    rcases FX.1 hm with hm|hm
    ·exact hne q hm
    ·rw[K8.1 hm,hgd]
     have:(os[p.toNat]).length≠0:=by
      intro e;exact he (by simp[e])
     cases hq:os[p.toNat]with
     | nil=>rw[hq]at this;exact absurd rfl this
     | cons _ _=>rfl
   ·rw[AX hpk,Tu,List.map_singleton,hgd]
    exact hs'
 ·rw[BC hk]at hne hs
  conv=>whnf
  repeat((first|(refine As ?_;intro K U)|(refine AZ ?_;intro I C G F)|refine Dh ?_|(apply U;clear U K)|(clear U K));conv=>whnf)
  refine Fh hs 1 (x:=Ax ls c) rfl (by have hM:=Mx;simp;omega) DQ fun v' σ' hs'=>?_
  conv=>whnf
  repeat((first|(apply G;clear F C G I)|refine D9 ?_|(apply U;clear U K)|fail);conv=>whnf)
  have hn:EK ls os c=some ((Ax ls c).map (fun p=>(os.getD p.toNat []).filter (· != 0))++[Ax ls c]):=by
   simp only[EK];rw[if_neg];rw[JA];rintro⟨p,h1,h2⟩;rw[hne p h1]at h2;cases h2
  rw[hn];obtain⟨σ2,h1,h2,h3⟩:=Ht hs' 1 rfl;exact Gb h1 (.t (.cons h2 (.cons (.refl _) .nil))) ⟨_,⟨rfl,rfl⟩,h3⟩
def pick (ls:List (List Int)):Option Int:=(ls.find? fun l=>match l with| []=>false|x::_=>free ls x).bind List.head?
def total (ls:List (List Int)):Nat:=(ls.map List.length).sum
def DF:Nat→List (List Int)→List Int→List Int×Bool
 | 0,ls,out=>(out,ls.all List.isEmpty)
 | n+1,ls,out=>match pick ls with
   | none=>(out,ls.all List.isEmpty)
   | some x=>DF n (ls.map fun l=>l.filter (· != x)) (out++[x])
def CC (ls:List (List Int)):List Int×Bool:=DF (total ls) ls []
def Hd {ls:List (List Int)} {x:Int} (h:pick ls=some x):total (ls.map fun l=>l.filter (· != x))<total ls:=by
 unfold pick at h;rw[Option.bind_eq_some_iff]at h;obtain⟨l,h1,h2⟩:=h;have hm:=List.mem_of_find?_eq_some h1;clear h1;cases l with
 | nil=>cases h2
 | cons y r=>
   simp only[List.head?_cons,Hp]at h2;subst h2
   have hle: ∀ls:List (List Int),total (ls.map fun l=>l.filter (· != y))≤total ls:=fun ls=>by
    induction ls with
    | nil=>simp[total]
    | cons a bs ih=>
      have:=Oy (· != y) a;simp only[total,EA,List.sum_cons]at *;omega
   induction ls with
   | nil=>cases hm
   | cons a bs ih=>
     rcases FE.1 hm with rfl|hm
     ·have h1:=hle bs
      have h2:=Oy (· != y) r;simp only[total,EA,List.sum_cons]at *;have:((y::r).filter (· != y)).length≤r.length:=by simpa using h2
      simp only[Lt];omega
     ·have h1:=ih hm
      have h2:=Oy (· != y) a;simp only[total,EA,List.sum_cons]at *;omega
def LD (ls:List (List Int)):Prop:=ls.length≤1000000∧ ∀l∈ls,l.length≤Ac∧ ∀x∈l,0≤x
def LD.filter {ls:List (List Int)} (h:LD ls) (x:Int):LD (ls.map fun l=>l.filter (· != x)):=by
 refine⟨by rw[BR];exact h.1,fun l hl=>?_⟩;obtain⟨l',hl',rfl⟩:=Ls.1 hl;obtain⟨h1,h2⟩:=h.2 l' hl';exact⟨Nat.le_trans (Oy _ _) h1,fun y hy=>h2 y (K9.1 hy).1⟩
def Dm (ls:List (List Int)) (k:Nat):Int:=((((ls.take k).find? fun l=>match l with| []=>false|x::_=>free ls x).bind List.head?).getD (-1))
def TY : ∀ (n:Nat) (ls:List (List Int)) (out:List Int),total ls≤n→DF n ls out=DF (total ls) ls out:=by
 intro n
 induction n using Nat.strongRecOn with
 | _ n ih=>
   intro ls out hn;by_cases he:total ls=n
   ·rw[he]
   ·cases n with
    | zero=>omega
    | succ n=>
      cases hp:pick ls with
      | none=>
        cases ht:total ls with
        | zero=>simp[DF,hp]
        | succ m=>simp[DF,hp]
      | some x=>
        have h1:=Hd hp;cases ht:total ls with
        | zero=>omega
        | succ m=>
          simp only[DF,hp];rw[ih n (by omega) _ _ (by omega),ih m (by omega) _ _ (by omega)]
def MH {ls:List (List Int)} {x:Int} {out:List Int} (hp:pick ls=some x):DF (total ls) ls out=DF (total (ls.map fun l=>l.filter (· != x))) (ls.map fun l=>l.filter (· != x)) (out++[x]):=by
 have h1:=Hd hp;cases ht:total ls with
 | zero=>omega
 | succ m=>
   simp only[DF,hp];exact TY m _ _ (by omega)
def OS {ls:List (List Int)} {out:List Int} (hp:pick ls=none):DF (total ls) ls out=(out,ls.all List.isEmpty):=by
 cases ht:total ls with
 | zero=>rfl
 | succ m=>simp only[DF,hp]
def Ez (ls:List (List Int)) (l:List Int):Bool:=match l with| []=>false|x::_=>free ls x
def HG (ls:List (List Int)) (k:Nat):Dm ls k=(((ls.take k).find? (Ez ls)).bind List.head?).getD (-1):=rfl
def Hf {ls:List (List Int)} (hok:LD ls) {k:Nat} (h:Dm ls k<0):(ls.take k).find? (Ez ls)=none:=by
 rw[HG]at h;cases hf:(ls.take k).find? (Ez ls)with
 | none=>rfl
 | some l=>
   rw[hf]at h;have hm:=List.mem_of_mem_take (List.mem_of_find?_eq_some hf);have hg:=List.find?_some hf;cases l with
   | nil=>cases hg
   | cons x r=>
     have:=(hok.2 _ hm).2 x (.head _);simp at h;omega
def TW {ls:List (List Int)} (hok:LD ls) {k:Nat} (hk:k<ls.length) (h:Dm ls k<0):Dm ls (k+1)=if Ez ls ls[k]then(ls[k].head?).getD (-1)else -1:=by
 rw[HG,List.take_succ_eq_append_getElem hk,List.find?_append,Hf hok h];by_cases hg:Ez ls ls[k]=true
 ·simp[hg]
 ·simp[hg]
def OJ {ls:List (List Int)} {k:Nat} (h:0≤Dm ls k):pick ls=some (Dm ls k):=by
 rw[HG]at *;show((ls.find? (Ez ls)).bind List.head?)=_;cases hf:(ls.take k).find? (Ez ls)with
 | none=>rw[hf]at h;simp at h
 | some l=>
   have h1:ls.find? (Ez ls)=some l:=by
    have:=List.take_append_drop k ls;rw[←this,List.find?_append,this,hf];rfl
   rw[h1];rw[hf]at h;cases l with
   | nil=>simp at h
   | cons x r=>simp
def Ib {ls:List (List Int)} (hok:LD ls) {k:Nat} {l:List Int} (hl:ls[k]? =some l) (h:Dm ls k<0):Dm ls (k+1)=if Ez ls l then(l.head?).getD (-1)else -1:=by
 obtain⟨hk,rfl⟩:=H4.1 hl;exact TW hok hk h
def XN {ls:List (List Int)} {l:List Int} (h:l∈ls):l.length≤total ls:=by
 induction ls with
 | nil=>cases h
 | cons a r ih=>
   simp only[total,EA,List.sum_cons]at *;rcases FE.1 h with rfl|h
   ·omega
   ·have:=ih h;omega
def bH (ls:List (List Int)) (f:Bool) (hok:LD ls) (ht:total ls<Ac):Pure Tryz.prog 195 [.l (Ei ls) f] (.t [.l (iL (CC ls).1) false,.b (CC ls).2]):=by
 have hM:=Mx;refine k7 kZ ?_
 conv=>whnf
 repeat((first|(refine As ?_;intro K U)|(refine AZ ?_;intro I C G F)|(apply G;clear F C G I)|refine Be ?_|refine Dg ?_|(apply U;clear U K)|fail);conv=>whnf)
 refine Gh (fun(x:List (List Int)×Bool×V×List Int)=>total x.1) (fun x=>[(0,.l (Ei x.1) x.2.1),(4,x.2.2.1)]) (fun x=>[.own x.2.2.1 1 (iL x.2.2.2)])
  (fun x=>LD x.1∧x.2.2.2.length+total x.1≤total ls∧DF (total x.1) x.1 x.2.2.2=CC ls) (ls,f,.l [] true,[]) rfl ⟨hok,by simp,rfl⟩ (Fl Sat.nil 1) ?_
 rintro⟨ls',f',v,out⟩ σ ⟨hok',hlen,hm⟩ hs;dsimp only at hok' hlen hm hs;have hlm:ls'.length≤Ac:=by have:=hok'.1;omega
 conv=>whnf
 repeat((first|(refine As ?_;intro K U)|(refine AZ ?_;intro I C G F)|(apply G;clear F C G I)|refine Be ?_|refine Dg ?_|(apply U;clear U K)|fail);conv=>whnf)
 have hJ :=ND U (fun(y:Int×Bool)=>[(5,.i .i64 y.1),(6,.b y.2)]) (fun _=>[.own v 1 (iL out)]) (fun y=>(0≤y.1∧pick ls'=some y.1)∨(y.1<0∧pick ls'=none∧y.2=ls'.any fun l=> !l.isEmpty))
  [(0,.l (Ei ls') f'),(4,v),(5,.pn),(6,.pn)] (by
  rintro⟨nx,lf⟩ σ hor hs;dsimp only at hor
  conv=>whnf
  repeat((first|refine⟨rfl,?_⟩|(refine As ?_;intro K U)|(refine AZ ?_;intro I C G F)|(apply G;clear F C G I)|refine Br ?_|(apply U;clear U K)|fail);conv=>whnf)
  refine fork (fun hneg=>?_) (fun hneg=>?_)
  ·conv=>whnf
   repeat((first|(refine As ?_;intro K U)|(refine AZ ?_;intro I C G F)|(apply G;clear F C G I)|refine D9 ?_|(apply U;clear U K)|(clear U K));conv=>whnf)
   rcases hor with⟨h0,_⟩|⟨_,hp,rfl⟩
   ·omega
   ·rw[OS hp]at hm
    refine Bu ?_;rw[←hm];refine .t (.cons (hs.QU 0 rfl) (.cons ?_ .nil));have:(!ls'.any fun l=> !l.isEmpty)=ls'.all List.isEmpty:=by simp[List.all_eq_not_any_not]
    rw[←this];exact .refl _
  ·conv=>whnf
   repeat((first|(refine As ?_;intro K U)|(refine AZ ?_;intro I C G F)|refine Bv ?_|(apply U;clear U K)|fail);conv=>whnf)
   rcases hor with⟨_,hp⟩|⟨h0,_⟩
   ·have hlt:=Hd hp
    refine Fh hs 0 (x:=nx) rfl (by omega) Cs fun v' σ hs=>?_
    conv=>whnf
    repeat((first|(refine As ?_;intro K U)|(refine AZ ?_;intro I C G F)|(apply G;clear F C G I)|refine Be ?_|refine Dg ?_|(apply U;clear U K)|fail);conv=>whnf)
    refine CZ ls'.length (fun k u=>[(8,u),(9,eI (BH k))]) (fun k u=>[.own v' 1 (iL (out++[nx])),.own u 1 (Ei ((ls'.take k).map fun l=>l.filter (· != nx)))]) (fun _ _=>True) (.l [] true) rfl trivial (Fl hs 1) ?_;rintro k u σ hk - hs
    conv=>whnf
    repeat((first|refine⟨rfl,?_⟩|refine Ey ?_|(refine As ?_;intro K U)|(refine AZ ?_;intro I C G F)|(apply G;clear F C G I)|refine Br ?_|(apply U;clear U K)|fail);conv=>whnf)
    refine F6 hk hlm (fun l hl hlt'=>?_) fun hk=>?_
    ·conv=>whnf
     repeat((first|(refine As ?_;intro K U)|(refine AZ ?_;intro I C G F)|refine Bv ?_|refine Be ?_|(apply U;clear U K)|fail);conv=>whnf)
     refine IK hl hlm rfl ?_
     conv=>whnf
     repeat((first|refine Bq ?_|fail);conv=>whnf)
     refine(N8 _ _ _ (hok'.2 _ (Cg hl)).1).use ?_
     conv=>whnf
     refine Fh hs 1 (x:=l.filter (· != nx)) rfl (by have:=hok'.1;simp;omega) DQ fun u' σ' hs'=>?_
     conv=>whnf
     repeat((first|refine⟨rfl,?_⟩|(refine AZ ?_;intro I C G F)|(apply G;clear F C G I)|(apply U;clear U K)|(clear U K));conv=>whnf)
     refine⟨hlt',u',rfl,trivial,?_⟩;rw[AX hl,Tu];exact hs'
    ·rw[BC hk]at hs
     conv=>whnf
     repeat((first|(refine AZ ?_;intro I C G F)|refine Dh ?_|(apply U;clear U K)|(clear U K));conv=>whnf)
     refine hQ hs 1 rfl fun σ' hs'=>?_
     conv=>whnf
     repeat((first|(apply G;clear F C G I)|fail);conv=>whnf)
     refine⟨(ls'.map fun l=>l.filter (· != nx),false,v',out++[nx]),hlt,rfl,⟨hok'.filter nx,by simp;omega,?_⟩,hs'⟩;rw[←MH hp];exact hm
   ·omega)
 clear U
 ·refine CZ ls'.length (fun k (_:Unit)=>[(5,.i .i64 (Dm ls' k)),(6,.b ((ls'.take k).any fun l=> !l.isEmpty)),(7,eI (BH k))]) (fun _ _=>[.own v 1 (iL out)]) (fun _ _=>True) () rfl trivial hs ?_
  rintro k - σ hk - hs
  conv=>whnf
  repeat((first|refine⟨rfl,?_⟩|refine Ey ?_|(refine As ?_;intro K U)|(refine AZ ?_;intro I C G F)|fail);conv=>whnf)
  refine⟨fun h=>?_,fun h=>?_⟩<;>(try rw[h])
  ·have hlt:=of_decide_eq_true h
   rw[AM (by have:=hok'.1;omega)]at hlt;have hlt:=Zc hlt;have hl:=DZ hlt;have hb:=hok'.2 _ (List.getElem_mem hlt);generalize ls'[k]=l at *
   conv=>whnf
   repeat((first|refine⟨rfl,?_⟩|refine LR ?_|(apply G;clear F C G I)|refine Br ?_|(apply U;clear U K)|fail);conv=>whnf)
   refine fork (fun hneg=>?_) (fun hneg=>?_)
   ·conv=>whnf
    repeat((first|(refine As ?_;intro K U)|(refine AZ ?_;intro I C G F)|refine Bv ?_|refine Be ?_|(apply U;clear U K)|fail);conv=>whnf)
    refine IK hl hlm rfl ?_
    conv=>whnf
    repeat((first|refine⟨rfl,?_⟩|refine Bq ?_|refine Ey ?_|(apply G;clear F C G I)|refine Br ?_|(apply U;clear U K)|fail);conv=>whnf)
    refine fork (fun hp=>?_) (fun hp=>?_)
    ·simp only[BR]at hp
     obtain⟨x,r,rfl⟩: ∃x r,l=x::r:=by cases l with
      | nil=>simp at hp
      | cons x r=>exact⟨x,r,rfl⟩
     have hany:((ls'.take (k+1)).any fun l=> !l.isEmpty)=true:=by
      rw[AX hl];simp
     conv=>whnf
     repeat((first|(refine As ?_;intro K U)|(refine AZ ?_;intro I C G F)|(apply G;clear F C G I)|(apply U;clear U K)|fail);conv=>whnf)
     refine IK hl hlm rfl ?_
     conv=>whnf
     repeat((first|refine Bq ?_|fail);conv=>whnf)
     refine R9 0 rfl rfl rfl ?_
     conv=>whnf
     repeat((first|refine Bq ?_|fail);conv=>whnf)
     refine(eX _ _ _ hlm fun l hl=>(hok'.2 l hl).1).use ?_
     conv=>whnf
     repeat((first|(apply G;clear F C G I)|refine Br ?_|(apply U;clear U K)|fail);conv=>whnf)
     refine⟨fun hf=>?_,fun hf=>?_⟩
     ·conv=>whnf
      repeat((first|(refine AZ ?_;intro I C G F)|fail);conv=>whnf)
      refine IK hl hlm rfl ?_
      conv=>whnf
      repeat((first|refine Bq ?_|fail);conv=>whnf)
      refine R9 0 rfl rfl rfl ?_
      conv=>whnf
      repeat((first|refine⟨rfl,?_⟩|refine Bq ?_|(refine AZ ?_;intro I C G F)|(apply G;clear F C G I)|(apply U;clear U K)|fail);conv=>whnf)
      refine⟨hlt,(),?_,trivial,hs⟩;have:Dm ls' (k+1)=x:=by rw[Ib hok' hl hneg];simp[Ez,hf]
      dsimp only;rw[this,hany];rfl
     ·conv=>whnf
      repeat((first|refine⟨rfl,?_⟩|(refine AZ ?_;intro I C G F)|(apply G;clear F C G I)|refine Bv ?_|(apply U;clear U K)|fail);conv=>whnf)
      refine⟨hlt,(),?_,trivial,hs⟩;have:Dm ls' (k+1)=Dm ls' k:=by rw[Ib hok' hl hneg,HG ls' k,Hf hok' hneg];simp[Ez,hf]
      dsimp only;rw[this,hany];rfl
    ·simp only[BR]at hp
     obtain rfl:l= []:=cZ.1 (by omega)
     conv=>whnf
     repeat((first|refine⟨rfl,?_⟩|(refine AZ ?_;intro I C G F)|(apply G;clear F C G I)|refine Bv ?_|(apply U;clear U K)|fail);conv=>whnf)
     refine⟨hlt,(),?_,trivial,hs⟩;have:Dm ls' (k+1)=Dm ls' k:=by rw[Ib hok' hl hneg,HG ls' k,Hf hok' hneg];simp[Ez]
     have hany:((ls'.take (k+1)).any fun l=> !l.isEmpty)=((ls'.take k).any fun l=> !l.isEmpty):=by
      rw[AX hl,List.any_append];simp
     dsimp only;rw[this,hany];rfl
   ·conv=>whnf
    repeat((first|refine Dh ?_|(clear U K));conv=>whnf)
    refine hJ (Dm ls' k,(ls'.take k).any fun l=> !l.isEmpty) _ _ rfl (.inl ⟨by omega,?_⟩) hs;exact OJ (by omega)
  ·have hlt:=of_decide_eq_false h
   rw[AM (by have:=hok'.1;omega)]at hlt;have hke:=Wp hk hlt
   conv=>whnf
   repeat((first|refine Qp ?_|(apply G;clear F C G I)|refine Br ?_|refine Dh ?_|(apply U;clear U K)|(clear U K));conv=>whnf)
   refine hJ (Dm ls' k,(ls'.take k).any fun l=> !l.isEmpty) _ _ rfl ?_ hs;rw[BC hke];by_cases h0:0≤Dm ls' k
   ·exact .inl ⟨h0,OJ h0⟩
   ·refine .inr ⟨by omega,?_,rfl⟩
    have:=Hf hok' (k:=k) (by omega);rw[BC hke]at this;show((ls'.find? (Ez ls')).bind List.head?)=none;rw[this];rfl
def Dy (g os:List (List Int)) (c:Int):List Int:=
 match EK g os c with
 | none=>[]
 | some l=>if(CC l).2 then [c]++(CC l).1++[0]else []
def Bd (g:List (List Int)):Nat→List (List Int)
 | 0=>[[0]]
 | k+1=>Bd g k++[Dy g (Bd g k) ((k:Int)+1)]
def Bz (g:List (List Int)):List (List Int):=Bd g (2+g.length)
def Hu (g:List (List Int)):Prop:=g.length≤16∧ ∀(i:Nat) (l:List Int),g[i]? =some l→l.length≤3∧l.Nodup∧ ∀c∈l,(3:Int)≤c∧c<3+(i:Int)
def Cd (g:List (List Int)): ∀k,(Bd g k).length=k+1
 | 0=>rfl
 | k+1=>by simp[Bd,Cd g k]
def Hi: ∀(n:Nat) (ls:List (List Int)) (out:List Int),(DF n ls out).1.length≤out.length+n
 | 0,ls,out=>by simp[DF]
 | n + 1,ls,out=>by
   simp only[DF];split
   ·simp
   ·rename_i x _
    have:=Hi n (ls.map fun l=>l.filter (· != x)) (out++[x]);simp only[QP,List.length_singleton]at this;refine Nat.le_trans this ?_;omega
def TV {ls:List (List Int)} (h: ∀l∈ls,∀x∈l,(0:Int)≤x) {x:Int} (hp:pick ls=some x):0≤x:=by
 unfold pick at hp;rw[Option.bind_eq_some_iff]at hp;obtain⟨l,h1,h2⟩:=hp;have hm:=List.mem_of_find?_eq_some h1;cases l with
 | nil=>cases h2
 | cons y r=>cases h2;exact h _ hm _ (.head _)
def JM: ∀(n:Nat) (ls:List (List Int)) (out:List Int),(∀l∈ls,∀x∈l,(0:Int)≤x)→(∀x∈out,(0:Int)≤x)→ ∀x∈(DF n ls out).1,(0:Int)≤x
 | 0,ls,out,_,h2=>h2
 | n + 1,ls,out,h1,h2=>by
   simp only[DF];split
   ·exact h2
   ·rename_i y hy
    refine JM n _ _ (fun l hl x hx=>?_) fun x hx=>?_
    ·obtain⟨l',hl',rfl⟩:=Ls.1 hl
     exact h1 _ hl' _ (K9.1 hx).1
    ·rcases FX.1 hx with hx|hx
     ·exact h2 x hx
     ·rw[K8.1 hx];exact TV h1 hy
def DY {g:List (List Int)} (hg:Hu g) {c p:Int} (hp:p∈Ax g c):3≤p∧p<c:=by
 unfold Ax at hp;split at hp
 ·cases hp
 ·rename_i hc
  rw[DS]at hp;cases hq:g[(c - 3).toNat]? with
  | none=>rw[hq]at hp;cases hp
  | some l=>
    rw[hq]at hp;obtain⟨_,_,h⟩:=hg.2 _ _ hq;have:=h p hp;omega
def C0 {g:List (List Int)} (hg:Hu g) (c:Int):(Ax g c).length≤3:=by
 unfold Ax;split
 ·simp
 ·rw[DS]
  cases hq:g[(c - 3).toNat]? with
  | none=>simp
  | some l=>exact(hg.2 _ _ hq).1
def Ge {g os:List (List Int)} {c:Int} {ls:List (List Int)} (h:EK g os c=some ls):ls=(Ax g c).map (fun p=>(os.getD p.toNat []).filter (· != 0))++[Ax g c]:=by
 unfold EK at h;split at h
 ·cases h
 ·exact(Option.some.inj h).symm
def S7 {os:List (List Int)} {B:Nat} (h: ∀o∈os,o.length≤B) (n:Nat):(os.getD n []).length≤B:=by
 rw[DS];cases hq:os[n]? with
 | none=>simp
 | some l=>exact h _ (Cg hq)
def Nq {os:List (List Int)} {Q:Int→Prop} (h: ∀o∈os,∀x∈o,Q x) (n:Nat): ∀x∈os.getD n [],Q x:=by
 rw[DS];cases hq:os[n]? with
 | none=>simp
 | some l=>exact h _ (Cg hq)
def FG {g os:List (List Int)} {c:Int} {ls:List (List Int)} (h:EK g os c=some ls) {B:Nat} (Z: ∀o∈os,o.length≤B):total ls≤(Ax g c).length*(B+1):=by
 rw[Ge h];simp only[total,Tu,List.map_map,List.sum_append,EA,List.map_nil,List.sum_cons,List.sum_nil,Nat.add_zero]
 have: ∀ps:List Int,(ps.map (List.length∘fun p=>(os.getD p.toNat []).filter (· != 0))).sum≤ps.length*B:=fun ps=>by
  induction ps with
  | nil=>simp
  | cons p r ih=>
    simp only[EA,List.sum_cons,Function.comp,Lt,Nat.succ_mul];have h1:=Oy (· != 0) (os.getD p.toNat []);have h2:=S7 Z p.toNat;simp only[Function.comp_def]at *;omega
 have:=this (Ax g c);rw[Nat.mul_add,Nat.mul_one];simp only[Function.comp_def]at *;omega
def TX {g os:List (List Int)} {c:Int} {B:Nat} (Z: ∀o∈os,o.length≤B):(Dy g os c).length≤(Ax g c).length*(B+1)+2:=by
 unfold Dy;split
 ·simp
 ·rename_i ls h
  have h1:=FG h Z;have h2:=Hi (total ls) ls [];simp only[List.length_nil,Gf]at h2;split
  ·simp only[QP,List.length_singleton,CC]
   omega
  ·simp
def Ot {g os:List (List Int)} {c:Int} (hg:Hu g) (hc:0≤c) (h: ∀o∈os,∀x∈o,(0:Int)≤x): ∀x∈Dy g os c,0≤x:=by
 unfold Dy;split
 ·simp
 ·rename_i ls hl
  split
  ·intro x hx
   have hls: ∀l∈ls,∀x∈l,(0:Int)≤x:=by
    rw[Ge hl];intro l hl x hx;rcases FX.1 hl with hl|hl
    ·obtain⟨p,_,rfl⟩:=Ls.1 hl
     exact Nq h p.toNat x (K9.1 hx).1
    ·rw[K8.1 hl]at hx
     have:=DY hg hx;omega
   simp only[FX,K8]at hx;rcases hx with(rfl|hx)|rfl
   ·exact hc
   ·exact JM _ _ _ hls (by simp) x hx
   ·exact Int.le_refl _
  ·simp
def IJ (k:Nat):Nat:=5*3 ^ (k - 3) - 3
def iV (n:Nat):1≤3 ^ n:=Nat.one_le_pow _ _ (by omega)
def Hn {g : List (List Int)} (hg:Hu g): ∀(k:Nat),∀o∈Bd g k,o.length≤IJ k∧ ∀x∈o,(0:Int)≤x
 | 0,o,ho=>by
   simp only[Bd,K8]at ho;subst ho;simp[IJ]
 | k + 1,o,ho=>by
   have ih:=Hn hg k
   have hmono:IJ k≤IJ (k+1):=by
    unfold IJ;have:3 ^ (k - 3)≤3 ^ (k+1 - 3):=Nat.pow_le_pow_right (by omega) (by omega);omega
   simp only[Bd,FX,K8]at ho;rcases ho with ho|rfl
   ·exact⟨Nat.le_trans (ih o ho).1 hmono,(ih o ho).2⟩
   ·refine⟨?_,Ot hg (by omega) fun o ho=>(ih o ho).2⟩
    have h1:=TX (g:=g) (c:=(k:Int)+1) fun o ho=>(ih o ho).1
    by_cases hk:k<3
    ·have:Ax g ((k:Int)+1)= []:=by
      apply List.eq_nil_iff_forall_not_mem.2;intro p hp;have:=DY hg hp;omega
     rw[this]at h1
     have:IJ (k+1)=2:=by
      have:k+1 - 3=0:=by omega
      simp[IJ,this]
     simpa[this]using h1
    ·have h2:=C0 hg ((k:Int)+1)
     have h3:(Ax g ((k:Int)+1)).length*(IJ k+1)≤3*(IJ k+1):=Ru _ h2;have:k+1 - 3=(k - 3)+1:=by omega
     unfold IJ at *;rw[this,Nat.pow_succ];have:=iV (k - 3);omega
def Ww {k:Nat} (h:k≤18):IJ k≤71744535:=by
 unfold IJ;have:3 ^ (k - 3)≤3 ^ 15:=Nat.pow_le_pow_right (by omega) (by omega);have e:(3:Nat) ^ 15=14348907:=by decide
 omega
def Es {g:List (List Int)}: ∀ {k j:Nat},j≤k→(Bd g k)[j]? =(Bd g j)[j]?
 | 0,j,h=>by(obtain rfl:j=0:=by omega);rfl
 | k+1,j,h=>by
   by_cases e:j=k+1
   ·subst e;rfl
   ·rw[←Es (k:=k) (by omega),Bd,cd (by rw[Cd];omega)]
def Uz {g os:List (List Int)} {c:Int} {ls:List (List Int)} (hg:Hu g) (h:EK g os c=some ls) {B:Nat} (Z: ∀o∈os,o.length≤B∧ ∀x∈o,(0:Int)≤x) (hb:B≤100000000):LD ls∧total ls<Ac:=by
 have h3:=C0 hg c;have ht:=FG h fun o ho=>(Z o ho).1
 have:(Ax g c).length*(B+1)≤3*(B+1):=Ru _ h3;have htl:total ls<Ac:=by simp only[Ac];omega
 refine⟨⟨?_,fun l hl=>⟨?_,?_⟩⟩,htl⟩
 ·rw[Ge h]
  simp only[QP,BR,List.length_singleton,Ac];omega
 ·have:=XN hl
  simp only[Ac]at *;omega
 ·intro x hx
  rw[Ge h]at hl;rcases FX.1 hl with hl|hl
  ·obtain⟨p,_,rfl⟩:=Ls.1 hl
   exact Nq (fun o ho=>(Z o ho).2) p.toNat x (K9.1 hx).1
  ·rw[K8.1 hl]at hx
   have:=DY hg hx;omega
def Xn (g : List (List Int)) (f:Bool) (hg:Hu g):Pure Tryz.prog 155 [.l (Ei g) f] (.l (Ei (Bz g)) false):=by
 refine lk kZ ?_
 conv=>whnf
 repeat((first|(refine As ?_;intro K U)|(refine AZ ?_;intro I C G F)|(apply G;clear F C G I)|(apply U;clear U K)|fail);conv=>whnf)
 have hg16:=hg.1;have hgm:g.length≤Ac:=by simp only[Ac];omega
 refine⟨.l (Ei [[0]]) true,emp,fun _ _ h=>h,.l (fun _=>rfl) (.cons (.cons (.l (fun h=>(by cases h)) (.refl _ _ _)) .nil) .nil),?_⟩
 conv=>whnf
 repeat((first|(refine As ?_;intro K U)|(refine AZ ?_;intro I C G F)|(apply G;clear F C G I)|refine Be ?_|refine Dg ?_|(apply U;clear U K)|fail);conv=>whnf)
 refine CZ (2+g.length) (fun k v=>[(3,v),(4,eI (J5 1 k))]) (fun k v=>[.own v 1 (Ei (Bd g k))]) (fun _ _=>True) (.l (Ei [[0]]) true) rfl trivial (gz Sat.nil (by simp)) ?_;rintro k v σ hk - hs;have hc1:J5 1 k=(k:Int)+1:=by rw[Mr (by omega) (by omega)];omega
 have hw:IntKind.i64.wrap (3+((Ei g).length:Nat))=3+(g.length:Int):=by rw[BR,wrap64 (by omega) (by omega)]
 conv=>whnf
 repeat((first|refine⟨rfl,?_⟩|refine Ey ?_|(refine As ?_;intro K U)|(refine AZ ?_;intro I C G F)|(apply G;clear F C G I)|refine Br ?_|(apply U;clear U K)|fail);conv=>whnf)
 rw[hc1];rw[hw];refine fork (fun hlt=>?_) (fun hlt=>?_)
 ·have hlt':k<2+g.length:=by omega
  have Z:=Hn hg k;have hb18:IJ k≤71744535:=Ww (by omega);have hc2:J5 1 (k+1)=IntKind.i64.wrap ((k:Int)+1+1):=by rw[J5,hc1]
  conv=>whnf
  repeat((first|(refine As ?_;intro K U)|(refine AZ ?_;intro I C G F)|refine Bv ?_|refine Be ?_|(apply U;clear U K)|fail);conv=>whnf)
  refine⟨.l (iL []) false,σ,fun _ _ h=>h,.l (fun h=>(by cases h)) (.refl _ _ _),?_⟩
  conv=>whnf
  repeat((first|(refine As ?_;intro K U)|(refine AZ ?_;intro I C G F)|(apply G;clear F C G I)|(apply U;clear U K)|fail);conv=>whnf)
  refine(bJ g (Bd g k) f v ((k:Int)+1) (by omega) hgm (fun o ho=>by have:=(Z o ho).1;simp only[Ac];omega) (by have:=C0 hg ((k:Int)+1);omega)
   (fun p hp=>by have:=DY hg hp;rw[Cd];omega)).use (rest:=[]) hs ?_
  rintro r post σ' ⟨rfl,rfl⟩ hs;cases hl:EK g (Bd g k) ((k:Int)+1)with
  | none=>
    conv=>whnf
    repeat((first|refine Qp ?_|(refine As ?_;intro K U)|(refine AZ ?_;intro I C G F)|(apply G;clear F C G I)|refine Br ?_|refine Bv ?_|(apply U;clear U K)|fail);conv=>whnf)
    refine Fh hs 0 (x:=[]) rfl (by rw[Cd];simp only[Ac];omega) DQ fun v' σ' hs'=>?_
    conv=>whnf
    refine⟨v',σ',fun _ _ h=>h,.refl _,?_⟩
    conv=>whnf
    repeat((first|refine⟨rfl,?_⟩|(refine AZ ?_;intro I C G F)|(apply G;clear F C G I)|(apply U;clear U K)|(clear U K));conv=>whnf)
    refine⟨hlt',v',?_,trivial,?_⟩
    ·skip
     rw[hc2];rfl
    ·have:Dy g (Bd g k) ((k:Int)+1)= []:=by simp[Dy,hl,]
     rw[Bd,this];exact hs'
  | some ls=>
    obtain⟨hok,htot⟩:=Uz hg hl Z (by omega)
    conv=>whnf
    repeat((first|refine LR ?_|(refine As ?_;intro K U)|(refine AZ ?_;intro I C G F)|(apply G;clear F C G I)|refine Br ?_|(apply U;clear U K)|fail);conv=>whnf)
    refine(bH ls false hok htot).use ?_;have hml:=Hi (total ls) ls [];simp only[List.length_nil,Gf]at hml
    conv=>whnf
    repeat((first|(refine As ?_;intro K U)|(refine AZ ?_;intro I C G F)|(apply G;clear F C G I)|refine Br ?_|(apply U;clear U K)|fail);conv=>whnf)
    refine⟨fun h=>?_,fun h=>?_⟩<;>(try rw[h])
    ·conv=>whnf
     repeat((first|(refine AZ ?_;intro I C G F)|fail);conv=>whnf)
     refine NF (gz hs (by simp)) 1 (xs:=[(k:Int)+1]) rfl (by simp[CC];have:=FG hl fun o ho=>(Z o ho).1;have h3:=C0 hg ((k:Int)+1);have:(Ax g ((k:Int)+1)).length*(IJ k+1)≤3*(IJ k+1):=Ru _ h3;simp only[Ac]at *;omega) Cs fun u σ1 hs=>?_
     conv=>whnf
     refine Fh hs 1 (x:=0) rfl (by simp[CC];have:=FG hl fun o ho=>(Z o ho).1;have h3:=C0 hg ((k:Int)+1);have:(Ax g ((k:Int)+1)).length*(IJ k+1)≤3*(IJ k+1):=Ru _ h3;simp only[Ac]at *;omega) Cs fun u σ1 hs=>?_
     conv=>whnf
     refine hQ hs 1 rfl fun σ' hs=>?_
     conv=>whnf
     repeat((first|(refine AZ ?_;intro I C G F)|(apply G;clear F C G I)|(apply U;clear U K)|fail);conv=>whnf)
     refine Fh hs 0 (x:=([(k:Int)+1]++(CC ls).1++[0])) rfl (by rw[Cd];simp only[Ac];omega) DQ fun v' σ' hs'=>?_
     conv=>whnf
     refine⟨v',σ',fun _ _ h=>h,.refl _,?_⟩
     conv=>whnf
     repeat((first|refine⟨rfl,?_⟩|(refine AZ ?_;intro I C G F)|(apply G;clear F C G I)|(apply U;clear U K)|(clear U K));conv=>whnf)
     refine⟨hlt',v',?_,trivial,?_⟩
     ·skip
      rw[hc2];rfl
     ·have:Dy g (Bd g k) ((k:Int)+1)=([(k:Int)+1]++(CC ls).1++[0]):=by simp[Dy,hl,h]
      rw[Bd,this];exact hs'
    ·conv=>whnf
     repeat((first|(refine AZ ?_;intro I C G F)|refine Bv ?_|(apply U;clear U K)|fail);conv=>whnf)
     refine Fh hs 0 (x:=[]) rfl (by rw[Cd];simp only[Ac];omega) DQ fun v' σ' hs'=>?_
     conv=>whnf
     refine⟨v',σ',fun _ _ h=>h,.refl _,?_⟩
     conv=>whnf
     repeat((first|refine⟨rfl,?_⟩|(refine AZ ?_;intro I C G F)|(apply G;clear F C G I)|(apply U;clear U K)|(clear U K));conv=>whnf)
     refine⟨hlt',v',?_,trivial,?_⟩
     ·skip
      rw[hc2];rfl
     ·have:Dy g (Bd g k) ((k:Int)+1)= []:=by simp[Dy,hl,h]
      rw[Bd,this];exact hs'
 ·conv=>whnf
  repeat((first|(refine As ?_;intro K U)|(refine AZ ?_;intro I C G F)|(apply G;clear F C G I)|refine Dh ?_|refine D9 ?_|(apply U;clear U K)|(clear U K));conv=>whnf)
  have hke:k=2+g.length:=by omega
  subst hke;exact GA hs 0 rfl rfl
end Go.Gl
namespace Go.Gl
def par (ps:List (List Int)) (c:Nat):List Int:=if c<3 then []else ps.getD (c - 3) []
def ordered (ps:List (List Int)):Prop:= ∀c p,p∈par ps c→3≤p∧p<(c:Int)
def Yr (ps:List (List Int)):Nat→Nat→Nat→Bool
 | 0,c,b=>c==b
 | f+1,c,b=>c==b||(par ps c).any fun p=>Yr ps f p.toNat b
def IC (ps:List (List Int)) (c b:Nat):Bool:=Yr ps c c b
def Jg {ps:List (List Int)} (ho:ordered ps): ∀(f c b:Nat),c≤f→Yr ps f c b=IC ps c b
 | 0,c,b,h=>by(obtain rfl:c=0:=by omega);rfl
 | f + 1,c,b,h=>by
   cases c with
   | zero=>
     have:par ps 0= []:=rfl;simp[IC,Yr,this]
   | succ c=>
     simp only[IC,Yr];congr 1
     have key: ∀l:List Int,(∀p∈l,p∈par ps (c+1))→(l.any fun p=>Yr ps f p.toNat b)=l.any fun p=>Yr ps c p.toNat b:=by
      intro l hl
      induction l with
      | nil=>rfl
      | cons p r ih=>
        have hp:=ho (c+1) p (hl p (.head _));simp only[QO];rw[ih fun q hq=>hl q (.tail _ hq),Jg ho f p.toNat b (by omega),Jg ho c p.toNat b (by omega)]
     exact key _ fun p hp=>hp
def D3 {ps:List (List Int)} (ho:ordered ps) (c b:Nat):IC ps c b=(c==b||(par ps c).any fun p=>IC ps p.toNat b):=by
 cases c with
 | zero=>simp[IC,Yr,par]
 | succ c=>
   simp only[IC,Yr];congr 1
   have key: ∀l:List Int,(∀p∈l,p∈par ps (c+1))→(l.any fun p=>Yr ps c p.toNat b)=l.any fun p=>Yr ps p.toNat p.toNat b:=by
    intro l hl
    induction l with
    | nil=>rfl
    | cons p r ih=>
      have hp:=ho (c+1) p (hl p (.head _));simp only[QO];rw[ih fun q hq=>hl q (.tail _ hq),Jg ho c p.toNat b (by omega)];rfl
   exact key _ fun p hp=>hp
def FQ {ps:List (List Int)} (ho:ordered ps) (c:Nat):IC ps c c=true:=by rw[D3 ho];simp
def UH {ps:List (List Int)} (ho:ordered ps): ∀(c b:Nat),IC ps c b=true→b≤c:=by
 intro c
 induction c using Nat.strongRecOn with
 | _ c ih=>
   intro b h;rw[D3 ho]at h;simp only[Fj,Du,JA]at h;rcases h with rfl|⟨p,hp,h⟩
   ·omega
   ·have:=ho c p hp
    have:=ih p.toNat (by omega) b h;omega
def LX {ps:List (List Int)} (ho:ordered ps): ∀(a b c:Nat),IC ps a b=true→IC ps b c=true→IC ps a c=true:=by
 intro a
 induction a using Nat.strongRecOn with
 | _ a ih=>
   intro b c h k;rw[D3 ho]at h ⊢;simp only[Fj,Du,JA]at h ⊢;rcases h with rfl|⟨p,hp,h⟩
   ·rw[D3 ho]at k
    simpa using k
   ·have:=ho a p hp
    exact .inr ⟨p,hp,ih p.toNat (by omega) b c h k⟩
def FL (bs:List Bool) (i:Nat):List Int→List Bool
 | []=>bs
 | p::r=>FL (bs.set p.toNat (bs.getD p.toNat false||bs.getD i false)) i r
def Kw (i:Nat): ∀(a b:List Int) (bs:List Bool),FL bs i (a++b)=FL (FL bs i a) i b
 | [],b,bs=>rfl
 | p::r,b,bs=>by simp only[List.cons_append,FL];exact Kw i r b _
def Lg (i:Nat): ∀(l:List Int) (bs:List Bool),(FL bs i l).length=bs.length
 | [],bs=>rfl
 | p::r,bs=>by simp only[FL];rw[Lg i r];simp
def Gs (ps:List (List Int)) (n c:Nat):Nat→List Bool
 | 0=>(List.replicate n false).set c true
 | k+1=>FL (Gs ps n c k) (c - k) (par ps (c - k))
def KI (ps:List (List Int)) (n c:Nat): ∀k,(Gs ps n c k).length=n
 | 0=>by simp[Gs]
 | k+1=>by simp only[Gs];rw[Lg,KI ps n c k]
def Ep {bs:List Bool} {j:Nat} {x:Bool} (hj:j<bs.length) (b:Nat):(bs.set j x).getD b false=if b=j then x else bs.getD b false:=by
 simp only[DS,List.getElem?_set];by_cases h:j=b
 ·subst h;simp[hj]
 ·rw[if_neg h,if_neg (fun e=>h e.symm)]
def Lh {i:Nat}: ∀(l:List Int) (bs:List Bool),(∀p∈l,0≤p∧p.toNat<bs.length∧p.toNat<i)→ ∀b,(FL bs i l).getD b false=(bs.getD b false||(bs.getD i false&&l.contains (b:Int)))
 | [],bs,_,b=>by simp[FL]
 | p ::r,bs,h,b=>by
   obtain⟨h1,h2,h3⟩:=h p (.head _);simp only[FL];have hi:i≠p.toNat:=by omega
   rw[Lh r _ (fun q hq=>by have:=h q (.tail _ hq);simpa using this),Ep h2,Ep h2,if_neg hi];by_cases hb:b=p.toNat
   ·subst hb
    have:((p.toNat:Nat):Int)=p:=by omega
    simp only[if_true,this,List.contains_cons,beq_self_eq_true,Bool.true_or,Bool.and_true];cases bs.getD p.toNat false<;>cases bs.getD i false<;>simp
   ·rw[if_neg hb]
    have:((b:Int)==p)=false:=by simp;omega
    simp only[List.contains_cons,this,Bool.false_or]
def Sb {ps:List (List Int)} (ho:ordered ps) {n c:Nat} (hc:c<n): ∀k,k≤c - 2→(∀b,(Gs ps n c k).getD b false=true→IC ps c b=true)∧(Gs ps n c k).getD c false=true∧
    (∀j p,c - k<j→(Gs ps n c k).getD j false=true→p∈par ps j→(Gs ps n c k).getD p.toNat false=true)
 | 0,_=>by
   have hg: ∀b,(Gs ps n c 0).getD b false=decide (b=c):=fun b=>by
    simp only[Gs];rw[Ep (by simpa using hc)];by_cases h:b=c
    ·simp[h]
    ·rw[if_neg h]
     simp[h,DS,List.getElem?_replicate];split<;>rfl
   refine⟨fun b hb=>?_,by rw[hg];simp,fun j p hj hb hp=>?_⟩
   ·rw[hg]at hb
    simp only[CL]at hb;subst hb;exact FQ ho _
   ·rw[hg]at hb
    simp only[CL]at hb;omega
 | k + 1,hk=>by
   obtain⟨h1,h2,h3⟩:=Sb ho hc k (by omega)
   have hpar: ∀p∈par ps (c - k),0≤p∧p.toNat<(Gs ps n c k).length∧p.toNat<c - k:=fun p hp=>by
    have:=ho _ p hp;rw[KI];omega
   have hg: ∀b,(Gs ps n c (k+1)).getD b false=((Gs ps n c k).getD b false||((Gs ps n c k).getD (c - k) false&&(par ps (c - k)).contains (b:Int))):=fun b=>by
    simp only[Gs];exact Lh _ _ hpar b
   refine⟨fun b hb=>?_,by rw[hg,h2];rfl,fun j p hj hb hp=>?_⟩
   ·rw[hg]at hb
    simp only[Fj,BV,List.contains_iff_mem]at hb;rcases hb with hb|⟨hb,hm⟩
    ·exact h1 b hb
    ·refine LX ho c (c - k) b (h1 _ hb) ?_
     rw[D3 ho];simp only[Fj,JA];exact .inr ⟨b,hm,by simpa using FQ ho b⟩
   ·have hjp:=ho j p hp
    have hb':(Gs ps n c k).getD j false=true:=by
     rw[hg]at hb;simp only[Fj,BV,List.contains_iff_mem]at hb;rcases hb with hb|⟨_,hm⟩
     ·exact hb
     ·have:=ho _ _ hm
      omega
    rw[hg];by_cases e:j=c - k
    ·subst e
     rw[hb'];have:((p.toNat:Nat):Int)=p:=by omega
     simp only[this,Ev,Fj,List.contains_iff_mem];exact .inr hp
    ·rw[h3 j p (by omega) hb' hp]
     rfl
def Vw {ps:List (List Int)} (ho:ordered ps) {n c:Nat} (hc:c<n) (b:Nat):(Gs ps n c (c - 2)).getD b false=IC ps c b:=by
 obtain⟨h1,h2,h3⟩:=Sb ho hc (c - 2) (IE _)
 have key: ∀a,(Gs ps n c (c - 2)).getD a false=true→ ∀b,IC ps a b=true→(Gs ps n c (c - 2)).getD b false=true:=by
  intro a
  induction a using Nat.strongRecOn with
  | _ a ih=>
    intro ha b hb;rw[D3 ho]at hb;simp only[Fj,Du,JA]at hb;rcases hb with rfl|⟨p,hp,hb⟩
    ·exact ha
    ·have:=ho a p hp
     exact ih p.toNat (by omega) (h3 a p (by omega) ha hp) b hb
 cases hb:IC ps c b with
 | true=>exact key c h2 b hb
 | false=>
   cases hq:(Gs ps n c (c - 2)).getD b false with
   | false=>rfl
   | true=>rw[h1 b hq]at hb;cases hb
end Go.Gl
namespace Go.Gl
open Go.Proofs
attribute [local irreducible] BD Aw Ai AU AO Ah AV AW AN Ag AS AT Ay A9 Sat Ab A4 Aj W
def jN (g:List (List Int)) (f:Bool) (c:Int) (hg:Hu g) (h0:0≤c) (h1:c<3+g.length):Pure Tryz.prog 124 [.l (Ei g) f,eI c] (.t [.l (iL ((Bz g).getD c.toNat [])) false,.b (!((Bz g).getD c.toNat []).isEmpty)]):=by
 refine mO kZ ?_
 conv=>whnf
 repeat((first|(refine As ?_;intro K U)|(refine AZ ?_;intro I C G F)|(apply G;clear F C G I)|(apply U;clear U K)|fail);conv=>whnf)
 refine(Xn g f hg).use ?_
 conv=>whnf
 have hlen:=Cd g (2+g.length);have hlt:c.toNat<(Bz g).length:=by unfold Bz;omega
 have hq:=DZ hlt;refine R9 c.toNat hq (by omega) rfl ?_
 conv=>whnf
 repeat((first|refine⟨rfl,?_⟩|refine Bq ?_|refine Ey ?_|(refine As ?_;intro K U)|(refine AZ ?_;intro I C G F)|(apply G;clear F C G I)|refine D9 ?_|(apply U;clear U K)|fail);conv=>whnf)
 refine AI ?_;rw[DS,hq,Option.getD_some];cases(Bz g)[c.toNat]with
 | nil=>rfl
 | cons _ _=>simp
def tW (w:AK):Prop:=w.parents.length≤1000∧(∀l∈w.parents,l.length≤Ac)∧w.owner.length≤Ac
def ia {ps:List (List Int)} {c:Nat} (h3:3≤c) (hc:c<3+ps.length):ps[c - 3]? =some (par ps c):=by
 unfold par;rw[if_neg (by omega),DS,DZ (by omega)];rfl
def Vs {bs:List Bool} {j:Nat} (h:j<bs.length):(bL bs)[j]? =some [.b (bs.getD j false)]:=by
 rw[PF,DS,DZ h];rfl
def UY (bs:List Bool) (j:Nat) (x:Bool):(bL bs).set j [.b x]=bL (bs.set j x):=by
 simp[bL,List.map_set]
def na (w : AK) (c:Nat) (hw:tW w) (ho:ordered w.parents) (hc:c<3+w.parents.length):Pure Tryz.prog 153 [.a (BE w),eI c] (.l (bL (Gs w.parents (3+w.parents.length) c (c - 2))) false):=by
 obtain⟨hw1,hw2,hw3⟩:=hw;have hmL:3+w.parents.length≤Ac:=by simp only[Ac];omega
 refine lq kZ ?_
 conv=>whnf
 repeat((first|refine⟨rfl,?_⟩|refine Bq ?_|refine Ey ?_|(refine As ?_;intro K U)|(refine AZ ?_;intro I C G F)|(apply G;clear F C G I)|(apply U;clear U K)|fail);conv=>whnf)
 rw[show IntKind.i64.wrap (3+((Ei w.parents).length:Nat))=((3+w.parents.length:Nat):Int) by rw[BR,wrap64 (by omega) (by omega)];omega];refine vO Sat.nil (by omega) fun v σ hs hv=>?_
 obtain⟨id,rfl⟩:=hv
 conv=>whnf
 repeat((first|(refine As ?_;intro K U)|(refine AZ ?_;intro I C G F)|(apply G;clear F C G I)|(apply U;clear U K)|fail);conv=>whnf)
 refine cW hs 0 c rfl rfl (by simpa using hc) ?_
 conv=>whnf
 refine Kh hs 0 rfl (e:=[.b false]) (by simp[hc]) rfl rfl rfl rfl rfl fun σ hs=>?_
 have e0:(List.replicate (3+w.parents.length) [V.b false]).set c [V.b true]=bL (Gs w.parents (3+w.parents.length) c 0):=by
  simp only[Gs];rw[←UY];simp[bL]
 conv=>whnf
 repeat((first|(refine As ?_;intro K U)|(refine AZ ?_;intro I C G F)|(apply G;clear F C G I)|refine Be ?_|refine Dg ?_|(apply U;clear U K)|fail);conv=>whnf)
 refine CZ (c - 2) (fun k (_:Unit)=>[(6,eI (XI c k))]) (fun k _=>[.own (.sl id (3+w.parents.length) (3+w.parents.length)) 1 (bL (Gs w.parents (3+w.parents.length) c k))]) (fun _ _=>True) () rfl trivial (e0 ▸ hs) ?_;rintro k - σ hk - hs;have hd:XI c k=(c:Int) - k:=Wq (by omega) (by omega);have hul:=KI w.parents (3+w.parents.length) c k
 conv=>whnf
 repeat((first|refine⟨rfl,?_⟩|(refine As ?_;intro K U)|(refine AZ ?_;intro I C G F)|(apply G;clear F C G I)|refine Br ?_|(apply U;clear U K)|fail);conv=>whnf)
 refine fork (fun hlt=>?_) (fun hlt=>?_)
 ·rw [hd]at hlt
  have h3:3≤c - k:=by omega
  have hpar:=ia (ps:=w.parents) h3 (by omega);have hpl:=hw2 _ (Cg hpar)
  conv=>whnf
  repeat((first|refine⟨rfl,?_⟩|refine Bq ?_|(refine As ?_;intro K U)|(refine AZ ?_;intro I C G F)|refine Bv ?_|refine Be ?_|(apply U;clear U K)|fail);conv=>whnf)
  refine R9 (c - k - 3) hpar (by rw[hd,wrap64 (by omega) (by omega)];omega) rfl ?_
  conv=>whnf
  repeat((first|refine Bq ?_|refine Ey ?_|(apply G;clear F C G I)|refine Be ?_|refine Dg ?_|(apply U;clear U K)|fail);conv=>whnf)
  refine CZ (par w.parents (c - k)).length (fun j (_:Unit)=>[(29,eI (BH j))]) (fun j _=>[.own (.sl id (3+w.parents.length) (3+w.parents.length)) 1 (bL (FL (Gs w.parents (3+w.parents.length) c k) (c - k) ((par w.parents (c - k)).take j)))]) (fun _ _=>True) () rfl trivial hs ?_;rintro j - σ hj - hs;have hml:=Lg (c - k) ((par w.parents (c - k)).take j) (Gs w.parents (3+w.parents.length) c k)
  conv=>whnf
  repeat((first|refine⟨rfl,?_⟩|(refine As ?_;intro K U)|(refine AZ ?_;intro I C G F)|(apply G;clear F C G I)|refine Br ?_|(apply U;clear U K)|fail);conv=>whnf)
  refine F6 hj hpl (fun p hp hjlt=>?_) fun hj=>?_
  ·have hpp:=ho _ p (Cg hp)
   have hm:(FL (Gs w.parents (3+w.parents.length) c k) (c - k) ((par w.parents (c - k)).take (j+1)))=(FL (Gs w.parents (3+w.parents.length) c k) (c - k) ((par w.parents (c - k)).take j)).set p.toNat
    ((FL (Gs w.parents (3+w.parents.length) c k) (c - k) ((par w.parents (c - k)).take j)).getD p.toNat false||(FL (Gs w.parents (3+w.parents.length) c k) (c - k) ((par w.parents (c - k)).take j)).getD (c - k) false):=by
    rw[AX hp,Kw];rfl
   generalize hbs:FL (Gs w.parents (3+w.parents.length) c k) (c - k) ((par w.parents (c - k)).take j)=bs at *;have hlp:p.toNat<bs.length:=by omega
   have hlc:c - k<bs.length:=by omega
   conv=>whnf
   repeat((first|(refine As ?_;intro K U)|(refine AZ ?_;intro I C G F)|refine Bv ?_|refine Be ?_|(apply U;clear U K)|fail);conv=>whnf)
   refine IK hp hpl rfl ?_
   conv=>whnf
   repeat((first|refine Bq ?_|(refine AZ ?_;intro I C G F)|(apply G;clear F C G I)|(apply U;clear U K)|fail);conv=>whnf)
   refine cW hs 0 p.toNat rfl (by omega) (by simpa using hlp) ?_
   conv=>whnf
   refine Ip hs 0 rfl (Vs hlp) ?_
   conv=>whnf
   cases hb:bs.getD p.toNat false with
   | true=>
     rw[hb]at hm
     conv=>whnf
     repeat((first|refine Wz ?_|fail);conv=>whnf)
     refine cW hs 0 p.toNat rfl (by omega) (by simpa using hlp) ?_
     conv=>whnf
     refine Kh hs 0 rfl (Vs hlp) rfl rfl rfl rfl rfl fun σ hs=>?_
     conv=>whnf
     repeat((first|refine⟨rfl,?_⟩|(refine AZ ?_;intro I C G F)|(apply G;clear F C G I)|(apply U;clear U K)|(clear U K));conv=>whnf)
     refine⟨hjlt,(),rfl,trivial,?_⟩;rw[hm,←UY];exact hs
   | false=>
     rw[hb]at hm
     conv=>whnf
     repeat((first|refine RN ?_|fail);conv=>whnf)
     refine cW hs 0 (c - k) rfl (by rw[hd];omega) (by simpa using hlc) ?_
     conv=>whnf
     repeat((first|refine RN ?_|fail);conv=>whnf)
     refine Ip hs 0 rfl (Vs hlc) ?_
     conv=>whnf
     refine cW hs 0 p.toNat rfl (by omega) (by simpa using hlp) ?_
     conv=>whnf
     refine Kh hs 0 rfl (Vs hlp) rfl rfl rfl rfl rfl fun σ hs=>?_
     conv=>whnf
     repeat((first|refine⟨rfl,?_⟩|(refine AZ ?_;intro I C G F)|(apply G;clear F C G I)|(apply U;clear U K)|(clear U K));conv=>whnf)
     refine⟨hjlt,(),rfl,trivial,?_⟩;rw[hm,←UY];exact hs
  ·rw[BC hj]at hs
   conv=>whnf
   repeat((first|refine⟨rfl,?_⟩|(refine AZ ?_;intro I C G F)|(apply G;clear F C G I)|refine Dh ?_|(apply U;clear U K)|(clear U K));conv=>whnf)
   refine⟨by omega,(),rfl,trivial,hs⟩
 ·rw[hd]at hlt
  conv=>whnf
  repeat((first|(refine As ?_;intro K U)|(refine AZ ?_;intro I C G F)|(apply G;clear F C G I)|refine Dh ?_|refine D9 ?_|(apply U;clear U K)|(clear U K));conv=>whnf)
  have:k=c - 2:=by omega
  subst this;exact GA hs 0 rfl rfl
end Go.Gl
namespace Go.Gl
variable {P:Program} {σ σ':AH}
mutual
def Eu:V→Prop
 | .i k n=>k.min≤n∧n≤k.max
 | .rp cs=>HO cs
 | .l es _=>es.length≤Ac∧R5 es
 | .f _ a b=>HO a∧HO b
 | .J1 _ v=>Eu v
 | .a cs=>HO cs
 | .t vs=>HO vs
 | _=>True
def HO:List V→Prop
 | []=>True
 | v::r=>Eu v∧HO r
def R5:List (List V)→Prop
 | []=>True
 | e::r=>HO e∧R5 r
end
mutual
def gC {H:Nat→Nat→Option Value}: ∀(v:V) (c:Value),AY H v c→Eu v
 | .b _,_,_| .s _,_,_| .pn,_,_| .p _ _,_,_| .sl _ _ _,_,_| .sv _ _ _ _,_,_| .pe _ _ _ _,_,_| .m _,_,_| .mn,_,_| .M3,_,_| .IB,_,_| .any,_,_=>by simp only[Eu]
 | .i k n,_,h=>by
   simp only[AY]at h;simp only[Eu];exact h.2
 | .rp cs,_,h=>by
   simp only[AY]at h;obtain⟨b,o,rfl,h⟩:=h;simp only[Eu];exact IV cs o h
 | .l es full,_,h=>by
   simp only[AY]at h;obtain⟨a,cap,h1,h2,h3,h4,h5,h6⟩:=h;simp only[Eu];refine⟨h4,?_⟩;cases es with
   | nil=>exact trivial
   | cons e es=>
     obtain⟨b,o,sz,h7,h8⟩:=h6 (by simp);exact Zo (e::es) o h8
 | .f fn first cap,_,h=>by
   simp only[AY]at h;obtain⟨f',c',h1,h2,h3,h4,h5⟩:=h;simp only[Eu];exact⟨IV first 0 h3,IV cap 0 h5⟩
 | .J1 t v,_,h=>by
   simp only[AY]at h;obtain⟨c',h1,h2⟩:=h;simp only[Eu];exact gC v c' h2
 | .a cs,_,h=>by
   simp only[AY]at h;obtain⟨c',h1,h2,h3⟩:=h;simp only[Eu];exact IV cs 0 h3
 | .t cs,_,h=>by
   simp only[AY]at h;obtain⟨c',h1,h2,h3⟩:=h;simp only[Eu];exact IV cs 0 h3
def IV {H:Nat→Nat→Option Value} {g:Nat→Option Value}: ∀(vs:List V) (o:Nat),BZ H g o vs→HO vs
 | [],_,_=>trivial
 | v::vs,o,h=>by
   simp only[BZ]at h;obtain⟨⟨c,h1,h2⟩,h3⟩:=h;exact⟨gC v c h2,IV vs (o+1) h3⟩
def Zo {H:Nat→Nat→Option Value} {g:Nat→Option Value} {sz:Nat}: ∀(es:List (List V)) (o:Nat),BJ H g sz o es→R5 es
 | [],_,_=>trivial
 | e::es,o,h=>by
   simp only[BJ]at h;obtain⟨h1,h2,h3⟩:=h;exact⟨IV e o h2,Zo es (o+sz) h3⟩
end
def BD.fit {f:FuncId} {args:List V} {Q:R→AH→Prop} (hok:okF P f=true) (h:HO args→BD P f args σ Q):BD P f args σ Q:=
 ⟨hok,fun Λ w cs G hv=>(h (IV args 0 hv.2)).2 Λ w cs G hv⟩
def Pure.fit {f:FuncId} {args:List V} {v:V} (hok:okF P f=true) (h:HO args→Pure P f args v):Pure P f args v:=BD.fit hok h
def Bc.fit {f:FuncId} {args:List V} {pre:List At} {Φ:R→List At→Prop} (hok:okF P f=true) (h:HO args→Bc P f args pre Φ):Bc P f args pre Φ:=fun σ hs=>BD.fit hok fun hf=>h hf σ hs
def bf {es:List (List V)}:R5 es↔ ∀e∈es,HO e:=by
 induction es with
 | nil=>simp[R5]
 | cons e r ih=>simp[R5,ih]
def HB {α:Type} {enc:α→List V} {xs:List α}:R5 (xs.map enc)↔ ∀x∈xs,HO (enc x):=by
 rw[bf];simp
def D7 {es:List (List V)} {f:Bool}:Eu (.l es f)↔es.length≤Ac∧R5 es:=Iff.rfl
def HS {cs:List V}:Eu (.a cs)↔HO cs:=Iff.rfl
def RI {cs:List V}:Eu (.rp cs)↔HO cs:=Iff.rfl
def DX {v:V} {r:List V}:HO (v::r)↔Eu v∧HO r:=Iff.rfl
def drop_cons {α:Type} {xs:List α} {k:Nat} {x:α} (h:xs[k]? =some x):xs.drop k=x::xs.drop (k+1):=by
 obtain⟨hk,rfl⟩:=H4.1 h;exact List.drop_eq_getElem_cons hk
def Ap {α:Type} {xs:List α} {k:Nat} (h:k=xs.length):xs.drop k= []:=List.drop_of_length_le (by omega)
end Go.Gl
namespace Go.Gl
variable {P:Program} {σ:AH} {env:Env}
class Rx (AD:Prop) (G':outParam Prop):Prop where
 h:G'→AD
def st {AD G':Prop} [i:Rx AD G'] (h:G'):AD:=i.h h
def sq {l:List Nat} {a b:AJ} {Q:An→Env→AH→Prop} (h: ∀K:Env→AH→Prop,(∀env σ,(pk l env fun E=>W P b Q E σ)→K env σ)→W P a (An.andThen K Q) env σ):W P (.seq l a b) Q env σ:=As h
class tT (AD:Prop) (G':outParam Prop):Prop where
 h:G'→AD
def si {AD G':Prop} [i:tT AD G'] (h:G'):AD:=i.h h
instance {ops:List Ad} {Q:An→Env→AH→Prop}:tT (W P (.A3 ops) Q env σ) (∀(I:Env→AH→Prop) (C:Env→V→AH→Prop),(∀env σ,Q .normal env σ→I env σ)→(∀env v σ,Q (.Cw v) env σ→C env v σ)→WT P ops I C env σ):=⟨AZ⟩
instance {l:List Nat} {ops:List C6} {Q:An→Env→AH→Prop}:tT (W P (.Bf l ops) Q env σ) (∀(I:Env→AH→Prop) (C:V→AH→Prop),(∀env σ,(pk l env fun E=>Q .normal E σ)→I env σ)→(∀v σ,(∀σ',Sub σ σ'→Q (.Cw v) [] σ')→C v σ)→WD P ops I C env σ):=⟨fS⟩
instance {c:B9} {a b:AJ} {Q:An→Env→AH→Prop}:Rx (W P (.cond c a b) Q env σ) (match ev env c with
 | some (.b t)=>(t=true→W P a Q env σ)∧(t=false→W P b Q env σ)
 | _=>False):=⟨Br⟩
instance {id:Nat} {a:AJ} {Q:An→Env→AH→Prop}:Rx (W P (.block id a) Q env σ) (W P a (An.inBlock id Q) env σ):=⟨Be⟩
instance {l:List Nat} {a:AJ} {Q:An→Env→AH→Prop}:Rx (W P (.loop l a) Q env σ) (pk l env fun E=>Aj l a (W P a) Q E σ):=⟨Dg⟩
instance {id:Nat} {Q:An→Env→AH→Prop}:Rx (W P (.exit id) Q env σ) (Q (.exit id) env σ):=⟨Dh⟩
instance {Q:An→Env→AH→Prop}:Rx (W P .ret Q env σ) (Q .ret env σ):=⟨D9⟩
instance {Q:An→Env→AH→Prop}:Rx (W P .skip Q env σ) (Q .normal env σ):=⟨Bv⟩
instance {a:AJ} {Q:An→Env→AH→Prop}:Rx (W P (.scope a) Q env σ) (W P a Q env σ):=⟨cL⟩
instance {l:List Nat} {g:B9} {ps:List Nat} {a b:AJ} {Q:An→Env→AH→Prop}:Rx (W P (.Db l g ps a b) Q env σ) (match ev env g with
 | some (.f (.func gf) [] cap)=>pk l env fun E=> ∀L,σ L=none→BD P gf (.f (.yield L) [] []::cap) (A7 σ L (.loop .ready E (Bx P ps a b))) (Jf L Q env)
 | _=>False):=⟨cM⟩
instance {A B:Prop}:Rx ((true=true→A)∧(true=false→B)) A:=⟨LR⟩
instance {A B:Prop}:Rx ((false=true→A)∧(false=false→B)) B:=⟨Qp⟩
instance {A B:Prop}:Rx ((false=false→A)∧(false=true→B)) A:=⟨RN⟩
instance {A B:Prop}:Rx ((true=false→A)∧(true=true→B)) B:=⟨Wz⟩
instance {A B:Prop} {b:Bool}:Rx ((b=true→A)∧(b= !true→B)) ((b=true→A)∧(b=false→B)):=⟨id⟩
instance {A B:Prop} {b:Bool}:Rx ((b=false→A)∧(b= !false→B)) ((b=false→A)∧(b=true→B)):=⟨id⟩
instance {agg:Option Nat} {cs:List V} {K:V→Prop}:Rx (Ab σ agg (.rp cs) K) (cut agg cs 0 K):=⟨fun h=>h⟩
instance {es:List (List V)} {f:Bool} {K:V→Prop}:Rx (A4 (.l es f) K) (K (.i .i64 es.length)):=⟨Ey⟩
def kc {K A:Env→AH→Prop} (h:A env σ) (hk: ∀env σ,A env σ→K env σ:=by assumption):K env σ:=hk _ _ h
def kp {K A:Env→V→AH→Prop} {v:V} (h:A env v σ) (hk: ∀env v σ,A env v σ→K env v σ:=by assumption):K env v σ:=hk _ _ _ h
def rk {x:Ad} {r:List Ad} {A:Prop} (h1:G3 P x env σ) (h2:El P r env σ∧A):El P (x::r) env σ∧A:=⟨⟨h1,h2.1⟩,h2.2⟩
def dr {A:Prop} (h:A):El P [] env σ∧A:=⟨trivial,h⟩
class BP (b v:Bool) (p:outParam Prop):Prop where
 h:b=v→p
def bp {b v:Bool} {p:Prop} [i:BP b v p] (h:b=v):p:=i.h h
instance (priority:=low) {b v:Bool}:BP b v (b=v):=⟨id⟩
instance (priority:=mid) {p:Prop} [Decidable p]:BP (decide p) true p:=⟨of_decide_eq_true⟩
instance (priority:=mid) {p:Prop} [Decidable p]:BP (decide p) false (¬p):=⟨of_decide_eq_false⟩
instance {a b:Int}:BP (decide (a<b)) false (b≤a):=⟨fun h=>Int.not_lt.1 (of_decide_eq_false h)⟩
instance {a b:Int}:BP (decide (a≤b)) false (b<a):=⟨fun h=>Int.not_le.1 (of_decide_eq_false h)⟩
instance {a b:Int}:BP (a==b) true (a=b):=⟨fun h=>by simpa using h⟩
instance {a b:Int}:BP (a==b) false (a≠b):=⟨fun h=>by simpa using h⟩
instance {a b:Int}:BP (a != b) true (a≠b):=⟨fun h=>by simpa using h⟩
instance {a b:Int}:BP (a != b) false (a=b):=⟨fun h=>by simpa using h⟩
instance {b:Bool} {p:Prop} [i:BP b false p]:BP (!b) true p:=⟨fun h=>i.h (by simpa using h)⟩
instance {b:Bool} {p:Prop} [i:BP b true p]:BP (!b) false p:=⟨fun h=>i.h (by simpa using h)⟩
instance {b x v:Bool} {p:Prop} [i:BP b v p]:BP (bif false then x else b) v p:=⟨i.h⟩
instance {b x v:Bool} {p:Prop} [i:BP b v p]:BP (bif true then b else x) v p:=⟨i.h⟩
def fc {α:Type} {enc:α→List V} {xs:List α} {k:Nat} {A B:Prop} (h1: ∀x,xs[k]? =some x→k<xs.length→decide (BH k<((xs.map enc).length:Nat))=true→A) (h2:k=xs.length→decide (BH k<((xs.map enc).length:Nat))=false→B) (hk:k≤xs.length:=by assumption) (hm:xs.length≤Ac:=by first|assumption|omega|simp[Ac]<;>omega) :
    (decide (BH k<((xs.map enc).length:Nat))=true→A)∧(decide (BH k<((xs.map enc).length:Nat))=false→B):=
 ⟨fun h=>(F6 (enc:=enc) (A:=A) (B:=True) hk hm (fun x hx hlt=>h1 x hx hlt h) fun _=>trivial).1 h,fun h=>(F6 (enc:=enc) (A:=True) (B:=B) hk hm (fun _ _ _=>trivial) fun he=>h2 he h).2 h⟩
def ix {α:Type} {enc:α→List V} {xs:List α} {f:Bool} {sz:Nat} {K:V→Prop} {ki:IntKind} {k:Nat} {x:α} (h:K (.rp (enc x))) (hx:xs[k]? =some x:=by assumption) (hm:xs.length≤Ac:=by first|assumption|omega|simp[Ac]<;>omega) (hs:(enc x).length=sz:=by first|rfl|simp) :
    AU sz none (.l (xs.map enc) f) (.i ki (BH k)) K:=IK hx hm hs h
def iq {α:Type} {enc:α→List V} {xs:List α} {f:Bool} {sz:Nat} {K:V→Prop} {ki:IntKind} {j:Int} (h: ∀x,xs[j.toNat]? =some x→K (.rp (enc x))) (h0:0≤j:=by omega) (h1:j<xs.length:=by omega) (hs: ∀x,(enc x).length=sz:=by intro x;first|rfl|simp|(rw[B0];rfl)) :
    AU sz none (.l (xs.map enc) f) (.i ki j) K:=by
 have hlt:j.toNat<xs.length:=by omega
 exact R9 j.toNat (DZ hlt) (by omega) (hs _) (h _ (DZ hlt))
def tL {α:Type} {enc:α→List V} {xs:List α} {f:Bool} {sz:Nat} {ki:IntKind} {k:Nat} {K:V→AH→Prop} (h:K (.l ((xs.take k).map enc) (f&&decide ((k:Int)=((xs.map enc).length:Nat)))) σ) (hl:k≤xs.length:=by first|assumption|omega) (hm:xs.length≤Ac:=by first|assumption|omega) (hs: ∀x,(enc x).length=sz:=by intro x;first|rfl|simp|(rw[B0];rfl)) :
    AV σ sz (.l (xs.map enc) f) none (some (.i ki (BH k))) none K:=by
 rw[AM (by omega)];refine⟨fun e he=>?_,?_⟩
 ·obtain⟨x,_,rfl⟩:=Ls.1 he
  exact hs x
 ·simp only[Ow,BR]
  refine⟨by omega,by omega,by omega,?_⟩;rw[Jz];simpa[List.map_take]using h
def Ve {xs:List Fact} {f:Bool} {K:V→Prop} {ki:IntKind} {k:Nat} {x:Fact} (h:K (.rp (xF x))) (hx:xs[k]? =some x:=by assumption) (hm:xs.length≤Ac:=by first|assumption|omega):AU 6 none (.l (xs.map F4) f) (.i ki (BH k)) K:=by
 refine IK hx hm (by rw[B0];rfl) ?_;rw[B0];exact h
def Rq {a0:At} {l:List At}:(a0::l)[0]? =some a0:=rfl
def Rp {a0 a1:At} {l:List At}:(a0::a1::l)[1]? =some a1:=rfl
def Ro {a0 a1 a2:At} {l:List At}:(a0::a1::a2::l)[2]? =some a2:=rfl
def Rn {a0 a1 a2 a3:At} {l:List At}:(a0::a1::a2::a3::l)[3]? =some a3:=rfl
def Rm {a0 a1 a2 a3 a4:At} {l:List At}:(a0::a1::a2::a3::a4::l)[4]? =some a4:=rfl
def Rl {a0 a1 a2 a3 a4 a5:At} {l:List At}:(a0::a1::a2::a3::a4::a5::l)[5]? =some a5:=rfl
def ld {l:List At} {i n off:Nat} {agg:Option Nat} {vs:List V} {K:V→Prop} (hk:cut agg vs off K) (h:Sat σ l:=by assumption)
    (hi:l[i]? =some (.box n vs):=by first|exact Rq|exact Rp|exact Ro|exact Rn|exact Rm|exact Rl):Ab σ agg (.p n off) K:=SN h i hi hk
def s1 {l:List At} {i n off:Nat} {vs:List V} {x:V} {K:AH→Prop} (hk: ∀σ',Sat σ' (l.set i (.box n (vs.set off x)))→K σ') (h:Sat σ l:=by assumption)
    (hi:l[i]? =some (.box n vs):=by first|exact Rq|exact Rp|exact Ro|exact Rn|exact Rm|exact Rl)
    (h1:Di x=true:=by first|rfl|exact Fb (by assumption) 0 rfl|exact Fb (by assumption) 1 rfl|exact Fb (by assumption) 2 rfl|exact Fb (by assumption) 3 rfl|simp) (ho:off+1≤vs.length:=by exact Nat.le_of_ble_eq_true rfl):AW σ 1 (.p n off) x K:=
 HZ h i hi h1 ho hk
def sn {l:List At} {i n off sz:Nat} {vs vc:List V} {x:V} {K:AH→Prop} (hk: ∀σ',Sat σ' (l.set i (.box n (putAt vs off vc)))→K σ') (h:Sat σ l:=by assumption)
    (hi:l[i]? =some (.box n vs):=by first|exact Rq|exact Rp|exact Ro|exact Rn|exact Rm|exact Rl)
    (hc:cellsOf x=some vc:=by rfl) (hl:vc.length=sz:=by rfl) (h1:vc.all Di=true:=by first|rfl|simp) (ho:off+sz≤vs.length:=by exact Nat.le_of_ble_eq_true rfl):AW σ sz (.p n off) x K:=
 F5 h i hi hc hl h1 ho hk
def NU:EE (fun f:Fact=>F4 f) 6:=fun f=>by
 simp only[B0];refine⟨rfl,fun v hv=>?_⟩;simp only[FE,List.not_mem_nil,or_false]at hv;rcases hv with rfl|rfl|rfl|rfl|rfl|rfl<;>rfl
def RG:EE (fun l:List Fact=>[V.l (facts l) false]) 1:=fun x=>⟨rfl,fun v hv=>by simp at hv;subst hv;rfl⟩
def af {α:Type} {enc:α→List V} {sz:Nat} {ys:List α} {g:Bool} {K:V→Prop} (hk:K (.l (ys.map enc) false)) (hg:EE enc sz:=by first|exact Cs|exact DQ|exact RF|exact NU|exact RG) {b:Nat} (hl:ys.length≤Ac∧ys.length*b≤140737488355328:=by first|assumption|omega) :
    Ah b σ sz (.l [] true) (.l (ys.map enc) g) K:=UP hg hl hk
def al {l:List At} {o:O} {n:Nat} {K:Prop} {σ':AH} (e:A7 σ n o=σ') (hk:Sat σ' (l++[.obj n o])→K) (hn:σ n=none:=by assumption) (h:Sat σ l:=by assumption):K:=hk (e ▸ Y4 h hn)
def oi {l:List At} {i:Nat} {v:V} {sz:Nat} {es:List (List V)} {ki:IntKind} {j:Int} {K:V→Prop} (hk:K (GR v sz j.toNat)) (h:Sat σ l:=by assumption)
    (hi:l[i]? =some (.own v sz es):=by first|exact Rq|exact Rp|exact Ro|exact Rn|exact Rm|exact Rl) (h0:0≤j:=by omega) (h1:j<es.length:=by first|omega|(simp only[BR]at *;omega)):AU sz none v (.i ki j) K:=
 cW h i j.toNat hi (by omega) (by omega) hk
def oc {l:List At} {i:Nat} {v:V} {sz k:Nat} {es:List (List V)} {ki:IntKind} {K:V→Prop} (hk:K (GR v sz k)) (h:Sat σ l:=by assumption)
    (hi:l[i]? =some (.own v sz es):=by first|exact Rq|exact Rp|exact Ro|exact Rn|exact Rm|exact Rl) (h1:k<es.length:=by first|omega|(simp only[BR]at *;omega)) (hm:k≤Ac:=by first|omega|(simp only[Ac];omega)):AU sz none v (.i ki (BH k)) K:=
 cW h i k hi (AM (by omega)) h1 hk
def ol {α:Type} {enc:α→List V} {xs:List α} {l:List At} {i:Nat} {v:V} {sz k:Nat} {agg:Option Nat} {K:V→Prop} (hk: ∀x,xs[k]? =some x→cut agg (enc x) 0 K) (h:Sat σ l:=by assumption)
    (hi:l[i]? =some (.own v sz (xs.map enc)):=by first|exact Rq|exact Rp|exact Ro|exact Rn|exact Rm|exact Rl) (h1:k<xs.length:=by first|omega|(simp only[BR]at *;omega)):Ab σ agg (GR v sz k) K:=
 Ip h i hi (by rw[PF,DZ h1];rfl) (hk _ (DZ h1))
def oset {α:Type} {enc:α→List V} {xs:List α} {y:α} {l:List At} {i:Nat} {v x:V} {sz k:Nat} {vc:List V} {K:AH→Prop} (hk: ∀σ',Sat σ' (l.set i (.own v sz ((xs.set k y).map enc)))→K σ') (h:Sat σ l:=by assumption)
    (hi:l[i]? =some (.own v sz (xs.map enc)):=by first|exact Rq|exact Rp|exact Ro|exact Rn|exact Rm|exact Rl) (hc:cellsOf x=some vc:=by rfl) (he:vc=enc y:=by rfl) (hg:EE enc sz:=by first|exact Cs|exact DQ|exact RF|exact NU|exact RG)
    (hv:(Cb v).isSome=true:=by assumption) (h1:k<xs.length:=by first|omega|(simp only[BR]at *;omega)):AW σ sz (GR v sz k) x K:=by
 subst he;refine Kh h i hi (by rw[PF,DZ h1];rfl) hc (hg y).1 (EL.2 fun v hv=>(hg y).2 v hv) (hg _).1 hv fun σ' hs=>hk σ' ?_
 rw[List.map_set];exact hs
def GC {b sz:Nat} {v:V} {e:List V} {f:Bool} {K:V→AH→Prop} (h:AO b σ sz v (.l [e] f) fun v' σ'=>(Cb v').isSome=true→K v' σ'):AO b σ sz v (.l [e] f) K:=by
 obtain⟨h1,h2,h3⟩:=h;refine⟨h1,h2,?_⟩;cases v with
 | l es full=>exact⟨h3.1,h3.2.1,fun e=>(by cases e),fun e=>⟨(h3.2.2.2 e).1,fun n cap hn hc=>(h3.2.2.2 e).2 n cap hn hc rfl⟩⟩
 | sl n len cap=>
   simp only at h3 ⊢;split at h3
   ·exact⟨h3.1,h3.2.1,h3.2.2.1,h3.2.2.2.1,fun n' cap' hn hc=>h3.2.2.2.2 n' cap' hn hc rfl⟩
   ·exact h3.elim
 | _=>exact h3.elim
def aq {l:List At} {i:Nat} {α:Type} {enc:α→List V} {sz:Nat} {xs:List α} {x:α} {v:V} {f:Bool} {e:List V} {K:V→AH→Prop} (hk: ∀v' σ',Sat σ' (l.set i (.own v' sz ((xs++[x]).map enc)))→(Cb v').isSome=true→K v' σ') (h:Sat σ l:=by assumption)
    (hi:l[i]? =some (.own v sz (xs.map enc)):=by first|exact Rq|exact Rp|exact Ro|exact Rn|exact Rm|exact Rl)
    (he:e=enc x:=by rfl) (hg:EE enc sz:=by first|exact Cs|exact DQ|exact RF|exact NU|exact RG)
    {b:Nat} (hl:xs.length<Ac∧(xs.length+1)*b≤140737488355328:=by first|assumption|omega|(simp only[QP,BR,Lt,List.length_nil,K6,tJ,List.length_replicate,Ac]at *;omega)):AO b σ sz v (.l [e] f) K:=
 GC (Fh h i hi hl hg hk he)
end Go.Gl
