import Derived.Test.YtcfkfhaedllcpaaGreatW23
import Derived.Test.YtcfkfhaedllcpaaGreatW24
import Derived.Test.YtcfkfhaedllcpaaGreatW31
import Derived.Test.YtcfkfhaedllcpaaGreatW32
import Derived.Test.YtcfkfhaedllcpaaGreatW33
set_option linter.all false
set_option linter.defProp false
set_option maxHeartbeats 8000000
noncomputable section
namespace Go.Gl
open Go.Proofs
def MR {b sz:Nat} {Z:AE} {es:List (List V)} {f:Bool} {K:V->AE->Prop} (h:AJ b Z sz (.l [] true) (.l es f) fun v' Z'=>((Be v').isSome=true\/(v'= .l [] true/\es= []))->K v' Z'):AJ b Z sz (.l [] true) (.l es f) K:=by
 obtain⟨h1,h2,h3⟩:=h;exact⟨h1,h2,h3.1,h3.2.1,fun e=>h3.2.2.1 e (.inr ⟨rfl,e⟩),fun e=>⟨(h3.2.2.2 e).1,fun n cap hn hc=>(h3.2.2.2 e).2 n cap hn hc (.inl rfl)⟩⟩
attribute [local irreducible] A3 Aq Af AR AJ Ad AQ AT AK Ac AM AN Ax A5 Sat AX A4 Ah W
attribute [local irreducible] Fz
def gF (xs:List Int) (f:Bool) (hxl:xs.length<=1000):Bc zP 25 [.l (iL xs) f] [] fun r post=> ∃v,r= .ret v/\post= [.own v 1 (iL xs)]/\((Be v).isSome=true\/(v= .l [] true/\xs= [])):=by
 intro Z hs;have hM:=Mx;refine ed kZ ?_
 conv=>whnf
 repeat'((first|(apply sq;intro K U)|(apply si;intro A B hA hB)|(refine hA _ _ ?_;clear hB B hA A)|(apply U;clear U K)|fail)<;>conv=>whnf)
 refine⟨fun e t=>?_,fun _=>?_⟩
 .have hx:xs= []:=List.map_eq_nil_iff.1 e
  subst hx
  conv=>whnf
  repeat'((first|apply st|(apply sq;intro K U)|(apply si;intro A B hA hB)|(refine hA _ _ ?_;clear hB B hA A)|(apply U;clear U K)|(constructor<;>intro hc<;>(try rw[hc])<;>(replace hc:=bp hc))|clear U K)<;>conv=>whnf)
  .exact Ak (Cf hs 1) (.cons₂ _ (KG _)) (.refl _) fun Z' hs'=>⟨_,⟨_,rfl,rfl,.inr ⟨rfl,rfl⟩⟩,hs'⟩
  .replace hs:=Cf hs 1
   refine MR (F9 hs 0 (xs:=[]) (ys:=[]) rfl (by simp) BZ fun v Z hs hv=>?_);have hv:(Be v).isSome=true\/(v= .l [] true/\([]:List Int)= []):=by simpa using hv
   conv=>whnf
   repeat'((first|apply st|(refine hA _ _ ?_;clear hB B hA A)|(apply U;clear U K)|fail)<;>conv=>whnf)
   exact Ak hs (.cons₂ _ (KG _)) (.refl _) fun Z' hs'=>⟨_,⟨v,rfl,rfl,hv⟩,hs'⟩
 .conv=>whnf
  repeat'((first|apply st|(apply sq;intro K U)|(apply si;intro A B hA hB)|(refine hA _ _ ?_;clear hB B hA A)|(apply U;clear U K)|fail)<;>conv=>whnf)
  replace hs:=Cf hs 1;refine MR (F9 hs 0 (xs:=[]) (ys:=xs) rfl (by simp;omega) BZ fun v Z hs hv=>?_);have hv:(Be v).isSome=true\/(v= .l [] true/\xs= []):=by simpa using hv
  conv=>whnf
  repeat'((first|apply st|(refine hA _ _ ?_;clear hB B hA A)|(apply U;clear U K)|fail)<;>conv=>whnf)
  exact Ak hs (.cons₂ _ (KG _)) (.refl _) fun Z' hs'=>⟨_,⟨v,rfl,rfl,hv⟩,hs'⟩
abbrev plW (x:Pl) (a b c d:Bool):List V:=[.l (iL x.ar) a,.b x.OM,.l (iL x.be) b,.l (iL x.pr) c,.b x.prt,.l (iL x.af) d]
def L6 {xs:List Int} {b:Bool} {t:Bool} {Z:AE}:Ez Z emp (.t [.l (iL xs) b,.b t]) (.t [.l (iL xs) false,.b t]):= .t (.cons (.l (fun h=>by cases h) (.refl _ _ _)) (.cons (.refl _) .nil))
def xB (c:XA) (x:Pl) (a b d e:Bool) (hx:x.pr.length<=60):Pure zP 48 [.a (Ho c),.a (plW x a b d e)] (.t [.l (iL (Dc c x).1) false,.b (Dc c x).2]):=by
 have hM:=Mx;obtain⟨co,pick,fold⟩:=c;obtain⟨ar,OM,be,pr,prt,af⟩:=x;dsimp only at hx;show Pure zP 48 [.a [eI co,eI pick,eI fold],.a [.l (iL ar) a,.b OM,.l (iL be) b,.l (iL pr) d,.b prt,.l (iL af) e]] _;have e3:pr.reverse.length=pr.length:=List.length_reverse;have c1:=gF pr d (by omega);have e1:((iL pr.reverse).length:Int)=pr.length:=by simp
 have e2:((iL pr).length:Int)=pr.length:=by simp
 by_cases h2:co=2
 rotate_left
 .have hL:Dc ⟨co,pick,fold⟩ ⟨ar,OM,be,pr,prt,af⟩=if 0<pick/\pick<(pr.length:Int)then(pr.take pick.toNat,false)else(pr,prt):=by
   simp only[Dc,IY,if_neg h2]
  rw[hL];by_cases hc:0<pick/\pick<(pr.length:Int)
  .rw[if_pos hc]
   obtain⟨hc1,hc2⟩:=hc;refine VH kZ ?_;have hs:=Sn
   conv=>whnf
   repeat'((first|apply st|(refine JQ ?_;intro K U)|(apply si;intro A B hA hB)|(refine hA _ _ ?_;clear hB B hA A)|(apply U;clear U K)|refine JR ?_|fail)<;>conv=>whnf)
   refine c1.use (rest:=[]) (by simpa using hs) ?_;clear hs;rintro r post Z ⟨v,rfl,rfl,hv⟩ hs
   conv=>whnf
   repeat'((first|(refine hA _ _ ?_;clear hB B hA A)|(apply U;clear U K)|fail)<;>conv=>whnf)
   refine Nv hs 0 rfl (fun Z2 h=> .cons (.refl _) (.cons (.refl _) (.cons h .nil))) fun Z hs=>?_
   conv=>whnf
   repeat'((first|apply st|(refine JQ ?_;intro K U)|(apply si;intro A B hA hB)|(refine hA _ _ ?_;clear hB B hA A)|(apply U;clear U K)|refine⟨rfl,?_⟩|refine pH ?_|refine JR ?_|(constructor<;>intro hc<;>(try rw[hc])<;>(replace hc:=bp hc)<;>(try simp(disch:=omega) only[BU,wrap64,AO]at hc)<;>try(exfalso;omega))|clear U K)<;>conv=>whnf)
   all_goals first
    | (exfalso;omega)
    | (exfalso;simp_all;omega)
    | exact Ap L6
  .rw[if_neg hc]
   refine VH kZ ?_;have hs:=Sn
   conv=>whnf
   repeat'((first|apply st|(refine JQ ?_;intro K U)|(apply si;intro A B hA hB)|(refine hA _ _ ?_;clear hB B hA A)|(apply U;clear U K)|refine JR ?_|fail)<;>conv=>whnf)
   refine c1.use (rest:=[]) (by simpa using hs) ?_;clear hs;rintro r post Z ⟨v,rfl,rfl,hv⟩ hs
   conv=>whnf
   repeat'((first|(refine hA _ _ ?_;clear hB B hA A)|(apply U;clear U K)|fail)<;>conv=>whnf)
   refine Nv hs 0 rfl (fun Z2 h=> .cons (.refl _) (.cons (.refl _) (.cons h .nil))) fun Z hs=>?_
   conv=>whnf
   repeat'((first|apply st|(refine JQ ?_;intro K U)|(apply si;intro A B hA hB)|(refine hA _ _ ?_;clear hB B hA A)|(apply U;clear U K)|apply dr|refine⟨rfl,?_⟩|refine JR ?_|(constructor<;>intro hc<;>(try rw[hc])<;>(replace hc:=bp hc)<;>(try simp(disch:=omega) only[BU,wrap64,AO]at hc)<;>try(exfalso;omega))|fail)<;>conv=>whnf)
   all_goals first
    | (exfalso;omega)
    | (exfalso;simp_all;omega)
    | exact Ap L6
 subst h2;cases prt
 rotate_left
 .have hL:Dc ⟨2,pick,fold⟩ ⟨ar,OM,be,pr,true,af⟩=([],true):=by
   simp only[Dc,IY,if_true];rw[if_neg (by simp;omega)]
  rw[hL];refine VH kZ ?_;have hs:=Sn
  conv=>whnf
  repeat'((first|apply st|(refine JQ ?_;intro K U)|(apply si;intro A B hA hB)|(refine hA _ _ ?_;clear hB B hA A)|(apply U;clear U K)|refine JR ?_|fail)<;>conv=>whnf)
  refine c1.use (rest:=[]) (by simpa using hs) ?_;clear hs;rintro r post Z ⟨v,rfl,rfl,hv⟩ hs
  conv=>whnf
  repeat'((first|apply st|(refine JQ ?_;intro K U)|(apply si;intro A B hA hB)|(refine hA _ _ ?_;clear hB B hA A)|(apply U;clear U K)|refine⟨rfl,?_⟩|refine JR ?_|(constructor<;>intro hc<;>(try rw[hc])<;>(replace hc:=bp hc)<;>(try simp(disch:=omega) only[BU,wrap64,AO]at hc)<;>try(exfalso;omega))|fail)<;>conv=>whnf)
  refine(FJ [] (.l [] true) (by simp) (.inr ⟨rfl,rfl⟩)).use (rest:=[]) (Cf Sat.nil 1) ?_;clear hs;rintro r post Z ⟨rfl,rfl⟩ hs
  conv=>whnf
  repeat'((first|apply st|(refine JQ ?_;intro K U)|(apply si;intro A B hA hB)|(refine hA _ _ ?_;clear hB B hA A)|(apply U;clear U K)|apply dr|refine⟨rfl,?_⟩|refine JR ?_|(constructor<;>intro hc<;>(try rw[hc])<;>(replace hc:=bp hc))|fail)<;>conv=>whnf)
  all_goals first
   | (exfalso;omega)
   | (exfalso;simp_all;omega)
   | exact Ap (.t (.cons (.l (fun h=>by cases h) .nil) (.cons (.refl _) .nil)))
 by_cases hc:0<pick/\pick<(pr.length:Int)
 .have hL:Dc ⟨2,pick,fold⟩ ⟨ar,OM,be,pr,false,af⟩=(pr.reverse.take pick.toNat,false):=by
   simp only[Dc,IY,if_true,LG,if_false,List.length_reverse];rw[if_pos hc]
  obtain⟨hc1,hc2⟩:=hc;rw[hL];refine VH kZ ?_;have hs:=Sn
  conv=>whnf
  repeat'((first|apply st|(refine JQ ?_;intro K U)|(apply si;intro A B hA hB)|(refine hA _ _ ?_;clear hB B hA A)|(apply U;clear U K)|refine JR ?_|fail)<;>conv=>whnf)
  refine c1.use (rest:=[]) (by simpa using hs) ?_;clear hs;rintro r post Z ⟨v,rfl,rfl,hv⟩ hs
  conv=>whnf
  repeat'((first|apply st|(refine JQ ?_;intro K U)|(apply si;intro A B hA hB)|(refine hA _ _ ?_;clear hB B hA A)|(apply U;clear U K)|refine⟨rfl,?_⟩|refine JR ?_|(constructor<;>intro hc<;>(try rw[hc])<;>(replace hc:=bp hc)<;>(try simp(disch:=omega) only[BU,wrap64,AO]at hc)<;>try(exfalso;omega))|fail)<;>conv=>whnf)
  refine(FJ pr v (by omega) hv).use (rest:=[]) hs ?_;clear hs;rintro r post Z ⟨rfl,rfl⟩ hs
  conv=>whnf
  repeat'((first|(refine hA _ _ ?_;clear hB B hA A)|(apply U;clear U K)|fail)<;>conv=>whnf)
  refine Nv hs 0 rfl (fun Z2 h=> .cons (.refl _) (.cons (.refl _) (.cons h .nil))) fun Z hs=>?_
  conv=>whnf
  repeat'((first|apply st|(refine JQ ?_;intro K U)|(apply si;intro A B hA hB)|(refine hA _ _ ?_;clear hB B hA A)|(apply U;clear U K)|refine⟨rfl,?_⟩|refine pH ?_|refine JR ?_|(constructor<;>intro hc<;>(try rw[hc])<;>(replace hc:=bp hc)<;>(try simp(disch:=omega) only[BU,wrap64,AO]at hc)<;>try(exfalso;omega))|clear U K)<;>conv=>whnf)
  all_goals first
   | (exfalso;omega)
   | (exfalso;simp_all;omega)
   | exact Ap L6
 .have hL:Dc ⟨2,pick,fold⟩ ⟨ar,OM,be,pr,false,af⟩=(pr.reverse,false):=by
   simp only[Dc,IY,if_true,LG,if_false,List.length_reverse];rw[if_neg hc]
  rw[hL];refine VH kZ ?_;have hs:=Sn
  conv=>whnf
  repeat'((first|apply st|(refine JQ ?_;intro K U)|(apply si;intro A B hA hB)|(refine hA _ _ ?_;clear hB B hA A)|(apply U;clear U K)|refine JR ?_|fail)<;>conv=>whnf)
  refine c1.use (rest:=[]) (by simpa using hs) ?_;clear hs;rintro r post Z ⟨v,rfl,rfl,hv⟩ hs
  conv=>whnf
  repeat'((first|apply st|(refine JQ ?_;intro K U)|(apply si;intro A B hA hB)|(refine hA _ _ ?_;clear hB B hA A)|(apply U;clear U K)|refine⟨rfl,?_⟩|refine JR ?_|(constructor<;>intro hc<;>(try rw[hc])<;>(replace hc:=bp hc)<;>(try simp(disch:=omega) only[BU,wrap64,AO]at hc)<;>try(exfalso;omega))|fail)<;>conv=>whnf)
  refine(FJ pr v (by omega) hv).use (rest:=[]) hs ?_;clear hs;rintro r post Z ⟨rfl,rfl⟩ hs
  conv=>whnf
  repeat'((first|(refine hA _ _ ?_;clear hB B hA A)|(apply U;clear U K)|fail)<;>conv=>whnf)
  refine Nv hs 0 rfl (fun Z2 h=> .cons (.refl _) (.cons (.refl _) (.cons h .nil))) fun Z hs=>?_
  conv=>whnf
  repeat'((first|apply st|(refine JQ ?_;intro K U)|(apply si;intro A B hA hB)|(refine hA _ _ ?_;clear hB B hA A)|(apply U;clear U K)|apply dr|refine⟨rfl,?_⟩|refine JR ?_|(constructor<;>intro hc<;>(try rw[hc])<;>(replace hc:=bp hc)<;>(try simp(disch:=omega) only[BU,wrap64,AO]at hc)<;>try(exfalso;omega))|fail)<;>conv=>whnf)
  all_goals first
   | (exfalso;omega)
   | (exfalso;simp_all;omega)
   | exact Ap L6
end Go.Gl
namespace Go.Gl
open Go.Proofs
attribute [local irreducible] A3 Aq Af AR AJ Ad AQ AT AK Ac AM AN Ax A5 Sat AX A4 Ah W
def q8 (p : Prog) (l:List Int) (f:Bool) (kd:Bool) (hl:l.length<=1000):Pure zP 22 [.a (A9 p),.l (iL l) f,.b kd] (.b (D8 p l kd)):=by
 refine Pure.fit (by kernel_rfl) fun hf=>?_
 have⟨p1,p2,p3,p4⟩:=Fk hf.1;have hM:=Mx;refine xd kZ ?_;have hs:=Sn
 conv=>whnf
 repeat'((first|apply st|(apply sq;intro K U)|(apply si;intro A B hA hB)|(refine hA _ _ ?_;clear hB B hA A)|(apply U;clear U K)|fail)<;>conv=>whnf)
 refine B0 l.length (fun i (_:Unit)=>[(7,eI (A8 i))]) (fun _ _=>[]) (fun i _=>(∀k y,k<i->l[k]? =some y->aW p l kd y=true)/\(l.take i).Nodup) () rfl ⟨fun k y h=>by omega,by simp⟩ hs ?_;clear hs;rintro i - Z hi ⟨ho,hn⟩ hs;rcases BC l hi with⟨x,hx,hlt⟩|hie
 .have hci:A8 i=i:=AO (by omega)
  obtain⟨z,hz⟩: ∃z,l[0]? =some z:=⟨_,Cy (by omega)⟩
  have hz0:=B4 hz;have c1:=iU p x;have hbad:=fun h=>SJ (p:=p) (kd:=kd) hx h
  rw[aW,hz0]at hbad;cases hmx:BO p x<;>rw[hmx]at c1
  .conv=>whnf
   repeat'((first|apply st|(apply sq;intro K U)|(apply si;intro A B hA hB)|(refine hA _ _ ?_;clear hB B hA A)|(apply U;clear U K)|apply dr|refine⟨rfl,?_⟩|refine⟨kZ,?_⟩|refine ix ?_|refine bA ?_|(refine Uc (fun hc=>?_)<;>(try rw[hc])<;>clear hc)|refine c1.use ?_|clear U K)<;>conv=>whnf)
   all_goals exact AF (by rw[hbad (by rw[hmx];rfl)])
  have hmz:BO p z=true:=by
   rcases Nat.eq_zero_or_pos i with h0|h0
   .rw[h0,hz]at hx
    rw[Option.some.inj hx];exact hmx
   .have:=ho 0 z h0 hz
    simp only[aW,BD]at this;exact this.1
  have hxP:=B9 hmx;have hzP:=B9 hmz;have c2:=aF p x z hmx hmz;have hxr:=hmx;have hzr:=hmz;simp only[BO,BD,CN]at hxr hzr;by_cases hg:(Bi p x).gen=(Bi p z).gen
  .have hoxF:(!kd||DC p x z)=true->aW p l kd x=true:=fun h=>by rw[aW,hz0,hmx,hg,h];simp
   cases hal:DC p x z<;>rw[hal]at c2 hoxF<;>cases kd
   all_goals
    conv=>whnf
    repeat'((first|apply st|(apply sq;intro K U)|(apply si;intro A B hA hB)|(refine hA _ _ ?_;clear hB B hA A)|(apply U;clear U K)|apply dr|refine⟨rfl,?_⟩|refine⟨kZ,?_⟩|refine ix ?_|refine nz ?_|refine df ?_|refine Ox ?_|refine Mq ?_|(refine Uc (fun hc=>?_)<;>(try rw[hc])<;>clear hc)|refine c1.use ?_|refine c2.use ?_|(constructor<;>intro hc<;>(try rw[hc])<;>(replace hc:=bp hc))|clear U K)<;>conv=>whnf)
   all_goals try(exfalso;simp[hg]at hc;done)
   all_goals try exact AF (by rw[hbad (by simp[hal,hg])])
   all_goals
    have hox:=hoxF rfl;refine B0 i (fun k (_:Unit)=>[(8,eI (A8 k))]) (fun _ _=>[]) (fun k _=> ∀k' y,k'<k->l[k']? =some y->y≠x) () rfl (fun k' y h=>by omega) hs ?_;clear hs;rintro k - Z hk hne hs;rcases Nat.lt_or_ge k i with hki|hki
    .obtain⟨y,hy⟩: ∃y,l[k]? =some y:=⟨_,Cy (by omega)⟩
     have hck:A8 k=k:=AO (by omega);by_cases hyx:y=x
     .conv=>whnf
      repeat'((first|apply st|(apply sq;intro K U)|(apply si;intro A B hA hB)|(refine hA _ _ ?_;clear hB B hA A)|(apply U;clear U K)|apply dr|refine⟨rfl,?_⟩|refine ix ?_|(constructor<;>intro hc<;>(try rw[hc])<;>(replace hc:=bp hc)<;>(try simp(disch:=omega) only[BU,wrap64,AO]at hc)<;>try(exfalso;omega))|clear U K)<;>conv=>whnf)
      exact AF (by rw[SI hx (hyx ▸ hy) hki])
     .conv=>whnf
      repeat'((first|apply st|(apply sq;intro K U)|(apply si;intro A B hA hB)|(refine hA _ _ ?_;clear hB B hA A)|(apply U;clear U K)|apply dr|refine⟨rfl,?_⟩|refine ix ?_|(constructor<;>intro hc<;>(try rw[hc])<;>(replace hc:=bp hc)<;>(try simp(disch:=omega) only[BU,wrap64,AO]at hc)<;>try(exfalso;omega))|clear U K)<;>conv=>whnf)
      refine⟨hki,(),rfl,fun k' y' h h2=>?_,hs⟩;rcases Nat.lt_or_ge k' k with h'|h'
      .exact hne k' y' h' h2
      .rw[show k'=k by omega,hy]at h2
       rw[<-Option.some.inj h2];exact hyx
    .have hck:A8 k=k:=AO (by omega)
     conv=>whnf
     repeat'((first|apply st|(apply sq;intro K U)|(apply si;intro A B hA hB)|(refine hA _ _ ?_;clear hB B hA A)|(apply U;clear U K)|refine⟨rfl,?_⟩|(constructor<;>intro hc<;>(try rw[hc])<;>(replace hc:=bp hc)<;>(try simp(disch:=omega) only[BU,wrap64,AO]at hc)<;>try(exfalso;omega))|clear U K)<;>conv=>whnf)
     refine⟨hlt,(),rfl,⟨fun k' y' h h2=>?_,QI hx hn fun k' y' h h2=>hne k' y' (by omega) h2⟩,hs⟩;rcases Nat.lt_or_ge k' i with h'|h'
     .exact ho k' y' h' h2
     .rw[show k'=i by omega,hx]at h2
      rw[<-Option.some.inj h2];exact hox
  .conv=>whnf
   repeat'((first|apply st|(apply sq;intro K U)|(apply si;intro A B hA hB)|(refine hA _ _ ?_;clear hB B hA A)|(apply U;clear U K)|apply dr|refine⟨rfl,?_⟩|refine⟨kZ,?_⟩|refine ix ?_|refine nz ?_|refine Ox ?_|refine Mq ?_|(refine Uc (fun hc=>?_)<;>(try rw[hc])<;>clear hc)|refine c1.use ?_|refine c2.use ?_|(constructor<;>intro hc<;>(try rw[hc])<;>(replace hc:=bp hc))|clear U K)<;>conv=>whnf)
   all_goals try(exfalso;have q:(bif !true then true else(Bi p x).gen != (Bi p z).gen)=false:=(by assumption);simp[hg]at q;done)
   all_goals exact AF (by rw[hbad (by simp[hg])])
 .conv=>whnf
  repeat'((first|apply st|(apply sq;intro K U)|(apply si;intro A B hA hB)|(refine hA _ _ ?_;clear hB B hA A)|(apply U;clear U K)|refine⟨rfl,?_⟩|(refine de (fun hc=>?_)<;>(try rw[hc])<;>clear hc)|clear U K)<;>conv=>whnf)
  have hall:D8 p l kd=true:=by
   rw[D8,BD,E3];refine⟨fun y hy=>?_,decide_eq_true (by rw[hie,List.take_length]at hn;exact hn)⟩;obtain⟨k,hk⟩:=List.getElem?_of_mem hy;exact ho k y (by rw[hie];exact(IN.1 hk).1) hk
  exact AF (by rw[hall])
def iF (p:Prog) (l:List Int) (f:Bool) (hok:EH p) (hG:PC p l) :
    Pure zP 23 [.a (A9 p),.l (iL l) f] (.t [.a (xv (CJ (Ae p) p l).1 (!(CJ (Ae p) p l).2) (!(CJ (Ae p) p l).2)),.b (CJ (Ae p) p l).2]):=by
 refine Pure.of ?_;refine xc kZ ?_;have hs:=Sn
 conv=>whnf
 repeat'((first|apply st|(apply sq;intro K U)|(apply si;intro A B hA hB)|(refine hA _ _ ?_;clear hB B hA A)|(apply U;clear U K)|apply dr|refine⟨kZ,?_⟩|(intro nn hnn;generalize hg:Bd _ nn _=Z;refine RX hg fun hs=>?_;clear hg)|fail)<;>conv=>whnf)
 refine(jm p l f hok hG.many hG.IW).use (rest:=_) (hs.front (j:=0) rfl) ?_;clear hs;rintro r post Z ⟨rfl,T,rfl,hT,hq⟩ hs;have c1:=iG p T l f hG hok.many hT;rw[WZ hG hq]at c1
 conv=>whnf
 repeat'((first|apply st|(refine hA _ _ ?_;clear hB B hA A)|(apply U;clear U K)|apply dr|refine rk ?_ ?_|exact fun s e=>by cases e;rfl|refine⟨kZ,?_⟩|refine ld ?_|refine Ug fun Z hs=>?_|refine c1.use ?_|fail)<;>conv=>whnf)
 all_goals exact AU (by rfl)
end Go.Gl
namespace Go.Gl
open Go.Proofs
def Qk (A:Int->Int->Bool): ∀(k:Nat) (l:List Int),l.length=k->(BQ A k l).1.length<=k/\(BQ A k l).2=decide ((BQ A k l).1.length<k)
 | 0,_,_=>⟨Io _,rfl⟩
 | k + 1,l,h=>by
   rw[BQ];cases hf:D3 A l with
   | none=>
     have:l.isEmpty=false:=by cases l with
      | nil=>simp at h
      | cons=>rfl
     simp[this]
   | some i=>
     have hi:=Sc hf;have hel:=List.length_eraseIdx_of_lt hi;obtain⟨h1,h2⟩:=Qk A k (l.eraseIdx i) (by omega);simp only[LF,Nat.add_lt_add_iff_right,Nat.add_le_add_iff_right];exact⟨h1,h2⟩
def Pf {p:Prog} {l:List Int} (h:(BK p).isSome=true) (h2:D8 p l false=true) (h3:(CJ (Ae p) p l).2=true) :
    ∃m r,l=m::r/\p.methods[m.toNat]? =some (Bi p m)/\0<=m/\m<(p.methods.length:Int)/\0<=(Bi p m).gen/\(Bi p m).gen<(p.Br.length:Int)/\(CJ (Ae p) p l).1.pr.length<=60/\l.length<=16:=by
 have hok:=look_ok h;have hG:=Ty hok h2;cases l with
 | nil=>simp[CJ,Bw]at h3
 | cons m r=>
   have hm:=hG.IW m (.head _);have hx:=B9 hm;have hkm:=(EZ h).2 _ (B1 hx);simp only[OY,BD,CN]at hkm;have hmm:=hm;simp only[BO,BD,CN]at hmm;refine⟨m,r,rfl,hx,hmm.1,hmm.2,hkm.2.2.1,hkm.2.2.2.1,?_,hG.many⟩;have h16:=hG.many;rw[CJ];split
   .simp[vX]
   .have:=(Qk (Ae p) _ (Bw p (m::r) 1) rfl).1
    have:=Tu (p:=p) (l:=m::r) (k:=1);show(Yr (Ae p) p (m::r)).pr.length<=60;simp only[Yr];omega
def NS {xs:List Int} {b:Bool} {t:Bool} {e:Int} {Z:AE}:Ez Z emp (.t [.l (iL xs) b,.b t,eI e]) (.t [.l (iL xs) false,.b t,eI e]):= .t (.cons (.l (fun h=>by cases h) (.refl _ _ _)) (.cons (.refl _) (.cons (.refl _) .nil)))
abbrev lnV (x:(List Int×Bool)×Int):V:= .t [.l (iL x.1.1) false,.b x.1.2,eI x.2]
def SA (x:Pl×Bool):(Yq x).2=if x.2 then 0 else 5:=by cases x with|mk a b=>cases b<;>rfl
attribute [local irreducible] A3 Aq Af AR AJ Ad AQ AT AK Ac AM AN Ax A5 Sat AX A4 Ah W
def xj (p:Prog) (q:W4) (hq:Gt q=true) (l:List Int) (f:Bool) (hl:l.length<=60):Pure zP 13 [.a (A9 p),.a (Mp q),.l (iL l) f] (lnV (Yu p q l)):=by
 have hM:=Mx;have c1:=CheckM p q hq;have c2:=vQ p l f (by omega);rw[Yu];cases h1:Kg p q<;>rw[h1]at c1
 .rw[if_neg (by decide)]at c1
  rw[if_neg (by decide)];refine ee kZ ?_;have hs:=Sn
  conv=>whnf
  repeat'((first|apply st|(apply sq;intro K U)|(apply si;intro A B hA hB)|(refine hA _ _ ?_;clear hB B hA A)|(apply U;clear U K)|refine⟨rfl,?_⟩|refine⟨kZ,?_⟩|refine c1.use ?_|(constructor<;>intro hc<;>(try rw[hc])<;>(replace hc:=bp hc)<;>try(exfalso;omega))|clear U K)<;>conv=>whnf)
  all_goals first
   | exact Ap NS
   | exact Ap (.t (.cons (.l (fun h=>by cases h) .nil) (.cons (.refl _) (.cons (.refl _) .nil))))
 rw[if_pos rfl]at c1;simp only[if_true];rw[Kg,BD]at h1;obtain⟨h1,h2⟩:=h1;have hcl:=(Vs h2).1;have⟨q1,q2,q3⟩:=NI hq;by_cases he:(FE p l).2=0
 rotate_left
 .rw[if_neg he]
  generalize FE p l=x at *;obtain⟨x,e⟩:=x;dsimp only at he c2;refine ee kZ ?_;have hs:=Sn
  conv=>whnf
  repeat'((first|apply st|(apply sq;intro K U)|(apply si;intro A B hA hB)|(refine hA _ _ ?_;clear hB B hA A)|(apply U;clear U K)|refine⟨rfl,?_⟩|refine⟨kZ,?_⟩|refine Ug fun Z hs=>?_|refine c1.use ?_|refine c2.use ?_|(constructor<;>intro hc<;>(try rw[hc])<;>(replace hc:=bp hc)<;>(try simp(disch:=omega) only[BU,wrap64,AO]at hc)<;>try(exfalso;omega))|(intro nn hnn;generalize hg:Bd _ nn _=Z;refine RX hg fun hs=>?_;clear hg)|clear U K)<;>conv=>whnf)
  all_goals first
   | exact Ap NS
   | exact Ap (.t (.cons (.l (fun h=>by cases h) .nil) (.cons (.refl _) (.cons (.refl _) .nil))))
   | (exfalso;omega)
 rw[if_pos he]
 have h3:D8 p l false=true:=by
  cases hb:D8 p l false with
  | true=>rfl
  | false=>simp[FE,hb]at he
 have hb:(CJ (Ae p) p l).2=true:=by
  cases hb:(CJ (Ae p) p l).2 with
  | true=>rfl
  | false=>simp[FE,h1,h3,SA,hb]at he
 have hx:FE p l=((CJ (Ae p) p l).1,0):=by
  simp only[FE,h1,h3,Bool.and_self,if_true,Yq,hb]
 obtain⟨m,r,rfl,hm,m0,m1,g0,g1,hpr,-⟩:=Pf h1 h3 hb;rw[hx]at c2 ⊢;generalize (CJ (Ae p) p (m::r)).1=x at *;obtain⟨c,hcm⟩: ∃c,q.EY[(Bi p m).gen.toNat]? =some c:=⟨_,Cy (by omega)⟩
 have hgd:q.EY.getD (Bi p ((m::r).getD 0 0)).gen.toNat ⟨0,0,0⟩=c:=by
  rw[DH (l:=q.EY),List.getD_cons_zero,hcm];rfl
 simp only[hgd];generalize Bi p m=y at *;have c5:=xB c x true true true false hpr;have hl0:(m::r)[0]? =some m:=rfl;refine ee kZ ?_;have hs:=Sn
 conv=>whnf
 repeat'((first|apply st|(apply sq;intro K U)|(apply si;intro A B hA hB)|(refine hA _ _ ?_;clear hB B hA A)|(apply U;clear U K)|apply dr|refine⟨rfl,?_⟩|refine⟨kZ,?_⟩|refine nz ?_|refine ld ?_|refine Ug fun Z hs=>?_|refine c1.use ?_|refine c2.use ?_|refine c5.use ?_|(constructor<;>intro hc<;>(try rw[hc])<;>(replace hc:=bp hc)<;>(try simp(disch:=omega) only[BU,wrap64,AO]at hc)<;>try(exfalso;omega))|(intro nn hnn;generalize hg:Bd _ nn _=Z;refine RX hg fun hs=>?_;clear hg)|fail)<;>conv=>whnf)
 all_goals first
  | exact Ap NS
  | exact Ap (.t (.cons (.l (fun h=>by cases h) .nil) (.cons (.refl _) (.cons (.refl _) .nil))))
  | (exfalso;omega)
end Go.Gl
namespace Go.Gl
open Go.Proofs
attribute [local irreducible] A3 Aq Af AR AJ Ad AQ AT AK Ac AM AN Ax A5 Sat AX A4 Ah W
attribute [local irreducible] Fz
def vO (p:Prog):Pure zP 24 [.a (A9 p)] (yF p):=by
 have hM:=Mx;have c1:=P3 p;rw[yF];cases h:(BK p).isSome<;>rw[h]at c1
 .rw[if_neg (by decide)]at c1
  rw[if_neg (by decide)];refine ou kZ ?_;have hs:=Sn
  conv=>whnf
  repeat'((first|apply st|(apply sq;intro K U)|(apply si;intro A B hA hB)|(refine hA _ _ ?_;clear hB B hA A)|(apply U;clear U K)|refine⟨rfl,?_⟩|refine⟨kZ,?_⟩|refine ld ?_|refine Ug fun Z hs=>?_|refine c1.use ?_|(constructor<;>intro hc<;>(try rw[hc])<;>(replace hc:=bp hc)<;>try(exfalso;omega))|(intro nn hnn;generalize hg:Bd _ nn _=Z;refine RX hg fun hs=>?_;clear hg)|clear U K)<;>conv=>whnf)
  all_goals first
   | exact AF rfl
 rw[if_pos rfl]at c1;rw[if_pos rfl];obtain⟨h8,h10,-⟩:=JJ h;refine ou kZ ?_;have hs:=Sn
 conv=>whnf
 repeat'((first|apply st|(apply sq;intro K U)|(apply si;intro A B hA hB)|(refine hA _ _ ?_;clear hB B hA A)|(apply U;clear U K)|refine⟨rfl,?_⟩|refine⟨kZ,?_⟩|refine c1.use ?_|(constructor<;>intro hc<;>(try rw[hc])<;>(replace hc:=bp hc)<;>(try simp(disch:=omega) only[BU,wrap64,AO]at hc)<;>try(exfalso;omega))|(intro nn hnn;generalize hg:Bd _ nn _=Z;refine RX hg fun hs=>?_;clear hg)|fail)<;>conv=>whnf)
 rename_i nA _ _ _;generalize nn=nB at *;replace hs:Sat Z [.box nB [.l [] true,.l [] true,.l [] true],.box nA [.l [] true,.l [] true,.l [] true]]:=hs;refine B0 p.Br.length (fun k (_:V)=>[(12,eI (A8 k))]) (fun k v=>[.box nB [v,.l [] true,.l [] true],.box nA [.l [] true,.l [] true,.l [] true],.own v 3 ((List.replicate k IQ).map Ho)]) (fun _ _=>True) (.l [] true) rfl trivial (El hs 3) ?_;clear hs;rintro k v Z hk - hs;have hck:A8 k=k:=AO (by omega);rcases BC p.Br hk with⟨x,hx,hlt⟩|hke
 .rw[Pa]
  have hzl:(List.replicate k IQ).length<=8:=by rw[List.length_replicate];omega
  generalize List.replicate k IQ=zs at *;have hll:zs.length<AY/\(zs.length+1)*24<=140737488355328:=by omega
  conv=>whnf
  repeat'((first|apply st|(apply sq;intro K U)|(apply si;intro A B hA hB)|(refine hA _ _ ?_;clear hB B hA A)|(apply U;clear U K)|refine⟨rfl,?_⟩|refine ld ?_|refine nt fun Z hs=>?_|(refine Uc (fun hc=>?_)<;>(try rw[hc])<;>clear hc)|refine aq (enc:=Ho) (x:=IQ) (fun v Z hs hsl=>?_) (hg:=Vu)|clear U K)<;>conv=>whnf)
  exact⟨hlt,v,rfl,trivial,hs⟩
 rw[hke]at hs
 conv=>whnf
 repeat'((first|apply st|(apply sq;intro K U)|(apply si;intro A B hA hB)|(refine hA _ _ ?_;clear hB B hA A)|(apply U;clear U K)|refine⟨rfl,?_⟩|(refine de (fun hc=>?_)<;>(try rw[hc])<;>clear hc)|clear U K)<;>conv=>whnf)
 refine B0 p.AH.length (fun k (_:V)=>[(24,eI (A8 k))]) (fun k w=>[.box nB [v,.l [] true,w],.box nA [.l [] true,.l [] true,.l [] true],.own v 3 ((List.replicate p.Br.length IQ).map Ho),.own w 1 (iL (List.replicate k (-1)))]) (fun _ _=>True) (.l [] true) rfl trivial (El hs 1) ?_;clear hs;rintro k2 w Z hk2 - hs;have hck2:A8 k2=k2:=AO (by omega);generalize hrw:(List.replicate p.Br.length IQ).map Ho=rows at hs;rcases BC p.AH hk2 with⟨x,hx,hlt⟩|hke2
 .rw[Pa]
  have hzl:(List.replicate k2 (-1:Int)).length<=10:=by rw[List.length_replicate];omega
  generalize List.replicate k2 (-1:Int)=zs at *;have hll:zs.length<AY/\(zs.length+1)*8<=140737488355328:=by omega
  conv=>whnf
  repeat'((first|apply st|(apply sq;intro K U)|(apply si;intro A B hA hB)|(refine hA _ _ ?_;clear hB B hA A)|(apply U;clear U K)|refine⟨rfl,?_⟩|refine ld ?_|refine nt fun Z hs=>?_|refine aq fun v Z hs hsl=>?_|(refine Uc (fun hc=>?_)<;>(try rw[hc])<;>clear hc)|clear U K)<;>conv=>whnf)
  subst hrw;exact⟨hlt,_,rfl,trivial,hs⟩
 rw[hke2]at hs
 conv=>whnf
 repeat'((first|apply st|(apply sq;intro K U)|(apply si;intro A B hA hB)|(refine hA _ _ ?_;clear hB B hA A)|(apply U;clear U K)|refine⟨rfl,?_⟩|refine⟨kZ,?_⟩|refine ld ?_|(refine de (fun hc=>?_)<;>(try rw[hc])<;>clear hc)|clear U K)<;>conv=>whnf)
 have o1:=Gq hs 2 rfl;have o2:=Gq hs 3 rfl;refine Hv hs 1 (vc:=[v,.l [] true,w]) rfl rfl rfl (by simp only[LC,List.all_nil,o1,o2];rfl) (by simp) fun Z hs=>?_
 conv=>whnf
 repeat'((first|apply st|(refine hA _ _ ?_;clear hB B hA A)|(apply U;clear U K)|refine⟨kZ,?_⟩|refine ld ?_|fail)<;>conv=>whnf)
 subst hrw;exact Ap (.t (.cons (.a (.cons (hs.GW 2 rfl) (.cons (.refl _) (.cons (hs.GW 3 rfl) .nil)))) (.cons (.refl _) .nil)))
end Go.Gl
namespace Go.Gl
open Go.Proofs
attribute [local irreducible] A3 Aq Af AR AJ Ad AQ AT AK Ac AM AN Ax A5 Sat AX A4 Ah W
end Go.Gl
