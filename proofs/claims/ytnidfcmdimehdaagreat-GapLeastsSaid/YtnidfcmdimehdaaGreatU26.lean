import Derived.Test.YtnidfcmdimehdaaGreatU14
import Derived.Test.YtnidfcmdimehdaaGreatU15
import Derived.Test.YtnidfcmdimehdaaGreatU18
import Derived.Test.YtnidfcmdimehdaaGreatU21
import Derived.Test.YtnidfcmdimehdaaGreatU23
import Derived.Test.YtnidfcmdimehdaaGreatU25
set_option linter.all false
set_option linter.defProp false
set_option maxHeartbeats 8000000
noncomputable section
namespace Go.Gl
open Go.Proofs
attribute [local irreducible] As Af AV AQ AI AU AP AR AJ AT AM AN Ag Ar Sat AS Ap AX W
def o6 (s c:Nat) (hs0:s<18446744073709551616) (hc:c<64):Pure zP 150 [eU s,eI c] (eU (s|||2 ^ c)):=by
 refine vw kZ ?_;have hs:=Sn
 conv=>whnf
 repeat'((first|clear U K|apply st|(apply zk;intro K U)|fail)<;>conv=>whnf)
 refine⟨Int.natCast_nonneg _,?_⟩;refine zv ?_;(repeat clear U K);repeat intro K U
 exact AF (by rw[FZ,UK hc,HP hs0 (Ge hc)])
def qo (s c:Nat) (hs0:s<18446744073709551616) (hc:c<64):Pure zP 108 [eU s,eI c] (.b (s.testBit c)):=by
 refine wZ kZ ?_;have hs:=Sn
 conv=>whnf
 repeat'((first|clear U K|apply st|(apply zk;intro K U)|fail)<;>conv=>whnf)
 refine⟨Int.natCast_nonneg _,?_⟩;refine zv ?_;(repeat clear U K);repeat intro K U
 refine AF ?_;rw[FZ,UJ hc];have h1:s >>> c<18446744073709551616:=by rw[Nat.shiftRight_eq_div_pow];exact Nat.lt_of_le_of_lt (Nat.div_le_self _ _) hs0
 have h2:bits .and .u64 ((s >>> c:Nat):Int) 1=((s >>> c&&&1:Nat):Int):=F4 h1 (show 1<_ by decide);rw[h2];simp only[Nat.testBit,Nat.and_comm 1];congr 1;rcases Nat.mod_two_eq_zero_or_one (s >>> c)with h|h<;>simp[Nat.and_one_is_mod,h]
def LQ (s:Nat) (c:Int) (hs0:s<18446744073709551616) (h0:0<=c) (hc:c<64):Pure zP 150 [eU s,eI c] (eU (s|||2 ^ c.toNat)):=by
 have:=o6 s c.toNat hs0 (by omega);rw[Int.toNat_of_nonneg h0]at this;exact this
def ZV (s:Nat) (c:Int) (hs0:s<18446744073709551616) (h0:0<=c) (hc:c<64):Pure zP 108 [eU s,eI c] (.b (s.testBit c.toNat)):=by
 have:=qo s c.toNat hs0 (by omega);rw[Int.toNat_of_nonneg h0]at this;exact this
abbrev gW (w:AE) (us:List Nat):List V:=[.l (EF w.parents) false,.l (iL w.owner) false,.l (us.map fun u=>[eU u]) false]
abbrev gv (w:AE) (us:List Nat) (L:Nat):List V:=[.rp (gW w us),.m L]
abbrev fK (b:Nat) (vn vs:V) (k:Kn):List At:=[.box b [eU k.BJ,eU k.Dv,eI k.low,eI k.high,vn,.b k.whole,.b k.Ab,vs],.own vn 1 (iL k.no),.own vs 1 (iL k.AL)]
abbrev Vj (e:Bx):List At:=fK e.b e.vn e.vs e.k
def Bm (L:Nat) (es:List Bx):List At:= .map L (Tf es)::es.flatMap Vj
def JG (L:Nat) (es pre post:List Bx):List At:= .map L (Tf es)::(pre++post).flatMap Vj
def WX (L:Nat) (pre post:List Bx) (e:Bx):(Bm L (pre++e::post)).Perm (Vj e++JG L (pre++e::post) pre post):=by
 unfold Bm JG;rw[List.flatMap_append,List.flatMap_cons,List.flatMap_append];refine List.Perm.trans ?_ (List.perm_middle.symm);refine List.Perm.cons _ ?_;rw[<-NJ,<-NJ];exact List.Perm.append_right _ NF
def Uu {L:Nat} {pre post:List Bx} {e e':Bx} (h1:e'.a=e.a) (h2:e'.p=e.p) (h3:e'.b=e.b):JG L (pre++e'::post) pre post=JG L (pre++e::post) pre post:=by
 rw[JG,JG,RG h1 h2 h3]
def Jp {Z:AD} {X:List At} {L:Nat} {pre post:List Bx} {e:Bx} (h:Sat Z (X++Bm L (pre++e::post))):Sat Z (.box e.b [eU e.k.BJ,eU e.k.Dv,eI e.k.low,eI e.k.high,e.vn,.b e.k.whole,.b e.k.Ab,e.vs]:: .own e.vn 1 (iL e.k.no):: .own e.vs 1 (iL e.k.AL)::(X++JG L (pre++e::post) pre post)):=by
 have h2:Sat Z (Vj e++(X++JG L (pre++e::post) pre post)):=h.perm ((List.Perm.append_left X (WX L pre post e)).trans (by rw[<-NJ,<-NJ];exact NF.append_right _));exact h2
def Dj {Z:AD} {X:List At} {L:Nat} {pre post:List Bx} {e e':Bx} (h1:e'.a=e.a) (h2:e'.p=e.p) (h3:e'.b=e.b) (h:Sat Z (Vj e'++(X++JG L (pre++e::post) pre post))):Sat Z (X++Bm L (pre++e'::post)):=by
 rw[<-Uu h1 h2 h3]at h;exact h.perm ((List.Perm.append_left X (WX L pre post e')).trans (by rw[<-NJ,<-NJ];exact NF.append_right _)).symm
def lH (w:AE) (us:List Nat) {kf:Int->List Int->Kn} {L:Nat} {es:List Bx} (h:Bp kf es) {a:Int} {p:List Int} (hp:p.length<=2) :
    BL zP 151 [.a (gv w us L),CC a p] (Bm L es) fun r post=> ∃es' e,l5 kf es es' a p e/\r= .ret (.p e.b 0)/\post=Bm L es':=by
 intro Z hs;refine oK kZ ?_;unfold Bm at hs;rcases fB a p es with hn|⟨pre,e,post,rfl,he,hpre⟩
 .have hf:=QS hp h.len hn
  conv=>whnf
  repeat'((first|clear U K|apply st|(apply zk;intro K U)|refine zY ?_|refine Nb hs 0 rfl rfl (II _) hf ?_|refine HM hs 1 rfl rfl (II _) fun Z hs=>?_|refine zo fun nn hnn Z hs=>?_|fail)<;>conv=>whnf)
  simp only[List.set_cons_succ,List.set_cons_zero]at hs;change Sat Z (_:: .map L (Dy (CC a p) (.p nn 0) (Tf es))::_)at hs;rw[YA hp nn (.l [] true) (.l [] true) k0 h.len hn]at hs;have hs2:=CM (CM hs 1) 1;refine AH ⟨_,⟨es++[⟨a,p,nn,.l [] true,.l [] true,k0⟩],⟨a,p,nn,.l [] true,.l [] true,k0⟩,⟨h.add hp hn _ _ _,⟨_,rfl,by simp⟩,by simp,by simp[Bx.is]⟩,rfl,rfl⟩,?_⟩;unfold Bm;rw[List.flatMap_append,List.flatMap_cons,List.flatMap_nil,EU];refine hs2.perm ((List.perm_middle (l₁:=[_,_,_])).trans (.cons _ (NF.trans (List.Perm.append_left _ (List.reverse_perm _).symm))))
 .have hf:=QR hp he h.len hpre
  conv=>whnf
  repeat'((first|clear U K|apply st|(apply zk;intro K U)|refine zY ?_|refine Nb hs 0 rfl rfl (II _) hf ?_|fail)<;>conv=>whnf)
  exact AH ⟨_,⟨_,e,⟨h,.refl _,by simp,he⟩,rfl,rfl⟩,hs⟩
def MT (a:Int) (p:List Int) (s:Int) (hp:p.length<2):Pure zP 152 [CC a p,eI s] (CC a (p++[s])):=by
 refine Pure.of ?_;refine vt kZ ?_;have hs:=Sn
 match p,hp with
 | [],_=>
   conv=>whnf
   repeat'((first|clear U K|apply st|(apply zk;intro K U)|refine zY ?_|refine zs fun Z hs=>?_|refine za (fun hc=>?_) fun hc=>?_|refine zo fun nn hnn Z hs=>?_|fail)<;>conv=>whnf)
   all_goals first
    | exact AH rfl
    | (exfalso;simp at hc;done)
 | [x],_=>
   conv=>whnf
   repeat'((first|clear U K|apply st|(apply zk;intro K U)|refine zY ?_|refine zs fun Z hs=>?_|refine za (fun hc=>?_) fun hc=>?_|refine zo fun nn hnn Z hs=>?_|fail)<;>conv=>whnf)
   all_goals first
    | exact AH rfl
    | (exfalso;simp at hc;done)
def yE {b:Nat} {vn vs:V} {k:Kn} (f:Fact) (c:Bool) (hl:f.op=2\/f.op=3\/f.op=4) (hc:f.op=2->0<=f.cls/\f.cls<64) (hm:k.BJ<18446744073709551616) (hn:k.Dv<18446744073709551616) (hno:k.no.length<1000000) (hN: -1000000000<=f.n/\f.n<=1000000000) :
    BL zP 153 [.p b 0,.a (xF f++[.b c])] (fK b vn vs k) fun r post=>r= .ret (.t [])/\ ∃vn',post=fK b vn' vs (Bs k f c):=by
 intro Z hs;have hM:=Mx;refine vr kZ ?_;rw[show xF f++[V.b c]= [eI f.op,eI f.arg,.l (iL f.path) false,eI f.cls,eI f.n,.l (f.kids.map EY) false,.b c] from rfl];have hw:IntKind.i64.wrap (f.n - 1)=f.n - 1:=wrap64 (by omega) (by omega);cases c<;>rcases hl with h2|h3|h4
 .have hE:Bs k f false= {k with BJ:=k.BJ|||2 ^ f.cls.toNat}:=by rw[Bs,if_pos h2,if_neg Bool.false_ne_true]
  rw[hE]
  conv=>whnf
  repeat'((first|clear U K|apply st|(apply zk;intro K U)|refine zY ?_|refine zs fun Z hs=>?_|refine Pure.use (LQ _ _ hm (by omega) (by omega)) ?_|(refine zb (fun hc=>?_) (fun hc=>?_)<;>try exact⟨⟩)|fail)<;>conv=>whnf)
  exact AH ⟨_,⟨rfl,vn,rfl⟩,hs⟩
 .have hE:Bs k f false= {k with high:=if f.n - 1<k.high then f.n - 1 else k.high,whole:=true}:=by rw[Bs,if_neg (by omega),if_pos h3,if_neg Bool.false_ne_true]
  rw[hE]
  conv=>whnf
  repeat'((first|clear U K|apply st|(apply zk;intro K U)|refine zY ?_|refine zs fun Z hs=>?_|(refine zb (fun hc=>?_) (fun hc=>?_)<;>try exact⟨⟩)|fail)<;>conv=>whnf)
  rw[hw]at hs;exact AH ⟨_,⟨rfl,vn,rfl⟩,hs⟩
 .have hE:Bs k f false= {k with low:=if f.n > k.low then f.n else k.low,high:=if f.n<k.high then f.n else k.high,whole:=true}:=by rw[Bs,if_neg (by omega),if_neg (by omega),if_neg Bool.false_ne_true]
  rw[hE]
  conv=>whnf
  repeat'((first|clear U K|apply st|(apply zk;intro K U)|refine zY ?_|refine zs fun Z hs=>?_|(refine zb (fun hc=>?_) (fun hc=>?_)<;>try exact⟨⟩)|fail)<;>conv=>whnf)
  exact AH ⟨_,⟨rfl,vn,rfl⟩,hs⟩
 .have hE:Bs k f true= {k with Dv:=k.Dv|||2 ^ f.cls.toNat}:=by rw[Bs,if_pos h2,if_pos rfl]
  rw[hE]
  conv=>whnf
  repeat'((first|clear U K|apply st|(apply zk;intro K U)|refine zY ?_|refine zs fun Z hs=>?_|refine Pure.use (LQ _ _ hn (by omega) (by omega)) ?_|(refine zb (fun hc=>?_) (fun hc=>?_)<;>try exact⟨⟩)|fail)<;>conv=>whnf)
  exact AH ⟨_,⟨rfl,vn,rfl⟩,hs⟩
 .have hE:Bs k f true= {k with low:=if f.n > k.low then f.n else k.low}:=by rw[Bs,if_neg (by omega),if_pos h3,if_pos rfl]
  rw[hE]
  conv=>whnf
  repeat'((first|clear U K|apply st|(apply zk;intro K U)|refine zY ?_|refine zs fun Z hs=>?_|(refine zb (fun hc=>?_) (fun hc=>?_)<;>try exact⟨⟩)|fail)<;>conv=>whnf)
  exact AH ⟨_,⟨rfl,vn,rfl⟩,hs⟩
 .have hE:Bs k f true= {k with no:=k.no++[f.n]}:=by rw[Bs,if_neg (by omega),if_neg (by omega),if_pos rfl]
  rw[hE]
  conv=>whnf
  repeat'((first|clear U K|apply st|(apply zk;intro K U)|refine zY ?_|refine zs fun Z hs=>?_|refine aq fun v Z hs hsl=>?_|(refine zb (fun hc=>?_) (fun hc=>?_)<;>try exact⟨⟩)|fail)<;>conv=>whnf)
  exact AH ⟨_,⟨rfl,_,rfl⟩,hs⟩
end Go.Gl
namespace Go.Gl
open Go.Proofs
def Va (A B:List (List Fact)):List (List Fact):=A.flatMap fun x=>B.map fun y=>x++y
def Pu (f:Fact) (l:List (Bool->List (List Fact))) (c:Bool):List (List Fact):=
 if f.op=1 then(if c then []else [[]])else
 if f.op=5 then(l.getD 0 (fun _=>[])) (!c)else
 if f.op=6\/f.op=7 then(if c != (f.op==7)then l.getD 0 (fun _=>[]) c++l.getD 1 (fun _=>[]) c else Va (l.getD 0 (fun _=>[]) c) (l.getD 1 (fun _=>[]) c))else
 if c then [[Ca f]]else [[f]]
def CN (f:Fact):Bool->List (List Fact):=f.Fv Pu
def Kp (f:Fact) (c:Bool):CN f c=Pu f (f.kids.map CN) c:=congrFun (Fact.CT Pu f) c
def Fk {A B:List (List Fact)} {l:List Fact}:l∈Va A B↔ ∃x∈A,∃y∈B,l=x++y:=by
 simp only[Va,List.mem_flatMap,GL];constructor
 .rintro⟨x,hx,y,hy,rfl⟩
  exact⟨x,hx,y,hy,rfl⟩
 .rintro⟨x,hx,y,hy,rfl⟩
  exact⟨x,hx,y,hy,rfl⟩
def Oh {w:AE} (f:Fact):An w f=true-> ∀c,∀l∈CN f c,∀x∈l,C1 w x:=by
 induction f using Fact.ind with
 | h f ih=>
   intro h c;have har:=Am f h;have h':=h;rw[Be,A7,DT]at h';rw[Kp,Pu];by_cases h1:f.op=1
   .rw[if_pos h1]
    cases c
    .rw[if_neg (by decide)]
     intro l hl x hx;simp at hl;subst hl;cases hx
    .rw[if_pos rfl]
     intro l hl;cases hl
   rw[if_neg h1];by_cases h5:f.op=5
   .obtain⟨a,ha,hb⟩:=Dt har h5
    rw[if_pos h5,ha];exact ih a (by rw[ha];exact .head _) (h'.2 a (by rw[ha];exact .head _)) (!c)
   rw[if_neg h5];by_cases h6:f.op=6\/f.op=7
   .obtain⟨a,b,ha,hb1,hb2⟩:=Ds har h6
    rw[if_pos h6,ha];have i1:=ih a (by rw[ha];exact .head _) (h'.2 a (by rw[ha];exact .head _)) c;have j1:=ih b (by rw[ha];exact .tail _ (.head _)) (h'.2 b (by rw[ha];exact .tail _ (.head _))) c;simp only[Cn,List.map_nil,List.getD_cons_zero,List.getD_cons_succ];split
    .intro l hl
     rcases Du.1 hl with hl|hl
     .exact i1 l hl
     .exact j1 l hl
    .intro l hl x hx
     obtain⟨y,hy,z,hz,rfl⟩:=Fk.1 hl;rcases Du.1 hx with h|h
     .exact i1 y hy x h
     .exact j1 z hz x h
   .have hr:=C0 f h c
    rw[E5,En,if_neg h1,if_neg h5,if_neg h6]at hr;rw[if_neg h6];exact hr
def RX (f:Fact):arity f=true-> ∀c,∀l∈CN f c,l.length<=lv f:=by
 induction f using Fact.ind with
 | h f ih=>
   intro h c;rw[Kp,JH,Pu,Xj];by_cases h1:f.op=1
   .have e5: ¬f.op=5:=by omega
    have e6: ¬(f.op=6\/f.op=7):=by omega
    rw[if_pos h1,if_neg e5,if_neg e6];cases c
    .rw[if_neg (by decide)]
     exact fun l hl=>by simp at hl;subst hl;simp
    .rw[if_pos rfl]
     exact fun l hl=>by cases hl
   rw[if_neg h1];by_cases h5:f.op=5
   .obtain⟨a,ha,hb⟩:=Dt h h5
    rw[if_pos h5,if_pos h5,ha];exact ih a (by rw[ha];exact .head _) hb (!c)
   rw[if_neg h5,if_neg h5];by_cases h6:f.op=6\/f.op=7
   .obtain⟨a,b,ha,hb1,hb2⟩:=Ds h h6
    rw[if_pos h6,if_pos h6,ha];simp only[Cn,List.map_nil,List.getD_cons_zero,List.getD_cons_succ];have i2:=ih a (by rw[ha];exact .head _) hb1 c;have j2:=ih b (by rw[ha];exact .tail _ (.head _)) hb2 c;split
    .intro l hl
     rcases Du.1 hl with hl|hl
     .have:=i2 l hl;omega
     .have:=j2 l hl;omega
    .intro l hl
     obtain⟨x,hx,y,hy,rfl⟩:=Fk.1 hl;have:=i2 x hx;have:=j2 y hy;rw[Kt];omega
   .rw[if_neg h6,if_neg h6]
    cases c
    .exact fun l hl=>by simp at hl;subst hl;simp
    .exact fun l hl=>by simp at hl;subst hl;simp
def RY {w : AE} {M:Int->JB} (f:Fact):An w f=true-> ∀c,(∃l∈CN f c,∀x∈l,Eh w M x)↔Tg w M f= !c:=by
 induction f using Fact.ind with
 | h f ih=>
   intro h c;have har:=Am f h;have h':=h;rw[Be,A7,DT]at h';have hF:=E4 (M:=M) f h c;rw[E5,En]at hF;rw[Kp,Pu];by_cases h1:f.op=1
   .rw[if_pos h1]at hF ⊢
    exact hF
   rw[if_neg h1]at hF ⊢;by_cases h5:f.op=5
   .obtain⟨a,ha,hb⟩:=Dt har h5
    have i1:=ih a (by rw[ha];exact .head _) (h'.2 a (by rw[ha];exact .head _)) (!c);have k1:=E4 (M:=M) a (h'.2 a (by rw[ha];exact .head _)) (!c);rw[if_pos h5,ha]at hF ⊢;exact(i1.trans k1.symm).trans hF
   rw[if_neg h5]at hF ⊢;by_cases h6:f.op=6\/f.op=7
   .obtain⟨a,b,ha,hb1,hb2⟩:=Ds har h6
    have hna:=h'.2 a (by rw[ha];exact .head _);have hnb:=h'.2 b (by rw[ha];exact .tail _ (.head _));have i1:=(ih a (by rw[ha];exact .head _) hna c).trans (E4 (M:=M) a hna c).symm;have j1:=(ih b (by rw[ha];exact .tail _ (.head _)) hnb c).trans (E4 (M:=M) b hnb c).symm;rw[if_pos h6,ha]at hF ⊢;simp only[Cn,List.map_nil,List.getD_cons_zero,List.getD_cons_succ]at hF ⊢;refine Iff.trans ?_ hF;split
    .constructor
     .rintro⟨l,hl,hx⟩
      rcases Du.1 hl with hl|hl
      .obtain⟨m,h1,h2⟩:=i1.1 ⟨l,hl,hx⟩
       exact⟨m,NK _ h1,h2⟩
      .obtain⟨m,h1,h2⟩:=j1.1 ⟨l,hl,hx⟩
       exact⟨m,Lu _ h1,h2⟩
     .rintro⟨l,hl,hx⟩
      rcases Du.1 hl with hl|hl
      .obtain⟨m,h1,h2⟩:=i1.2 ⟨l,hl,hx⟩
       exact⟨m,NK _ h1,h2⟩
      .obtain⟨m,h1,h2⟩:=j1.2 ⟨l,hl,hx⟩
       exact⟨m,Lu _ h1,h2⟩
    .constructor
     .rintro⟨l,hl,hx⟩
      obtain⟨y,hy,z,hz,rfl⟩:=Fk.1 hl;obtain⟨m,h1,h2⟩:=i1.1 ⟨y,hy,fun x h=>hx x (NK _ h)⟩;obtain⟨n,h3,h4⟩:=j1.1 ⟨z,hz,fun x h=>hx x (Lu _ h)⟩;refine⟨CL m n,?_,(Ml m _ n).2 ⟨h2,h4⟩⟩;simp only[DU,List.mem_flatMap,GL];exact⟨m,h1,n,h3,rfl⟩
     .rintro⟨l,hl,hx⟩
      simp only[DU,List.mem_flatMap,GL]at hl;obtain⟨y,hy,z,hz,rfl⟩:=hl;rw[Ml]at hx;obtain⟨m,h1,h2⟩:=i1.2 ⟨y,hy,hx.1⟩;obtain⟨n,h3,h4⟩:=j1.2 ⟨z,hz,hx.2⟩;refine⟨m++n,Fk.2 ⟨m,h1,n,h3,rfl⟩,fun x hx=>?_⟩;rcases Du.1 hx with h|h
      .exact h2 x h
      .exact h4 x h
   .rw[if_neg h6]at hF ⊢
    exact hF
def JY (tog:List Fact->Bool):List (List (List Fact))->List Fact->Bool
 | [],l=>tog l
 | cs::r,l=>tog l&&cs.any fun c=>JY tog r (l++c)
def QB {w:AE} {tog:List Fact->Bool} {OK:(Int->JB)->Prop} (htog: ∀l,(∀x∈l,C1 w x)->(tog l=true↔ ∃M,OK M/\ ∀x∈l,Eh w M x)): ∀(css:List (List (List Fact))) (l:List Fact),(∀x∈l,C1 w x)->(∀cs∈css,∀c∈cs,∀x∈c,C1 w x)->
    (JY tog css l=true↔ ∃M,OK M/\(∀x∈l,Eh w M x)/\ ∀cs∈css,∃c∈cs,∀x∈c,Eh w M x)
 | [],l,hl,_=>by
   rw[JY,htog l hl];constructor
   .rintro⟨M,h1,h2⟩
    exact⟨M,h1,h2,fun _ h=>by cases h⟩
   .rintro⟨M,h1,h2,_⟩
    exact⟨M,h1,h2⟩
 | cs::r,l,hl,hcs=>by
   have ih:=fun c (hc:c∈cs)=>QB htog r (l++c) (fun x hx=>(Du.1 hx).elim (hl x) (hcs cs (.head _) c hc x)) (fun d hd=>hcs d (.tail _ hd))
   rw[JY,A7,G1];constructor
   .rintro⟨_,c,hc,h⟩
    obtain⟨M,h1,h2,h3⟩:=(ih c hc).1 h;refine⟨M,h1,fun x hx=>h2 x (NK _ hx),fun d hd=>?_⟩;rcases Ff.1 hd with rfl|hd
    .exact⟨c,hc,fun x hx=>h2 x (Lu _ hx)⟩
    .exact h3 d hd
   .rintro⟨M,h1,h2,h3⟩
    obtain⟨c,hc,h4⟩:=h3 cs (.head _);refine⟨(htog l hl).2 ⟨M,h1,h2⟩,c,hc,(ih c hc).2 ⟨M,h1,fun x hx=>(Du.1 hx).elim (h2 x) (h4 x),fun d hd=>h3 d (.tail _ hd)⟩⟩
def Pg (fs:List (Fact×Bool)):List (List (List Fact)):=fs.map fun x=>BC x.1 (!x.2)
def bg (fs:List (Fact×Bool)):List (List (List Fact)):=fs.map fun x=>CN x.1 (!x.2)
def jA {w:AE} {tog:List Fact->Bool} {OK:(Int->JB)->Prop} (htog: ∀l,(∀x∈l,C1 w x)->(tog l=true↔ ∃M,OK M/\ ∀x∈l,Eh w M x)) {fs:List (Fact×Bool)} (hn: ∀x∈fs,An w x.1=true) :
    JY tog (Pg fs) []=true↔ ∃M,OK M/\ ∀x∈fs,Tg w M x.1=x.2:=by
 rw[QB htog (Pg fs) [] (fun _ h=>by cases h) (fun cs hcs=>by
  obtain⟨x,hx,rfl⟩:=GL.1 hcs
  exact C0 x.1 (hn x hx) _)]
 constructor
 .rintro⟨M,h1,_,h3⟩
  exact⟨M,h1,fun x hx=>by simpa using(E4 x.1 (hn x hx) (!x.2)).1 (h3 _ (GL.2 ⟨x,hx,rfl⟩))⟩
 .rintro⟨M,h1,h2⟩
  refine⟨M,h1,(fun _ h=>by cases h),fun cs hcs=>?_⟩;obtain⟨x,hx,rfl⟩:=GL.1 hcs;exact(E4 x.1 (hn x hx) (!x.2)).2 (by simpa using h2 x hx)
def iz {w:AE} {tog:List Fact->Bool} {OK:(Int->JB)->Prop} (htog: ∀l,(∀x∈l,C1 w x)->(tog l=true↔ ∃M,OK M/\ ∀x∈l,Eh w M x)) {fs:List (Fact×Bool)} (hn: ∀x∈fs,An w x.1=true) :
    JY tog (bg fs) []=true↔ ∃M,OK M/\ ∀x∈fs,Tg w M x.1=x.2:=by
 rw[QB htog (bg fs) [] (fun _ h=>by cases h) (fun cs hcs=>by
  obtain⟨x,hx,rfl⟩:=GL.1 hcs
  exact Oh x.1 (hn x hx) _)]
 constructor
 .rintro⟨M,h1,_,h3⟩
  exact⟨M,h1,fun x hx=>by simpa using(RY x.1 (hn x hx) (!x.2)).1 (h3 _ (GL.2 ⟨x,hx,rfl⟩))⟩
 .rintro⟨M,h1,h2⟩
  refine⟨M,h1,(fun _ h=>by cases h),fun cs hcs=>?_⟩;obtain⟨x,hx,rfl⟩:=GL.1 hcs;exact(RY x.1 (hn x hx) (!x.2)).2 (by simpa using h2 x hx)
def E9 (E:List Bool->Bool):Nat->List Bool->List (List Bool)
 | 0,pre=>if E pre then [pre]else []
 | k+1,pre=>if E pre then E9 E k (pre++[false])++E9 E k (pre++[true])else []
def I3 {E E':List Bool->Bool} (h: ∀l,E l=E' l): ∀(k:Nat) (pre:List Bool),E9 E k pre=E9 E' k pre
 | 0,pre=>by rw[E9,E9,h]
 | k+1,pre=>by rw[E9,E9,h,I3 h k,I3 h k]
def We {E:List Bool->Bool}: ∀(k:Nat) (pre l:List Bool),l∈E9 E k pre->l.length=pre.length+k/\pre <+: l/\E l=true
 | 0,pre,l,h=>by
   rw[E9]at h;split at h
   .rename_i he
    rw[JT]at h;subst h;exact⟨rfl,List.prefix_refl _,he⟩
   .cases h
 | k + 1,pre,l,h=>by
   rw[E9]at h;split at h
   .rcases Du.1 h with h|h
    all_goals
     obtain⟨h1,h2,h3⟩:=We k _ l h;rw[Kt,List.length_singleton]at h1;exact⟨by omega,(List.prefix_append _ _).trans h2,h3⟩
   .cases h
def Wd {E:List Bool->Bool} (hE: ∀a b,E (a++b)=true->E a=true): ∀(k:Nat) (pre l:List Bool),l.length=k->E (pre++l)=true->pre++l∈E9 E k pre
 | 0,pre,l,hl,h=>by
   obtain rfl:=VA.1 hl;rw[EU]at h ⊢;rw[E9,if_pos h];exact .head _
 | k+1,pre,[],hl,_=>by cases hl
 | k+1,pre,b::l,hl,h=>by
   rw[E9,if_pos (hE _ _ h)];have e:pre++b::l=pre++[b]++l:=by simp
   rw[e]at h ⊢;have:=Wd hE k (pre++[b]) l (by simpa using hl) h;cases b
   .exact NK _ this
   .exact Lu _ this
def Tn (tog:List Fact->Bool) (fs:List Fact) (bs:List Bool):Bool:=JY tog (Pg (fs.zip bs)) []
def C9 (tog:List Fact->Bool) (fs:List Fact) (bs:List Bool):Bool:=JY tog (bg (fs.zip bs)) []
def IJ {w:AE} {tog:List Fact->Bool} {OK:(Int->JB)->Prop} (htog: ∀l,(∀x∈l,C1 w x)->(tog l=true↔ ∃M,OK M/\ ∀x∈l,Eh w M x)) {fs:List Fact} (hn: ∀f∈fs,An w f=true) (bs:List Bool) :
    Tn tog fs bs=true↔ ∃M,OK M/\ ∀x∈fs.zip bs,Tg w M x.1=x.2:=jA htog fun x hx=>hn x.1 (List.of_mem_zip hx).1
def Kq {w:AE} {tog:List Fact->Bool} {OK:(Int->JB)->Prop} (htog: ∀l,(∀x∈l,C1 w x)->(tog l=true↔ ∃M,OK M/\ ∀x∈l,Eh w M x)) {fs:List Fact} (hn: ∀f∈fs,An w f=true) (bs:List Bool) :
    C9 tog fs bs=true↔ ∃M,OK M/\ ∀x∈fs.zip bs,Tg w M x.1=x.2:=iz htog fun x hx=>hn x.1 (List.of_mem_zip hx).1
def l6 {fs:List Fact} {a b:List Bool} {x:Fact×Bool} (h:x∈fs.zip a):x∈fs.zip (a++b):=by
 induction fs generalizing a with
 | nil=>cases h
 | cons f r ih=>
   cases a with
   | nil=>cases h
   | cons c a=>
     rw[List.zip_cons_cons]at h;rw[List.cons_append,List.zip_cons_cons];rcases Ff.1 h with rfl|h
     .exact .head _
     .exact .tail _ (ih h)
def kR {w:AE} {tog:List Fact->Bool} {OK:(Int->JB)->Prop} (htog: ∀l,(∀x∈l,C1 w x)->(tog l=true↔ ∃M,OK M/\ ∀x∈l,Eh w M x)) {fs:List Fact} (hn: ∀f∈fs,An w f=true) (a b:List Bool) (h:Tn tog fs (a++b)=true):Tn tog fs a=true:=by
 obtain⟨M,h1,h2⟩:=(IJ htog hn _).1 h;exact(IJ htog hn _).2 ⟨M,h1,fun x hx=>h2 x (l6 hx)⟩
end Go.Gl
namespace Go.Gl
open Go.Proofs
attribute [local irreducible] As Af AV AQ AI AU AP AR AJ AT AM AN Ag Ar Sat AS Ap AX W
def NY (w:AE) (f:Fact):Bool:=decide (0<=f.arg)&&(decide (f.arg<3)&&(Ex w f.path&&(if f.op=2 then f.n==0&&R3 w f.cls else f.cls==0&&(decide (-1000000000<=f.n)&&decide (f.n<=1000000000)))))
def Ez (w:AE) (f:Fact):Int->Int->Bool×Int:=f.Fv fun f l left deep=>
 if IntKind.i64.wrap (left - 1)<0\/deep=0\/f.op<1\/7<f.op\/f.kids.length≠B2 f.op then(false,IntKind.i64.wrap (left - 1))else
 if Bu f then(NY w f,IntKind.i64.wrap (left - 1))else
 if f.arg≠0\/0<f.path.length\/f.cls≠0\/f.n≠0 then(false,IntKind.i64.wrap (left - 1))else
 By (fun(k:Int->Int->Bool×Int) s=>k s (deep - 1)) l (IntKind.i64.wrap (left - 1))
def Mw {α β S:Type} (g:α->β) (stp:β->S->Bool×S): ∀(l:List α) (s:S),By stp (l.map g) s=By (fun a s=>stp (g a) s) l s
 | [],_=>rfl
 | a::r,s=>by simp only[Cn,By,Mw g stp r]
def ID (w:AE) (f:Fact) (left deep:Int):Ez w f left deep =
    if IntKind.i64.wrap (left - 1)<0\/deep=0\/f.op<1\/7<f.op\/f.kids.length≠B2 f.op then(false,IntKind.i64.wrap (left - 1))else
    if Bu f then(NY w f,IntKind.i64.wrap (left - 1))else
    if f.arg≠0\/0<f.path.length\/f.cls≠0\/f.n≠0 then(false,IntKind.i64.wrap (left - 1))else
    By (fun k s=>Ez w k s (deep - 1)) f.kids (IntKind.i64.wrap (left - 1)):=by
 rw[Ez,Fact.CT,Mw];rfl
def ZR {w:AE} {f:Fact} {left deep L1:Int} {b:Bool} {nL:Nat} {Z:AD} (hs:Sat Z [.box nL [eI L1]]) (h:Ez w f left deep=(b,L1)):Af Z (.b b) fun r Z'=> ∃post:List At,(r=R.ret (.b (Ez w f left deep).1)/\post= [.box nL [eI (Ez w f left deep).2]])/\Sat Z' post:=by
 rw[h];exact AH ⟨_,⟨rfl,rfl⟩,hs⟩
def mz (w:AE) (us:List Nat) (hw1:w.parents.length<=60) (hw2:w.owner.length<=60) (nL:Nat) (f:Fact): ∀(left deep:Int),0<=deep->deep<=12->
    BL zP 184 [.rp (wC w us),.a (xF f),.p nL 0,eI deep] [.box nL [eI left]] fun r post=>r= .ret (.b (Ez w f left deep).1)/\post= [.box nL [eI (Ez w f left deep).2]]:=by
 induction f using Fact.ind with
 | h f ih=>
   intro left deep hd0 hd1 Z hs;refine As.fit (by kernel_rfl) fun hf=>?_
   have⟨h2,h3,h4⟩:=JK hf.2.1;have hM:=Mx;have hdw:IntKind.i64.wrap (deep - 1)=deep - 1:=wrap64 (by omega) (by omega);refine vH kZ ?_
   have hstep:Cq zP (.f (.func 233) [] [.rp [.rp (wC w us)],.rp [.p nL 0],.rp [eI deep]]) (fun y=> .a (xF y)) (fun s=>[.box nL [eI s]]) (fun k s=>Ez w k s (deep - 1)) (fun y _=>y∈f.kids/\deep≠0):=by
    rintro y s ⟨hy,hdn⟩ Z hs;refine A6 ?_;show As zP 233 ([]++[.a (xF y)]++[.rp [.rp (wC w us)],.rp [.p nL 0],.rp [eI deep]]) Z _;refine uZ kZ ?_;refine zz ?_;(repeat clear U K);repeat intro K U
    rw[hdw];refine(ih y hy s (deep - 1) (by omega) (by omega)).use (rest:=[]) hs ?_;rintro r post Z ⟨rfl,rfl⟩ hs;refine zz ?_;(repeat clear U K);repeat intro K U
    exact AH ⟨rfl,hs⟩
   conv=>whnf
   repeat'((first|clear U K|apply st|(apply zk;intro K U)|refine zY ?_|refine rk ?_ ?_|exact fun s e=>by cases e;rfl|refine zs fun Z hs=>?_|refine Pure.use (Uc _) ?_|refine Pure.use (nT _) ?_|refine Pure.use (kH w us _ hw1) ?_|refine Pure.use (mf w us _ _ hw2) ?_|(refine zd (fun hc=>?_) (fun hc=>?_)<;>try exact⟨⟩)|fail)<;>conv=>whnf)
   all_goals first
    | (refine ZR hs ?_;rw[ID,if_pos (by omega)];done)
    | (refine ZR hs ?_;rw[ID,if_neg (by omega),if_pos (by assumption)];simp[NY, *];done)
    | (refine ZR hs ?_;rw[ID,if_neg (by omega),if_pos (by assumption)];simp[NY, *];intros;omega)
    | (refine ZR hs ?_;rw[ID,if_neg (by omega),if_neg (by simp[*]),if_pos (by omega)];done)
    | skip
   refine(iD 233 [] _ _ _ _ hstep f.kids false (IntKind.i64.wrap (left - 1)) h2 (Hf fun y hy _=>⟨hy,by omega⟩)).use (rest:=[]) hs ?_;have hE:=ID w f left deep;rw[if_neg (by omega),if_neg (by simp[*]),if_neg (by omega)]at hE;rw[<-hE];rintro r post Z ⟨rfl,rfl⟩ hs;refine zz ?_;(repeat clear U K);repeat intro K U
   exact AH ⟨_,⟨rfl,rfl⟩,hs⟩
def K7 (w:AE) (f:Fact):Bool:=(Ez w f 24 12).1
def dI (w:AE) (us:List Nat) (hw1:w.parents.length<=60) (hw2:w.owner.length<=60) (f:Fact):Pure zP 183 [.a (xF f),.rp [.rp (wC w us)]] (.b (K7 w f)):=by
 refine Pure.of ?_;refine vI kZ ?_;have hs:=Sn
 conv=>whnf
 repeat'((first|clear U K|apply st|(apply zk;intro K U)|refine zY ?_|refine zs fun Z hs=>?_|refine zo fun nn hnn Z hs=>?_|fail)<;>conv=>whnf)
 refine(mz w us hw1 hw2 _ f 24 12 (by omega) (by omega)).use (rest:=[]) hs ?_;rintro r post Z ⟨rfl,rfl⟩ hs;refine zz ?_;(repeat clear U K);repeat intro K U
 exact AH rfl
def og {g:FuncId} {fi ca:List V} {f:Fact->Bool} {xs:List Fact} (b:Bool) (hl:xs.length<=AZ) (h: ∀y∈xs,Pure zP g (fi++[.a (xF y)]++ca) (.b (f y))):Pure zP 182 [.l (facts xs) b,.f (.func g) fi ca] (.b (xs.all f)):=by
 have:=iD g fi ca (fun _=>[]) (fun y (_:Unit)=>(f y,())) (fun y _=>y∈xs) (fun y s hy Z hs=>A6 (As.mono ((h y hy).use (k:=fun v Z'=>v= .b (f y)/\Sat Z' []) (kp:=fun _ _=>False) ⟨rfl,Sat.nil⟩) (by
  rintro(v|v) Z' hq
  .obtain⟨rfl,h⟩:=hq
   exact⟨rfl,h⟩
  .exact hq.elim))) xs b () hl (Hf fun y hy _=>hy)
 rw[Kr]at this;exact Pure.of (As.mono (this emp Sat.nil) fun r Z' ⟨post,⟨h1,h2⟩,h3⟩=>h1)
def dK (w:AE) (us:List Nat) (hw1:w.parents.length<=60) (hw2:w.owner.length<=60) (l:List Fact) (b:Bool) (hl:l.length<=60):Pure zP 119 [.rp (wC w us),.l (facts l) b] (.b (l.all (K7 w))):=by
 have hall:=og (g:=183) (fi:=[]) (ca:=[.rp [.rp (wC w us)]]) (f:=K7 w) (xs:=l) b (by simp only[AZ];omega) fun y _=>dI w us hw1 hw2 y
 refine wS kZ ?_;have hs:=Sn;exact zW
def UP (w:AE) (hw:CS w) (l:List Fact) (b:Bool) (hl:l.length<=60):Pure zP 77 [.a (Ax w),.l (facts l) b] (.t [.rp (wC w (BR w.parents)),.b (l.all (K7 w))]):=by
 have hfo:=dK w (BR w.parents) (by have:=hw.1.1;omega) (by have:=hw.2.1;omega) l b hl;refine y3 kZ ?_;have hs:=Sn
 conv=>whnf
 repeat'((first|clear U K|apply st|(apply zk;intro K U)|refine zY ?_|refine Pure.use (mq w hw) ?_|refine hfo.use ?_|fail)<;>conv=>whnf)
 all_goals exact AF rfl
def dj (w:AE) (hw:CS w) (f:Fact):Pure zP 116 [.a (Ax w),.a (xF f)] (eI (if K7 w f then 0 else 2)):=by
 have hfo: ∀b,Pure zP 77 [.a (Ax w),.l [EY f] b] (.t [.rp (wC w (BR w.parents)),.b (K7 w f)]):=fun b=>by
  have:=UP w hw [f] b (by simp);simpa using this
 refine wV kZ ?_;have hs:=Sn;refine zz ?_;(repeat clear U K);repeat intro K U
 rw[A9]at hfo;refine(hfo _).use ?_
 conv=>whnf
 repeat'((first|clear U K|apply st|(apply zk;intro K U)|refine Pure.use (Yb _) ?_|fail)<;>conv=>whnf)
 exact AF rfl
abbrev Ja (l:Fact):List V:=xF (Ac l).1++[.b (Ac l).2]
abbrev Dx (ls:List Fact):List (List V):=ls.map Ja
def Zp (xs ys:List Int) (f g:Bool):Pure zP 45 [.l (iL xs) f,.l (iL ys) g] (.b (xs==ys)):=by
 refine Pure.fit (by kernel_rfl) fun hf=>?_
 have hx:=L8 hf.1;have hy:=L8 hf.2.1;have hM:=Mx;refine zS kZ ?_;have hs:=Sn
 conv=>whnf
 repeat'((first|clear U K|apply st|(apply zk;intro K U)|refine zY ?_|(refine zd (fun hc=>?_) (fun hc=>?_)<;>try exact⟨⟩)|fail)<;>conv=>whnf)
 .exact AF (by(have:(xs==ys)=false:=by(simp;intro e;subst e;simp at hc));rw[this])
 have hl:xs.length=ys.length:=by omega
 refine Ba xs.length (fun k (_:Unit)=>[(13,eI (Au k))]) (fun _ _=>[]) (fun k _=>(xs==ys)=(xs.drop k==ys.drop k)) () rfl rfl Sat.nil ?_;clear hs;rintro k - Z hk hn hs;rcases Aw xs hk with⟨x,hxk,hlt⟩|hke
 .obtain⟨y,hyk⟩: ∃y,ys[k]? =some y:=⟨_,CQ (by omega)⟩
  rw[drop_cons hxk,drop_cons hyk]at hn
  conv=>whnf
  repeat'((first|clear U K|apply st|(apply zk;intro K U)|refine zY ?_|refine za (fun hc=>?_) fun hc=>?_|fail)<;>conv=>whnf)
  .exact AF (by rw[hn];simp[*])
  .exact⟨hlt,(),rfl,by rw[hn];simp[*],hs⟩
 .refine zz ?_;(repeat clear U K);repeat intro K U
  exact AF (by rw[hn,Ad hke,Ad (by omega)];rfl)
def nQ (a b:Bool) (u:V):Pure zP 235 [.l [] a,.l [] b,u] (.b true):=by
 refine gV kZ ?_;have hs:=Sn;have hM:=Mx
 conv=>whnf
 repeat'((first|clear U K|apply st|(apply zk;intro K U)|refine zY ?_|(refine zb (fun hc=>?_) (fun hc=>?_)<;>try exact⟨⟩)|fail)<;>conv=>whnf)
 refine Ba 0 (fun k (_:Unit)=>[(17,eI (Au k))]) (fun _ _=>[]) (fun _ _=>True) () rfl trivial Sat.nil ?_;clear hs;rintro k - Z hk - hs;obtain rfl:k=0:=by omega
 conv=>whnf
 repeat'((first|clear U K|apply st|(apply zk;intro K U)|refine zY ?_|(refine zd (fun hc=>?_) (fun hc=>?_)<;>try exact⟨⟩)|fail)<;>conv=>whnf)
 .exfalso
  simp at hc
 .exact AF rfl
def mQ (f g:Fact) (hf:f.kids= []) (hg:g.kids= []):Pure zP 188 [.a (xF f),.a (xF g)] (.b (CR f g)):=by
 have e:CR f g=(f.op==g.op&&(f.arg==g.arg&&(f.cls==g.cls&&(f.n==g.n&&f.path==g.path)))):=by
  rw[J0,hf,hg];simp[Jm]
 obtain⟨o,a,p,c,n,k⟩:=f;obtain⟨o',a',p',c',n',k'⟩:=g;simp only[Fact.kids]at hf hg;subst hf;subst hg;refine gh kZ ?_;have hs:=Sn;rw[e]
 conv=>whnf
 repeat'((first|clear U K|apply st|(apply zk;intro K U)|refine zY ?_|refine Pure.use (Zp _ _ _ _) ?_|refine Pure.use (nQ _ _ _) ?_|refine za (fun hc=>?_) fun hc=>?_|fail)<;>conv=>whnf)
 all_goals simp only[Fact.op,Fact.arg,Fact.cls,Fact.n,Fact.path]at *
 all_goals exact AF (by simp[*])
def T8:Dp Ja 7:=fun l=>by
 refine⟨rfl,fun v hv=>?_⟩;rcases Du.1 hv with hv|hv
 .exact(GD (Ac l).1).2 v (by show v∈EY (Ac l).1;rw[A9];exact hv)
 .simp at hv;subst hv;rfl
def SJ (x y:Fact):Bool:=(Ac x).2==(Ac y).2&&CR (Ac x).1 (Ac y).1
abbrev ZT (l:Fact):Prop:=(Ac l).1.kids= []
abbrev qa (f:Fact->Bool):Fact->Unit->Bool×Unit:=fun y _=>(f y,())
def mR (x:Fact) (hx1:ZT x) (n:Nat):Cq zP (.f (.func 187) [] [.p n 0]) (fun y=> .a (Ja y)) (fun _:Unit=>[.box n (Ja x)]) (qa (SJ x)) (fun y _=>ZT y):=by
 intro y s hy1 Z hs;refine A6 ?_;show As zP 187 ([]++[.a (Ja y)]++[.p n 0]) Z _;refine vE kZ ?_;unfold SJ
 conv=>whnf
 repeat'((first|clear U K|apply st|(apply zk;intro K U)|refine zY ?_|refine Pure.use (mQ _ _ hx1 hy1) ?_|refine za (fun hc=>?_) fun hc=>?_|fail)<;>conv=>whnf)
 all_goals exact AH ⟨by simp[qa, *],hs⟩
section
variable {S:Type} (g:FuncId) (fi ca:List V) (H:S->List At)
def SE (stp:Fact->S->Bool×S) (D:Fact->S->Prop) {v:V} {xs:List Fact} (hst:Cq zP (.f (.func g) fi ca) (fun y=> .a (Ja y)) (fun s=> .own v 7 (Dx xs)::H s) stp D) (hxl:xs.length<=AZ) (s0:S) (hd:Tc stp D xs s0) :
    BL zP 234 [v,.f (.func g) fi ca] (.own v 7 (Dx xs)::H s0) fun r post=>r= .ret (eI (Bc stp xs 0 s0).1)/\post= .own v 7 (Dx xs)::H (Bc stp xs 0 s0).2:=by
 intro Z hs;have hM:=Mx;refine uY kZ ?_;refine zz ?_;(repeat clear U K);repeat intro K U
 refine Ba xs.length (fun k (_:S)=>[(8,eI (Au k))]) (fun _ s=> .own v 7 (Dx xs)::H s) (fun k s=>Tc stp D (xs.drop k) s/\Bc stp xs 0 s0=Bc stp (xs.drop k) k s) s0 rfl ⟨hd,rfl⟩ hs ?_;clear hs;rintro k s Z hk ⟨hd,hn⟩ hs;have hck:Au k=k:=AW (by omega);rcases Aw xs hk with⟨y,hy,hlt⟩|hke
 .rw[drop_cons hy]at hn hd
  obtain⟨hd1,hd2⟩:=hd;rw[Bc]at hn
  conv=>whnf
  repeat'((first|clear U K|apply st|(apply zk;intro K U)|refine zY ?_|refine ze fun x hx=>?_|fail)<;>conv=>whnf)
  obtain rfl:x=y:=by rw[hck,FZ,hy]at hx;exact(Option.some.inj hx).symm
  refine hst.use hd1 hs ?_;clear hs;intro Z hs;cases hyes:(stp x s).1
  .rw[hyes,if_neg (by decide)]at hn
   refine zz ?_;(repeat clear U K);repeat intro K U
   exact⟨hlt,_,rfl,⟨hd2,hn⟩,hs⟩
  .rw[hyes,if_pos rfl]at hn
   refine zz ?_;(repeat clear U K);repeat intro K U
   rw[hn];exact AH ⟨_,⟨by rw[hck],rfl⟩,hs⟩
 .rw[Ad hke,Bc]at hn
  refine zz ?_;(repeat clear U K);repeat intro K U
  rw[hn];exact AH ⟨_,⟨rfl,rfl⟩,hs⟩
def OC (stp:Fact->S->Bool×S) (D:Fact->S->Prop) {v:V} {xs:List Fact} (hst:Cq zP (.f (.func g) fi ca) (fun y=> .a (Ja y)) (fun s=> .own v 7 (Dx xs)::H s) stp D) (hxl:xs.length<=AZ) (s0:S) (hd:Tc stp D xs s0) :
    BL zP 186 [v,.f (.func g) fi ca] (.own v 7 (Dx xs)::H s0) fun r post=>r= .ret (.b (decide ((Bc stp xs 0 s0).1≥0)))/\post= .own v 7 (Dx xs)::H (Bc stp xs 0 s0).2:=by
 intro Z hs;refine vF kZ ?_
 conv=>whnf
 repeat'((first|clear U K|apply st|(apply zk;intro K U)|fail)<;>conv=>whnf)
 refine(SE g fi ca H stp D hst hxl s0 hd).use (rest:=[]) (by simpa using hs) ?_;rintro r post Z ⟨rfl,rfl⟩ hs;refine zz ?_;(repeat clear U K);repeat intro K U
 exact AH ⟨_,⟨rfl,rfl⟩,by simpa using hs⟩
end
def kG (a:List Fact) (f:Bool) (hl:a.length<=1000000):BL zP 185 [.l (Dx a) f] [] fun r post=> ∃v,r= .ret v/\post= [.own v 7 (Dx a)]:=by
 intro Z hs;have hM:=Mx;refine vG kZ ?_
 conv=>whnf
 repeat'((first|clear U K|apply st|(apply zk;intro K U)|fail)<;>conv=>whnf)
 refine⟨fun e t=>?_,fun _=>?_⟩
 .have hxe:a= []:=List.map_eq_nil_iff.1 e
  subst hxe
  conv=>whnf
  repeat'((first|clear U K|apply st|(apply zk;intro K U)|refine za (fun hc=>?_) fun hc=>?_|fail)<;>conv=>whnf)
  .exact AH ⟨_,⟨_,rfl,rfl⟩,CM hs 7⟩
  .replace hs:=CM hs 7
   refine EH hs 0 (xs:=[]) (ys:=[]) rfl (by simp) T8 fun v Z hs=>?_
   refine zz ?_;(repeat clear U K);repeat intro K U
   exact AH ⟨_,⟨_,rfl,rfl⟩,hs⟩
 .refine zz ?_;(repeat clear U K);repeat intro K U
  replace hs:=CM hs 7;refine EH hs 0 (xs:=[]) (ys:=a) rfl (by simp;omega) T8 fun v Z hs=>?_
  refine zz ?_;(repeat clear U K);repeat intro K U
  exact AH ⟨_,⟨_,rfl,rfl⟩,hs⟩
def V1 {w:AE} {x:Fact} (h:C1 w x):x=if(Ac x).2 then Ca (Ac x).1 else(Ac x).1:=by
 obtain⟨g,hn,hl,rfl|rfl⟩:=h
 .have:=Fs hl
  have h5: ¬x.op=5:=by omega
  simp only[Ac,if_neg h5];rfl
 .rfl
def Zo {w:AE} {x y:Fact} (hx1:C1 w x) (hy1:C1 w y):SJ x y=CR x y:=by
 rw[KF,E2];simp only[SJ,A7,Cd,E2];constructor
 .rintro⟨h1,h2⟩
  rw[V1 hx1,V1 hy1,h1,h2]
 .rintro rfl
  exact⟨rfl,rfl⟩
def Sy {w:AE} {x:Fact} (h:C1 w x):ZT x:=by
 obtain⟨-,hn,hl⟩:=IG h;have hlo:=Fs hl;have har:=Am _ hn;rw[FU,A7,Cd]at har
 have h0:B2 (Ac x).1.op=0:=by
  have h5: ¬(Ac x).1.op=5:=by omega
  have h6: ¬((Ac x).1.op=6\/(Ac x).1.op=7):=by omega
  simp[B2,h5,h6]
  try omega
 rw[h0]at har;exact VA.1 har.1
def cr {w:AE} (a b:List Fact) (f g:Bool) (hla: ∀x∈a,C1 w x) (hlb: ∀x∈b,C1 w x) (hl:a.length+b.length<1000000):Pure zP 125 [.l (Dx a) f,.l (Dx b) g] (.l (Dx (CL a b)) false):=by
 have hM:=Mx;refine Pure.of ?_;refine wM kZ ?_;have hs:=Sn
 conv=>whnf
 repeat'((first|clear U K|apply st|(apply zk;intro K U)|fail)<;>conv=>whnf)
 refine(kG a f (by omega)).use (rest:=[]) (by simpa using hs) ?_;clear hs;rintro r post Z ⟨v,rfl,rfl⟩ hs;refine zz ?_;(repeat clear U K);repeat intro K U
 refine Ba b.length (fun k v=>[(5,v),(12,eI (Au k))]) (fun k v=>[.own v 7 (Dx (CL a (b.take k)))]) (fun _ _=>True) v rfl trivial hs ?_;clear hs;rintro k v Z hk - hs;have hml:=Nz a (b.take k);rw[Ib]at hml;rcases Aw b hk with⟨x,hxk,hlt⟩|hke
 .have hsn:=RH a (b.take k) x
  rw[<-AO hxk]at hsn;have hxg:=hlb x (BY hxk)
  have hmem: ∀y∈CL a (b.take k),C1 w y:=fun y hy=>by
   rcases S2 _ _ _ hy with h|h
   .exact hla y h
   .exact hlb y (List.mem_of_mem_take h)
  generalize CL a (b.take k)=m at *
  have hany:m.any (SJ x)=m.any (CR x):=by
   rw[KF,G1,G1];exact⟨fun⟨y,hy,h⟩=>⟨y,hy,by rw[<-Zo hxg (hmem y hy)];exact h⟩,fun⟨y,hy,h⟩=>⟨y,hy,by rw[Zo hxg (hmem y hy)];exact h⟩⟩
  conv=>whnf
  repeat'((first|clear U K|apply st|(apply zk;intro K U)|refine zY ?_|refine zs fun Z hs=>?_|refine zo fun nn hnn Z hs=>?_|fail)<;>conv=>whnf)
  generalize nn=n7 at *;have hs2:Sat Z [.own v 7 (Dx m),.box n7 (Ja x)]:=hs.perm (.swap _ _ _);clear hs hnn;refine(OC 187 [] [.p n7 0] (fun _:Unit=>[.box n7 (Ja x)]) (qa (SJ x)) (fun y _=>ZT y) ((mR x (Sy hxg) n7).more [_]) (by omega) () (Hf fun y hy _=>Sy (hmem y hy))).use (rest:=[]) hs2 ?_;clear hs2;rintro r post Z ⟨rfl,rfl⟩ hs;rw[Mr,hany];cases hy:m.any (CR x)
  .rw[hy,if_neg Bool.false_ne_true]at hsn
   refine zz ?_;(repeat clear U K);repeat intro K U
   refine Gt (GJ (x:=x) (xs:=m) (enc:=Ja) hs 0 rfl (by omega) T8 fun v Z hs hsl=>?_);refine zz ?_;(repeat clear U K);repeat intro K U
   exact⟨hlt,v,rfl,trivial,by rw[hsn];exact hs.less (.cons₂ _ (Ie _))⟩
  .rw[hy,if_pos rfl]at hsn
   refine zz ?_;(repeat clear U K);repeat intro K U
   exact⟨hlt,v,rfl,trivial,by rw[hsn];exact hs.less (.cons₂ _ (Ie _))⟩
 .refine zz ?_;(repeat clear U K);repeat intro K U
  exact dk (Ee hs 0 rfl (vf:= .l (Dx (CL a b)) false) (by rw[Ak hke])) fun r Z h=>h.1
end Go.Gl
