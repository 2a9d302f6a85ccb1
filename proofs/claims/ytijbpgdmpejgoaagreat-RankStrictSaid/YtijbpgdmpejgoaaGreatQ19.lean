import Derived.Test.YtijbpgdmpejgoaaGreatQ7
import Derived.Test.YtijbpgdmpejgoaaGreatQ8
import Derived.Test.YtijbpgdmpejgoaaGreatQ18
set_option linter.all false
set_option linter.unusedVariables false
set_option linter.unusedSimpArgs false
namespace Go.Gl
open Go.Proofs
attribute [local irreducible] BQ BJ A5 Ab AQ A4 Ac Af AR Az AW Aa BT Bf Sat An BZ A6 W
set_option maxHeartbeats 4000000 in
theorem de (p : Prog) (gen:Int):Pure Tryz.prog 17 [.a (Bz p),eI gen] (.t [.l (pP (Hq p gen).1) true,eI (Hq p gen).2]):=by
 refine Pure.of ?_;have hM:=Mx;have hr:=Sx p;refine yf nb ?_;have hs:=Sn
 conv=>whnf
 repeat'((first|refine st ?_|(refine sq ?_;intro K U)|(refine si ?_;intro A B Y Z)|(refine Y _ _ ?_;clear Z B Y A)|(refine U _ _ ?_;clear U K)|refine⟨nb,?_⟩|fail)<;>conv=>whnf)
 refine hr.use (rest:=[]) (by simpa using hs) ?_;clear hs;cases h:(Br p).isSome
 ·have hg:=aJ gen
  rintro r post σ ⟨rfl,rfl⟩ hs
  conv=>whnf
  repeat'((first|refine st ?_|(refine sq ?_;intro K U)|(refine si ?_;intro A B Y Z)|(refine Y _ _ ?_;clear Z B Y A)|(refine U _ _ ?_;clear U K)|refine ld ?_|refine G4 fun σ hs=>?_|refine MM ?_|refine Pure.use hg ?_|(intro nn hnn;generalize hg:BI _ nn _=σ;refine D8 hg fun hs=>?_;clear hg)|clear U K)<;>conv=>whnf)
  exact AO (by simp[Hq,h])
 ·rintro r post σ ⟨L,rfl,rfl⟩ hs
  have hg:=ky p L gen;have hok:=look_ok h;have h16:=hok.many;have hgw:=kz h;have hfm:=W5 h;cases h2:Uf p gen
  ·rw[h2]at hg
   conv=>whnf
   repeat'((first|refine st ?_|(refine sq ?_;intro K U)|(refine si ?_;intro A B Y Z)|(refine Y _ _ ?_;clear Z B Y A)|(refine U _ _ ?_;clear U K)|refine ld ?_|refine G4 fun σ hs=>?_|refine MM ?_|refine Pure.use hg ?_|(intro nn hnn;generalize hg:BI _ nn _=σ;refine D8 hg fun hs=>?_;clear hg)|clear U K)<;>conv=>whnf)
   exact AO (by simp[Hq,h,h2])
  rw[h2]at hg
  conv=>whnf
  repeat'((first|refine st ?_|(refine sq ?_;intro K U)|(refine si ?_;intro A B Y Z)|(refine Y _ _ ?_;clear Z B Y A)|(refine U _ _ ?_;clear U K)|refine ld ?_|refine G4 fun σ hs=>?_|refine G5 ?_|refine Pure.use hg ?_|refine Pure.use (ZQ _ _ _) ?_|(intro nn hnn;generalize hg:BI _ nn _=σ;refine D8 hg fun hs=>?_;clear hg)|fail)<;>conv=>whnf)
  rename_i nr _ _ _ _ _ nO _ _ _;refine WC p L gen h16 (nn:=nn) (fun s:List (Int×Int)×List (Int×Int)×V=>[.box nO [s.2.2],.own s.2.2 2 (pP s.2.1),.box nr [Kw p L],.map L (I4 p s.1)]) (fun k s=>s.2.1=(List.range k).flatMap (I5 p.methods.length (O5 p gen))) ([],[],.l [] true) rfl ((FF hs 2).perm (Iq _ _ _ _)) ?_ ?_ ?_
  ·intro k s hlt hne hi
   rw[Gz,←hi,Sv (fun j=>by simp[O5,hne]),List.append_nil]
  ·clear hs hnn
   intro k s hlt hgk hi rest σ hs;have hck:Bo k=k:=Ad (by omega);have hmk:CL p (k:Int)=true:=by simp[CL];omega
   rw[←hck];refine F4 (l:=[.box nO [s.2.2],.own s.2.2 2 (pP s.2.1),.box nr [Kw p L],.map L (I4 p s.1)]++rest) rfl hs ?_;clear hs;intro σ hs
   conv=>whnf
   repeat'((first|refine st ?_|(refine sq ?_;intro K U)|(refine si ?_;intro A B Y Z)|(refine Y _ _ ?_;clear Z B Y A)|(refine U _ _ ?_;clear U K)|refine ld ?_|refine G4 fun σ hs=>?_|refine Pure.use (ZQ _ _ _) ?_|(intro nn hnn;generalize hg:BI _ nn _=σ;refine D8 hg fun hs=>?_;clear hg)|clear U K)<;>conv=>whnf)
   rename_i nm _ _ _ _ _;clear hnn;refine WC p L gen h16 (nn:=nn) (fun s':List (Int×Int)×List (Int×Int)×V=> .box nm [eI (Bo k)]::([.box nO [s'.2.2],.own s'.2.2 2 (pP s'.2.1),.box nr [Kw p L],.map L (I4 p s'.1)]++rest)) (fun j s'=>s'.2.1=(List.range k).flatMap (I5 p.methods.length (O5 p gen))++Ky (O5 p gen) k j) s (by simp[Ky,hi]) hs ?_ ?_ ?_
   ·intro j s' hjlt hne hi'
    have:O5 p gen k j=false:=by
     rw[←Bool.not_eq_true];exact fun e=>hne (WV e).1.2
    rw[IW,this,hi'];simp
   ·clear hs hi
    intro j s' hjlt hgj hi' rest2 σ hs;have hcj:Bo j=j:=Ad (by omega);have hmj:CL p (j:Int)=true:=by simp[CL];omega
    have c4:Pure Tryz.prog 44 [Kw p L,eI (Bo k),eI (Bo j)] (.b (E9 p k j)):=by rw[hck,hcj];exact XL p L k j hmk hmj
    have c5:Bx Tryz.prog 54 [Kw p L,eI (Bo k),eI (Bo j)] [.map L (I4 p s'.1)] fun r post=>r= .ret (.b (EA p k j))∧post= [.map L (I4 p (K2 s'.1 (k,j)))]:=by rw[hck,hcj];exact HM p L k j hok hgw hfm hmk hmj s'.1
    have c6:Bx Tryz.prog 54 [Kw p L,eI (Bo j),eI (Bo k)] [.map L (I4 p (K2 s'.1 (k,j)))] fun r post=>r= .ret (.b (EA p j k))∧post= [.map L (I4 p (K2 (K2 s'.1 (k,j)) (j,k)))]:=by rw[hck,hcj];exact HM p L j k hok hgw hfm hmj hmk _
    generalize K2 (K2 s'.1 (k,j)) (j,k)=M2 at *;generalize K2 s'.1 (k,j)=M1 at *;have hoe:O5 p gen k j=(decide (k<j)&&(E9 p k j&&(EA p k j&&EA p j k))):=by rw[O5,hgk];simp
    have hrs:=IW (O5 p gen) k j;have hfl:=IA p.methods.length (O5 p gen) k;have hrl:=Q3 (O5 p gen) k j;have hkk:k*p.methods.length≤16*16:=Nat.mul_le_mul (by omega) h16;have hll:s'.2.1.length<Ax∧(s'.2.1.length+1)*16≤140737488355328:=by rw[hi',UE];omega
    have hno:O5 p gen k j=false→s'.2.1=(List.range k).flatMap (I5 p.methods.length (O5 p gen))++Ky (O5 p gen) k (j+1):=fun e=>by rw[hrs,e,hi'];simp
    rw[←hcj];refine F4 (l:= .box nm [eI (Bo k)]::([.box nO [s'.2.2],.own s'.2.2 2 (pP s'.2.1),.box nr [Kw p L],.map L (I4 p s'.1)]++rest)++rest2) rfl hs ?_;clear hs;intro σ hs;by_cases hkj:k<j
    ·cases hal:E9 p k j<;>rw[hal]at c4
     ·conv=>whnf
      repeat'((first|refine st ?_|(refine sq ?_;intro K U)|(refine si ?_;intro A B Y Z)|(refine Y _ _ ?_;clear Z B Y A)|(refine U _ _ ?_;clear U K)|refine⟨rfl,?_⟩|refine ld ?_|refine G5 ?_|refine Pure.use c4 ?_|(constructor<;>intro hc<;>(try rw[hc])<;>(replace hc:=bp hc)<;>(try simp(disch:=omega) only[Ce,wrap64,Ad]at hc)<;>try(exfalso;omega))|fail)<;>conv=>whnf)
      intro hn;exact⟨s',rfl,hno (by rw[hoe,hal];simp),hs.K3 hn⟩
     ·cases hi1:EA p k j<;>rw[hi1]at c5
      all_goals
       conv=>whnf
       repeat'((first|refine st ?_|(refine sq ?_;intro K U)|(refine si ?_;intro A B Y Z)|(refine Y _ _ ?_;clear Z B Y A)|refine⟨rfl,?_⟩|refine ld ?_|refine MM ?_|refine Pure.use c4 ?_|(constructor<;>intro hc<;>(try rw[hc])<;>(replace hc:=bp hc)<;>(try simp(disch:=omega) only[Ce,wrap64,Ad]at hc)<;>try(exfalso;omega))|fail)<;>conv=>whnf)
       refine c5.use (rest:=_) (hs.front (j:=4) rfl) ?_;clear hs;rintro r post σ ⟨rfl,rfl⟩ hs
       conv=>whnf
       repeat'((first|refine st ?_|(refine Y _ _ ?_;clear Z B Y A)|(refine U _ _ ?_;clear U K)|refine ld ?_|refine MM ?_|refine G5 ?_|fail)<;>conv=>whnf)
      ·intro hn
       exact⟨(M1,s'.2.1,s'.2.2),rfl,hno (by rw[hoe,hi1];simp),(Sat.back (l:=(.box nm [eI (Bo k)]::([.box nO [s'.2.2],.own s'.2.2 2 (pP s'.2.1),.box nr [Kw p L],.map L (I4 p M1)]++rest))++rest2) (j:=4) hs rfl).K3 hn⟩
      cases hi2:EA p j k<;>rw[hi2]at c6
      all_goals
       refine c6.use (rest:=_) hs ?_;clear hs;rintro r post σ ⟨rfl,rfl⟩ hs
       conv=>whnf
       repeat'((first|refine st ?_|(refine si ?_;intro A B Y Z)|(refine Y _ _ ?_;clear Z B Y A)|(refine U _ _ ?_;clear U K)|refine ld ?_|refine G4 fun σ hs=>?_|refine MM ?_|refine G5 ?_|refine aq (enc:=pI) (x:=((_:Int),(_:Int))) (fun v σ hs hsl=>?_) (hg:=U0)|fail)<;>conv=>whnf)
      ·intro hn
       exact⟨(M2,s'.2.1,s'.2.2),rfl,hno (by rw[hoe,hi2];simp),(Sat.back (l:=(.box nm [eI (Bo k)]::([.box nO [s'.2.2],.own s'.2.2 2 (pP s'.2.1),.box nr [Kw p L],.map L (I4 p M2)]++rest))++rest2) (j:=4) hs rfl).K3 hn⟩
      ·intro hn
       refine⟨(M2,s'.2.1++[((k:Int),(j:Int))],v),rfl,?_,Sat.K3 ?_ hn⟩
       ·rw[hrs,show O5 p gen k j=true by rw[hoe,hi1,hi2,hal];simp[hkj],hi',if_pos rfl,UR]
       ·rw[show((k:Int),(j:Int))=(Bo k,Bo j) by rw[hck,hcj]]
        exact Sat.back (l:=(.box nm [eI (Bo k)]::([.box nO [v],.own v 2 (pP (s'.2.1++[(Bo k,Bo j)])),.box nr [Kw p L],.map L (I4 p M2)]++rest))++rest2) (j:=4) hs rfl
    ·conv=>whnf
     repeat'((first|refine st ?_|(refine sq ?_;intro K U)|(refine si ?_;intro A B Y Z)|(refine Y _ _ ?_;clear Z B Y A)|(refine U _ _ ?_;clear U K)|refine⟨rfl,?_⟩|refine ld ?_|(constructor<;>intro hc<;>(try rw[hc])<;>(replace hc:=bp hc)<;>(try simp(disch:=omega) only[Ce,wrap64,Ad]at hc)<;>try(exfalso;omega))|fail)<;>conv=>whnf)
     intro hn;exact⟨s',rfl,hno (by rw[hoe,decide_eq_false hkj];rfl),hs.K3 hn⟩
   ·clear hs hi
    intro s' σ hi' hs;refine Gh hs fun σ hs=>?_
    conv=>whnf
    intro hn;exact⟨s',rfl,by rw[Gz];exact hi',(hs.less (List.sublist_cons_self _ _)).K3 hn⟩
  ·clear hs hnn
   intro s σ hi hs;refine Gh hs fun σ hs=>?_
   conv=>whnf
   repeat'((first|(refine sq ?_;intro K U)|(refine si ?_;intro A B Y Z)|(refine U _ _ ?_;clear U K)|refine ld ?_|fail)<;>conv=>whnf)
   refine(aY s.2.1 s.2.2 (by have:=IA p.methods.length (O5 p gen) p.methods.length;have:p.methods.length*p.methods.length≤16*16:=Nat.mul_le_mul h16 h16;rw[hi];omega)).use (rest:=_) (hs.front (j:=1) rfl) ?_;clear hs;rintro r post σ ⟨rfl,rfl⟩ hs
   conv=>whnf
   repeat'((first|refine st ?_|(refine Y _ _ ?_;clear Z B Y A)|(refine U _ _ ?_;clear U K)|fail)<;>conv=>whnf)
   exact AO (by simp[Hq,h,h2,GB,hi])
theorem K7 (xs:List (Int×Int)) (f:Bool) (m n:Int) (hl:xs.length≤1000):Pure Tryz.prog 23 [.l (pP xs) f,eI m,eI n] (.b (xs.contains (m,n))):=by
 have hM:=Mx;refine ye nb ?_;have hs:=Sn
 conv=>whnf
 repeat'((first|refine st ?_|(refine sq ?_;intro K U)|(refine si ?_;intro A B Y Z)|(refine Y _ _ ?_;clear Z B Y A)|(refine U _ _ ?_;clear U K)|fail)<;>conv=>whnf)
 refine FR xs.length (fun k (_:Unit)=>[(7,eI (Bo k))]) (fun _ _=>[]) (fun k _=>xs.contains (m,n)=(xs.drop k).contains (m,n)) () rfl rfl Sat.nil ?_;clear hs;rintro k - σ hk hn hs;rcases Bq xs hk with⟨x,hx,hlt⟩|hke
 ·rw[drop_cons hx,List.contains_cons]at hn
  have he:((m,n)==x)=(x.1==m&&(x.2==n&&true)):=by
   rw[Bool.eq_iff_iff,Dp,BO,BO,Dp,Dp];constructor
   ·rintro rfl;exact⟨rfl,rfl,rfl⟩
   ·rintro⟨rfl,rfl,-⟩;rfl
  conv=>whnf
  repeat'((first|refine st ?_|(refine sq ?_;intro K U)|(refine si ?_;intro A B Y Z)|(refine Y _ _ ?_;clear Z B Y A)|(refine U _ _ ?_;clear U K)|refine⟨rfl,?_⟩|refine⟨nb,?_⟩|refine ix ?_|(refine FB (fun hc=>?_)<;>(try rw[hc])<;>clear hc)|(constructor<;>intro hc<;>(try rw[hc])<;>(replace hc:=bp hc)<;>(try simp(disch:=omega) only[Ce,wrap64,Ad]at hc))|clear U K)<;>conv=>whnf)
  ·exact AY (by rw[hn,he,hc];rfl)
  ·exact⟨hlt,(),rfl,by rw[hn,he,hc,Bool.false_or],hs⟩
 ·conv=>whnf
  repeat'((first|refine st ?_|(refine sq ?_;intro K U)|(refine si ?_;intro A B Y Z)|(refine Y _ _ ?_;clear Z B Y A)|(refine U _ _ ?_;clear U K)|refine⟨rfl,?_⟩|(refine F5 (fun hc=>?_)<;>(try rw[hc])<;>clear hc)|clear U K)<;>conv=>whnf)
  exact AY (by rw[hn,Bt hke];rfl)
theorem w10:IntKind.i64.wrap (1 - 0)=1:=by decide
theorem w11:IntKind.i64.wrap (1 - 1)=0:=by decide
set_option maxHeartbeats 8000000 in
theorem dh (p : Prog) (gen kind:Int) (l t:List (Int×Int)) (e g:Int) (hk8: -128≤kind∧kind<128) (q3:Pure Tryz.prog 14 [] (.b true)) (q1:Pure Tryz.prog 15 [.a (Bz p),eI gen,eI kind] (.t [.l (pP l) true,eI e])) (q2:Pure Tryz.prog 17 [.a (Bz p),eI gen] (.t [.l (pP t) true,eI g]))
 (hll:l.length≤1000) (htl:t.length≤1000) (h:(e=0∧g=0∧bA l t)∨(e≠0∧l= [])):Pure Tryz.prog 6 [.a (Bz p),eI gen,.i .i8 kind] (.b true):=by
 have hM:=Mx;have hw:IntKind.i64.wrap kind=kind:=wrap64 (by omega) (by omega);rw[←hw]at q1;refine ctr6 nb ?_;have hs:=Sn;rcases h with⟨rfl,rfl,hS⟩|⟨he,rfl⟩
 ·conv => whnf
  repeat'((first|refine st ?_|(refine sq ?_;intro K U)|(refine si ?_;intro A B Y Z)|(refine Y _ _ ?_;clear Z B Y A)|(refine U _ _ ?_;clear U K)|refine⟨rfl,?_⟩|refine⟨nb,?_⟩|refine Pure.use q1 ?_|refine Pure.use q2 ?_|(constructor<;>intro hc<;>(try rw[hc])<;>(replace hc:=bp hc)<;>(try simp(disch:=omega) only[Ce,wrap64,Ad]at hc)<;>try(exfalso;omega))|fail)<;>conv=>whnf)
  refine FR l.length (fun k (_:Unit)=>[(11,eI (Bo k))]) (fun _ _=>[]) (fun _ _=>True) () rfl trivial Sat.nil ?_;clear hs;rintro k - σ hkl - hs;rcases Bq l hkl with⟨x,hx,hlt⟩|hke
  ·have hxm:=Fo hx
   obtain⟨i1,i2⟩:=hS.irr x hxm
   have c1:Pure Tryz.prog 23 [.l (pP l) true,eI x.2,eI x.1] (.b false):=by
    have:=K7 l true x.2 x.1 hll;rw[i2]at this;exact this
   conv=>whnf
   repeat'((first|refine st ?_|(refine sq ?_;intro K U)|(refine si ?_;intro A B Y Z)|(refine Y _ _ ?_;clear Z B Y A)|(refine U _ _ ?_;clear U K)|refine⟨rfl,?_⟩|refine⟨nb,?_⟩|refine ix ?_|refine Y8 ?_|refine ld ?_|refine GM fun σ hs=>?_|refine G5 ?_|(refine FB (fun hc=>?_)<;>(try rw[hc])<;>clear hc)|refine Pure.use c1 ?_|(constructor<;>intro hc<;>(try rw[hc])<;>(replace hc:=bp hc)<;>try(exfalso;omega))|(intro nn hnn;generalize hg:BI _ nn _=σ;refine D8 hg fun hs=>?_;clear hg)|fail)<;>conv=>whnf)
   refine FR l.length (fun j (_:Unit)=>[(13,eI (Bo j))]) (fun _ _=>[.box nn [eI x.1,eI x.2]]) (fun _ _=>True) () rfl trivial hs ?_;clear hs hnn;rintro j - σ hjl - hs;rcases Bq l hjl with⟨y,hy,hjlt⟩|hje
   ·by_cases hxy:y.1=x.2
    ·have c2:Pure Tryz.prog 23 [.l (pP l) true,eI x.1,eI y.2] (.b true):=by
      have:=K7 l true x.1 y.2 hll;rw[hS.tr x hxm y (Fo hy) hxy]at this;exact this
     conv=>whnf
     repeat'((first|refine st ?_|(refine sq ?_;intro K U)|(refine si ?_;intro A B Y Z)|(refine Y _ _ ?_;clear Z B Y A)|(refine U _ _ ?_;clear U K)|refine dr ?_|refine⟨rfl,?_⟩|refine ix ?_|refine Y8 ?_|refine wK ?_|refine ld ?_|refine G5 ?_|(refine FB (fun hc=>?_)<;>(try rw[hc])<;>clear hc)|refine Pure.use c2 ?_|(constructor<;>intro hc<;>(try rw[hc])<;>(replace hc:=bp hc)<;>try(exfalso;omega))|clear U K)<;>conv=>whnf)
     exact⟨hjlt,(),rfl,trivial,hs⟩
    ·conv=>whnf
     repeat'((first|refine st ?_|(refine sq ?_;intro K U)|(refine si ?_;intro A B Y Z)|(refine Y _ _ ?_;clear Z B Y A)|(refine U _ _ ?_;clear U K)|refine dr ?_|refine⟨rfl,?_⟩|refine ix ?_|refine Y8 ?_|refine wK ?_|refine ld ?_|(refine FB (fun hc=>?_)<;>(try rw[hc])<;>clear hc)|(constructor<;>intro hc<;>(try rw[hc])<;>(replace hc:=bp hc)<;>try(exfalso;omega))|clear U K)<;>conv=>whnf)
     exact⟨hjlt,(),rfl,trivial,hs⟩
   ·conv=>whnf
    repeat'((first|refine st ?_|(refine sq ?_;intro K U)|(refine si ?_;intro A B Y Z)|(refine Y _ _ ?_;clear Z B Y A)|(refine U _ _ ?_;clear U K)|refine⟨rfl,?_⟩|(refine F5 (fun hc=>?_)<;>(try rw[hc])<;>clear hc)|clear U K)<;>conv=>whnf)
    refine FR t.length (fun j (_:Unit)=>[(14,eI (Bo j))]) (fun _ _=>[.box nn [eI x.1,eI x.2]]) (fun _ _=>True) () rfl trivial hs ?_;clear hs;rintro i - σ hil - hs;rcases Bq t hil with⟨y,hy,hilt⟩|hie
    ·conv=>whnf
     repeat'((first|refine st ?_|(refine sq ?_;intro K U)|(refine si ?_;intro A B Y Z)|(refine Y _ _ ?_;clear Z B Y A)|(refine U _ _ ?_;clear U K)|refine⟨rfl,?_⟩|(refine FB (fun hc=>?_)<;>(try rw[hc])<;>clear hc)|fail)<;>conv=>whnf)
     refine FR 2 (fun j (_:Unit)=>[(15,eI (Bo j))]) (fun _ _=>[.box nn [eI x.1,eI x.2]]) (fun _ _=>True) () rfl trivial hs ?_;clear hs;rintro b - σ hb - hs;have hb3:b=0∨b=1∨b=2:=by omega
     have hym:=Fo hy;rcases hb3 with rfl|rfl|rfl
     ·have c3:y.1=x.1→Pure Tryz.prog 23 [.l (pP l) true,eI y.2,eI x.2] (.b true):=fun e=>by
       have:=K7 l true y.2 x.2 hll;rw[hS.a1 x hxm y hym e]at this;exact this
      have c4:y.1=x.2→Pure Tryz.prog 23 [.l (pP l) true,eI x.1,eI y.2] (.b true):=fun e=>by
       have:=K7 l true x.1 y.2 hll;rw[hS.b1 x hxm y hym e]at this;exact this
      rw[show Bo 0=0 from rfl];by_cases e1:y.1=x.1<;>by_cases e2:y.1=x.2
      all_goals
       conv=>whnf
       repeat'((first|refine st ?_|(refine sq ?_;intro K U)|(refine si ?_;intro A B Y Z)|(refine Y _ _ ?_;clear Z B Y A)|(refine U _ _ ?_;clear U K)|refine dr ?_|refine⟨rfl,?_⟩|refine⟨nb,?_⟩|refine ix ?_|refine Y8 ?_|refine wK ?_|refine ld ?_|refine G5 ?_|refine Zc ?_|refine Pure.use (c3 e1) ?_|refine Pure.use (c4 e2) ?_|rw[w10]|(constructor<;>intro hc<;>(try rw[hc])<;>(replace hc:=bp hc)<;>try(exfalso;omega))|clear U K)<;>conv=>whnf)
      all_goals exact⟨(),rfl,trivial,hs⟩
     ·have c3:y.2=x.1→Pure Tryz.prog 23 [.l (pP l) true,eI y.1,eI x.2] (.b true):=fun e=>by
       have:=K7 l true y.1 x.2 hll;rw[hS.a2 x hxm y hym e]at this;exact this
      have c4:y.2=x.2→Pure Tryz.prog 23 [.l (pP l) true,eI x.1,eI y.1] (.b true):=fun e=>by
       have:=K7 l true x.1 y.1 hll;rw[hS.b2 x hxm y hym e]at this;exact this
      rw[show Bo 1=1 from rfl];by_cases e1:y.2=x.1<;>by_cases e2:y.2=x.2
      all_goals
       conv=>whnf
       repeat'((first|refine st ?_|(refine sq ?_;intro K U)|(refine si ?_;intro A B Y Z)|(refine Y _ _ ?_;clear Z B Y A)|(refine U _ _ ?_;clear U K)|refine dr ?_|refine⟨rfl,?_⟩|refine⟨nb,?_⟩|refine ix ?_|refine Y8 ?_|refine wK ?_|refine ld ?_|refine G5 ?_|refine Zc ?_|refine Pure.use (c3 e1) ?_|refine Pure.use (c4 e2) ?_|rw[w11]|(constructor<;>intro hc<;>(try rw[hc])<;>(replace hc:=bp hc)<;>try(exfalso;omega))|clear U K)<;>conv=>whnf)
      all_goals exact⟨(),rfl,trivial,hs⟩
     ·conv=>whnf
      repeat'((first|refine st ?_|(refine sq ?_;intro K U)|(refine si ?_;intro A B Y Z)|(refine Y _ _ ?_;clear Z B Y A)|(refine U _ _ ?_;clear U K)|refine⟨rfl,?_⟩|(constructor<;>intro hc<;>(try rw[hc])<;>(replace hc:=bp hc)<;>(try simp(disch:=omega) only[Ce,wrap64,Ad]at hc)<;>try(exfalso;omega))|clear U K)<;>conv=>whnf)
      exact⟨hilt,(),rfl,trivial,hs⟩
    ·conv=>whnf
     repeat'((first|refine st ?_|(refine sq ?_;intro K U)|(refine si ?_;intro A B Y Z)|(refine Y _ _ ?_;clear Z B Y A)|(refine U _ _ ?_;clear U K)|refine⟨rfl,?_⟩|(refine F5 (fun hc=>?_)<;>(try rw[hc])<;>clear hc)|clear U K)<;>conv=>whnf)
     exact⟨hlt,(),rfl,trivial,hs.less (List.nil_sublist _)⟩
  ·conv=>whnf
   repeat'((first|refine st ?_|(refine sq ?_;intro K U)|(refine si ?_;intro A B Y Z)|(refine Y _ _ ?_;clear Z B Y A)|(refine U _ _ ?_;clear U K)|refine⟨rfl,?_⟩|(refine F5 (fun hc=>?_)<;>(try rw[hc])<;>clear hc)|refine Pure.use q3 ?_|clear U K)<;>conv=>whnf)
   exact AY rfl
 ·rcases Classical.em (e=0)with he|he
  ·exact absurd he ‹_›
  conv=>whnf
  repeat'((first|refine st ?_|(refine sq ?_;intro K U)|(refine si ?_;intro A B Y Z)|(refine Y _ _ ?_;clear Z B Y A)|(refine U _ _ ?_;clear U K)|refine⟨rfl,?_⟩|refine⟨nb,?_⟩|refine Pure.use q1 ?_|refine Pure.use q2 ?_|refine Pure.use q3 ?_|(constructor<;>intro hc<;>(try rw[hc])<;>(replace hc:=bp hc)<;>(try simp(disch:=omega) only[Ce,wrap64,Ad]at hc)<;>try(exfalso;omega))|clear U K)<;>conv=>whnf)
  ·exact AY rfl
  ·exfalso;simp at hc
theorem VV (p:Prog) (gen kind:Int):(Dr p gen kind).1.length≤1000:=by
 unfold Dr;split
 ·rename_i h
  rw[BO]at h;have h16:=(look_ok h.1).many;have:=IA p.methods.length (GO p gen kind) p.methods.length;have:p.methods.length*p.methods.length≤16*16:=Nat.mul_le_mul h16 h16;dsimp only[GB];omega
 ·simp
theorem Xn (p:Prog) (gen:Int):(Hq p gen).1.length≤1000:=by
 unfold Hq;split
 ·rename_i h
  rw[BO]at h;have h16:=(look_ok h.1).many;have:=IA p.methods.length (O5 p gen) p.methods.length;have:p.methods.length*p.methods.length≤16*16:=Nat.mul_le_mul h16 h16;dsimp only[GB];omega
 ·simp
theorem Tk (p:Prog) (gen kind:Int) (hk8: -128≤kind∧kind<128) (q3:Pure Tryz.prog 14 [] (.b true)):Pure Tryz.prog 6 [.a (Bz p),eI gen,.i .i8 kind] (.b true):=by
 refine dh p gen kind _ _ _ _ hk8 q3 (eP p gen kind) (de p gen) (VV p gen kind) (Xn p gen) ?_;cases h:(Br p).isSome
 ·exact .inr (by simp[Dr,h])
 cases h1:Uf p gen&&PB kind
 ·exact .inr (by simp[Dr,h,h1])
 ·rw[BO]at h1
  refine .inl ?_;simp only[Dr,Hq,h,h1.1,h1.2];exact⟨rfl,rfl,RY (look_ok h) gen kind⟩
end Go.Gl
namespace Go.Gl
variable {P:Program} {Λ:Nat→Prop} {σ:AG} {pu:List FuncId} {fz:List Nat}
end Go.Gl
namespace Go.Gl
def F2 {α β:Type} (R:α→β→Prop):List α→List β→Prop
 | [],l=>l= []
 | x::xs,l=> ∃y ys,R x y∧F2 R xs ys∧l=y::ys
section
variable {α β:Type} {R R':α→β→Prop}
theorem F2.nil:F2 R [] []:=rfl
theorem F2.cons {x:α} {y:β} {xs:List α} {ys:List β} (h:R x y) (h':F2 R xs ys):F2 R (x::xs) (y::ys):=⟨y,ys,h,h',rfl⟩
theorem F2.len: ∀ {xs:List α} {ys:List β},F2 R xs ys→ys.length=xs.length
 | [],_,h=>by cases h;rfl
 | _::_,_,⟨_,_,_,h,e⟩=>by subst e;simp[F2.len h]
theorem F2.get: ∀ {xs:List α} {ys:List β},F2 R xs ys→ ∀ {i:Nat} {x:α},xs[i]? =some x→ ∃y,ys[i]? =some y∧R x y
 | x::xs,_,⟨y,ys,h1,h2,e⟩,i,z,hi=>by
   subst e;cases i with
   | zero=>simp at hi;subst hi;exact⟨y,by simp,h1⟩
   | succ i=>simp at hi;simpa using F2.get h2 hi
theorem F2.mono (hm: ∀x y,R x y→R' x y): ∀ {xs:List α} {ys:List β},F2 R xs ys→F2 R' xs ys
 | [],_,h=>h
 | _::_,_,⟨y,ys,h1,h2,e⟩=>⟨y,ys,hm _ _ h1,F2.mono hm h2,e⟩
theorem F2.app: ∀ {xs xs':List α} {ys ys':List β},F2 R xs ys→F2 R xs' ys'→F2 R (xs++xs') (ys++ys')
 | [],_,_,_,h,h'=>by cases h;exact h'
 | _::_,_,_,_,⟨y,ys,h1,h2,e⟩,h'=>by subst e;exact⟨y,ys++_,h1,F2.app h2 h',rfl⟩
theorem F2.take: ∀ {xs:List α} {ys:List β},F2 R xs ys→ ∀n,F2 R (xs.take n) (ys.take n)
 | [],_,h,n=>by cases h;simp;rfl
 | _::_,_,⟨y,ys,h1,h2,e⟩,n=>by
   subst e;cases n with
   | zero=>exact rfl
   | succ n=>exact⟨y,_,h1,F2.take h2 n,rfl⟩
theorem F2.drop: ∀ {xs:List α} {ys:List β},F2 R xs ys→ ∀n,F2 R (xs.drop n) (ys.drop n)
 | [],_,h,n=>by cases h;simp;rfl
 | _::_,_,⟨y,ys,h1,h2,e⟩,n=>by
   subst e;cases n with
   | zero=>exact⟨y,ys,h1,h2,rfl⟩
   | succ n=>exact F2.drop h2 n
theorem F2.set: ∀ {xs:List α} {ys:List β},F2 R xs ys→ ∀(i:Nat) {x:α} {y:β},R x y→F2 R (xs.set i x) (ys.set i y)
 | [],_,h,i,_,_,_=>by cases h;simp;rfl
 | _::_,_,⟨y,ys,h1,h2,e⟩,i,_,_,h=>by
   subst e;cases i with
   | zero=>exact⟨_,_,h,h2,rfl⟩
   | succ i=>exact⟨_,_,h1,F2.set h2 i h,rfl⟩
theorem F2.rep {x:α} {y:β} (h:R x y): ∀n,F2 R (List.replicate n x) (List.replicate n y)
 | 0=>rfl
 | n+1=>⟨y,_,h,F2.rep h n,rfl⟩
theorem F2.mem: ∀ {xs:List α} {ys:List β},F2 R xs ys→ ∀ {y:β},y∈ys→ ∃x,x∈xs∧R x y
 | [],_,h,y,hy=>by cases h;cases hy
 | x ::_,_,⟨z,zs,h1,h2,e⟩,y,hy=>by
   subst e;rcases G3.1 hy with rfl|hy
   ·exact⟨x,.head _,h1⟩
   ·obtain⟨u,hu,hr⟩:=F2.mem h2 hy
    exact⟨u,.tail _ hu,hr⟩
theorem F2.fn (hf: ∀x y z,R x y→R x z→y=z): ∀ {xs:List α} {ys zs:List β},F2 R xs ys→F2 R xs zs→ys=zs
 | [],_,_,h,h'=>by cases h;cases h';rfl
 | _::_,_,_,⟨y,ys,h1,h2,e⟩,⟨z,zs,h3,h4,e'⟩=>by
   subst e;subst e';rw[hf _ _ _ h1 h3,F2.fn hf h2 h4]
end
abbrev Ren:=Nat→Option (Nat×Nat)
def Ren.le (ρ ρ':Ren):Prop:= ∀i m,ρ i=some m→ρ' i=some m
theorem Ren.le.refl (ρ:Ren):ρ.le ρ:=fun _ _ h=>h
theorem Ren.le.trans {a b c:Ren} (h:a.le b) (k:b.le c):a.le c:=fun i m e=>k i m (h i m e)
def XZ (ρ:Ren):Fn→Fn→Prop
 | .yield i,f=> ∃m,ρ i=some m∧f= .yield m.1
 | fn,f=>f=fn
mutual
def RV (ρ:Ren):V→V→Prop
 | .p n off,v=> ∃m,ρ n=some m∧v= .p m.1 off
 | .sl n len _,v=> ∃m,ρ n=some m∧v= .sl m.1 len m.2
 | .sv n sz off len,v=> ∃m,ρ n=some m∧v= .sv m.1 sz off len
 | .pe n sz i off,v=> ∃m,ρ n=some m∧v= .pe m.1 sz i off
 | .m n,v=> ∃m,ρ n=some m∧v= .m m.1
 | .rp cs,v=> ∃cs',RL ρ cs cs'∧v= .rp cs'
 | .l es f,v=> ∃es',RR ρ es es'∧v= .l es' f
 | .f fn first cap,v=> ∃fn' first' cap',XZ ρ fn fn'∧RL ρ first first'∧RL ρ cap cap'∧v= .f fn' first' cap'
 | .ET t x,v=> ∃x',RV ρ x x'∧v= .ET t x'
 | .a cs,v=> ∃cs',RL ρ cs cs'∧v= .a cs'
 | .t cs,v=> ∃cs',RL ρ cs cs'∧v= .t cs'
 | .b x,v=>v= .b x
 | .i k n,v=>v= .i k n
 | .s x,v=>v= .s x
 | .pn,v=>v= .pn
 | .mn,v=>v= .mn
 | .GP,v=>v= .GP
 | .DN,v=>v= .DN
 | .any,v=>v= .any
def RL (ρ:Ren):List V→List V→Prop
 | [],l=>l= []
 | x::xs,l=> ∃y ys,RV ρ x y∧RL ρ xs ys∧l=y::ys
def RR (ρ:Ren):List (List V)→List (List V)→Prop
 | [],l=>l= []
 | x::xs,l=> ∃y ys,RL ρ x y∧RR ρ xs ys∧l=y::ys
end
theorem Ba {ρ:Ren}: ∀ {xs ys:List V},RL ρ xs ys↔F2 (RV ρ) xs ys
 | [],_=>by simp only[RL,F2]
 | x::xs,l=>by
   simp only[RL,F2];constructor
   ·rintro⟨y,ys,h1,h2,rfl⟩;exact⟨y,ys,h1,Ba.1 h2,rfl⟩
   ·rintro⟨y,ys,h1,h2,rfl⟩;exact⟨y,ys,h1,Ba.2 h2,rfl⟩
theorem Eu {ρ:Ren}: ∀ {xs ys:List (List V)},RR ρ xs ys↔F2 (F2 (RV ρ)) xs ys
 | [],_=>by simp only[RR,F2]
 | x::xs,l=>by
   simp only[RR,F2];constructor
   ·rintro⟨y,ys,h1,h2,rfl⟩;exact⟨y,ys,Ba.1 h1,Eu.1 h2,rfl⟩
   ·rintro⟨y,ys,h1,h2,rfl⟩;exact⟨y,ys,Ba.2 h1,Eu.2 h2,rfl⟩
theorem XZ.mono {ρ ρ':Ren} (h:ρ.le ρ') {f g:Fn} (k:XZ ρ f g):XZ ρ' f g:=by
 cases f<;>first|exact k|exact⟨_,h _ _ k.choose_spec.1,k.choose_spec.2⟩
mutual
theorem RV.mono {ρ ρ':Ren} (h:ρ.le ρ'): ∀(v v':V),RV ρ v v'→RV ρ' v v'
 | .p _ _,_,k| .sl _ _ _,_,k| .sv _ _ _ _,_,k| .pe _ _ _ _,_,k| .m _,_,k=>by
   simp only[RV]at k ⊢;obtain⟨m,h1,h2⟩:=k;exact⟨m,h _ _ h1,h2⟩
 | .rp cs,_,k=>by
   simp only[RV]at k ⊢;obtain⟨c,h1,h2⟩:=k;exact⟨c,RL.mono h _ _ h1,h2⟩
 | .a cs,_,k=>by
   simp only[RV]at k ⊢;obtain⟨c,h1,h2⟩:=k;exact⟨c,RL.mono h _ _ h1,h2⟩
 | .t cs,_,k=>by
   simp only[RV]at k ⊢;obtain⟨c,h1,h2⟩:=k;exact⟨c,RL.mono h _ _ h1,h2⟩
 | .l es f,_,k=>by
   simp only[RV]at k ⊢;obtain⟨c,h1,h2⟩:=k;exact⟨c,RR.mono h _ _ h1,h2⟩
 | .f fn a b,_,k=>by
   simp only[RV]at k ⊢;obtain⟨g,c,d,h1,h2,h3,h4⟩:=k;exact⟨g,c,d,h1.mono h,RL.mono h _ _ h2,RL.mono h _ _ h3,h4⟩
 | .ET t x,_,k=>by
   simp only[RV]at k ⊢;obtain⟨c,h1,h2⟩:=k;exact⟨c,RV.mono h _ _ h1,h2⟩
 | .b _,_,k| .i _ _,_,k| .s _,_,k| .pn,_,k| .mn,_,k| .GP,_,k| .DN,_,k| .any,_,k=>by
   simp only[RV]at k ⊢;exact k
theorem RL.mono {ρ ρ':Ren} (h:ρ.le ρ'): ∀(l l':List V),RL ρ l l'→RL ρ' l l'
 | [],_,k=>by simp only[RL]at k ⊢;exact k
 | x::xs,_,k=>by
   simp only[RL]at k ⊢;obtain⟨y,ys,h1,h2,h3⟩:=k;exact⟨y,ys,RV.mono h _ _ h1,RL.mono h _ _ h2,h3⟩
theorem RR.mono {ρ ρ':Ren} (h:ρ.le ρ'): ∀(l l':List (List V)),RR ρ l l'→RR ρ' l l'
 | [],_,k=>by simp only[RR]at k ⊢;exact k
 | x::xs,_,k=>by
   simp only[RR]at k ⊢;obtain⟨y,ys,h1,h2,h3⟩:=k;exact⟨y,ys,RL.mono h _ _ h1,RR.mono h _ _ h2,h3⟩
end
theorem XZ.fn {ρ:Ren} {f g g':Fn} (h:XZ ρ f g) (k:XZ ρ f g'):g=g':=by
 cases f<;>first|(simp only[XZ]at h k;rw[h,k];done)|skip
 simp only[XZ]at h k;obtain⟨m,h1,rfl⟩:=h;obtain⟨m',h2,rfl⟩:=k;rw[h1]at h2;cases h2;rfl
mutual
theorem RV.fn {ρ:Ren}: ∀(v a b:V),RV ρ v a→RV ρ v b→a=b
 | .p _ _,_,_,k,k'| .sl _ _ _,_,_,k,k'| .sv _ _ _ _,_,_,k,k'| .pe _ _ _ _,_,_,k,k'| .m _,_,_,k,k'=>by
   simp only[RV]at k k';obtain⟨m,h1,rfl⟩:=k;obtain⟨m',h2,rfl⟩:=k';rw[h1]at h2;cases h2;rfl
 | .rp _,_,_,k,k'| .a _,_,_,k,k'| .t _,_,_,k,k'=>by
   simp only[RV]at k k';obtain⟨m,h1,rfl⟩:=k;obtain⟨m',h2,rfl⟩:=k';rw[RL.fn _ _ _ h1 h2]
 | .l _ _,_,_,k,k'=>by
   simp only[RV]at k k';obtain⟨m,h1,rfl⟩:=k;obtain⟨m',h2,rfl⟩:=k';rw[RR.fn _ _ _ h1 h2]
 | .f fn a b,_,_,k,k'=>by
   simp only[RV]at k k';obtain⟨g,c,d,h1,h2,h3,rfl⟩:=k;obtain⟨g',c',d',h1',h2',h3',rfl⟩:=k';rw[h1.fn h1',RL.fn _ _ _ h2 h2',RL.fn _ _ _ h3 h3']
 | .ET t x,_,_,k,k'=>by
   simp only[RV]at k k';obtain⟨m,h1,rfl⟩:=k;obtain⟨m',h2,rfl⟩:=k';rw[RV.fn _ _ _ h1 h2]
 | .b _,_,_,k,k'| .i _ _,_,_,k,k'| .s _,_,_,k,k'| .pn,_,_,k,k'| .mn,_,_,k,k'| .GP,_,_,k,k'| .DN,_,_,k,k'| .any,_,_,k,k'=>by
   simp only[RV]at k k';rw[k,k']
theorem RL.fn {ρ:Ren}: ∀(l a b:List V),RL ρ l a→RL ρ l b→a=b
 | [],_,_,k,k'=>by simp only[RL]at k k';rw[k,k']
 | x::xs,_,_,k,k'=>by
   simp only[RL]at k k';obtain⟨y,ys,h1,h2,rfl⟩:=k;obtain⟨z,zs,h3,h4,rfl⟩:=k';rw[RV.fn _ _ _ h1 h3,RL.fn _ _ _ h2 h4]
theorem RR.fn {ρ:Ren}: ∀(l a b:List (List V)),RR ρ l a→RR ρ l b→a=b
 | [],_,_,k,k'=>by simp only[RR]at k k';rw[k,k']
 | x::xs,_,_,k,k'=>by
   simp only[RR]at k k';obtain⟨y,ys,h1,h2,rfl⟩:=k;obtain⟨z,zs,h3,h4,rfl⟩:=k';rw[RL.fn _ _ _ h1 h3,RR.fn _ _ _ h2 h4]
end
def K5:Fn→Bool
 | .yield _=>false
 | _=>true
mutual
def Aq:V→Bool
 | .p _ _=>false
 | .sl _ _ _=>false
 | .sv _ _ _ _=>false
 | .pe _ _ _ _=>false
 | .m _=>false
 | .rp cs=>BK cs
 | .a cs=>BK cs
 | .t cs=>BK cs
 | .l es _=>O9 es
 | .f fn a b=>K5 fn&&(BK a&&BK b)
 | .ET _ x=>Aq x
 | _=>true
def BK:List V→Bool
 | []=>true
 | x::xs=>Aq x&&BK xs
def O9:List (List V)→Bool
 | []=>true
 | x::xs=>BK x&&O9 xs
end
mutual
theorem RV.pure {ρ:Ren}: ∀(v:V),Aq v=true→RV ρ v v
 | .p _ _,h| .sl _ _ _,h| .sv _ _ _ _,h| .pe _ _ _ _,h| .m _,h=>by simp[Aq]at h
 | .rp cs,h| .a cs,h| .t cs,h=>by simp only[Aq]at h;simp only[RV];exact⟨_,RL.pure cs h,rfl⟩
 | .l es f,h=>by simp only[Aq]at h;simp only[RV];exact⟨_,RR.pure es h,rfl⟩
 | .f fn a b,h=>by
   simp only[Aq,BO]at h;simp only[RV];refine⟨fn,a,b,?_,RL.pure a h.2.1,RL.pure b h.2.2,rfl⟩;cases fn<;>first|rfl|(simp[K5]at h)
 | .ET t x,h=>by simp only[Aq]at h;simp only[RV];exact⟨_,RV.pure x h,rfl⟩
 | .b _,_| .i _ _,_| .s _,_| .pn,_| .mn,_| .GP,_| .DN,_| .any,_=>by simp only[RV]
theorem RL.pure {ρ:Ren}: ∀(v:List V),BK v=true→RL ρ v v
 | [],_=>by simp only[RL]
 | x::xs,h=>by
   simp only[BK,BO]at h;simp only[RL];exact⟨x,xs,RV.pure x h.1,RL.pure xs h.2,rfl⟩
theorem RR.pure {ρ:Ren}: ∀(v:List (List V)),O9 v=true→RR ρ v v
 | [],_=>by simp only[RR]
 | x::xs,h=>by
   simp only[O9,BO]at h;simp only[RR];exact⟨x,xs,RL.pure x h.1,RR.pure xs h.2,rfl⟩
end
theorem RV.dC {ρ:Ren} {v v':V} (h:RV ρ v v') (hp:Aq v=true):v'=v:=RV.fn v _ _ h (RV.pure v hp)
mutual
def EB:V→V→Bool
 | .b x,.b y=>x==y
 | .i k n,.i k' n'=>decide (k=k')&&decide (n=n')
 | .s x,.s y=>decide (x=y)
 | .pn,.pn=>true
 | .p n o,.p n' o'=>Nat.beq n n'&&Nat.beq o o'
 | .rp a,.rp b=>K1 a b
 | .l a f,.l b g=>(f==g)&&Xj a b
 | .sl n a b,.sl n' a' b'=>Nat.beq n n'&&(Nat.beq a a'&&Nat.beq b b')
 | .sv n a b c,.sv n' a' b' c'=>Nat.beq n n'&&(Nat.beq a a'&&(Nat.beq b b'&&Nat.beq c c'))
 | .pe n a b c,.pe n' a' b' c'=>Nat.beq n n'&&(Nat.beq a a'&&(Nat.beq b b'&&Nat.beq c c'))
 | .m n,.m n'=>Nat.beq n n'
 | .mn,.mn=>true
 | .f fn a b,.f fn' a' b'=>decide (fn=fn')&&(K1 a a'&&K1 b b')
 | .GP,.GP=>true
 | .ET t v,.ET t' v'=>Nat.beq t t'&&EB v v'
 | .DN,.DN=>true
 | .a a,.a b=>K1 a b
 | .t a,.t b=>K1 a b
 | .any,.any=>true
 | _,_=>false
def K1:List V→List V→Bool
 | [],[]=>true
 | x::xs,y::ys=>EB x y&&K1 xs ys
 | _,_=>false
def Xj:List (List V)→List (List V)→Bool
 | [],[]=>true
 | x::xs,y::ys=>K1 x y&&Xj xs ys
 | _,_=>false
end
theorem Ci {a b:Nat} (h:Nat.beq a b=true):a=b:=Nat.eq_of_beq_eq_true h
mutual
theorem Mr: ∀(a b:V),EB a b=true→a=b
 | .b x,b,h=>by cases b<;>simp[EB]at h;rw[h]
 | .i _ _,b,h=>by cases b<;>simp[EB]at h;rw[h.1,h.2]
 | .s _,b,h=>by cases b<;>simp[EB]at h;rw[h]
 | .pn,b,h=>by cases b<;>simp[EB]at h;rfl
 | .p _ _,b,h=>by
   cases b<;>simp only[EB,BO]at h<;>first|(rw[Ci h.1,Ci h.2];done)|cases h
 | .rp _,b,h=>by
   cases b<;>simp only[EB]at h<;>first|(rw[F0 _ _ h];done)|cases h
 | .l _ _,b,h=>by
   cases b<;>simp only[EB,BO,Dp]at h<;>first|(rw[h.1,XI _ _ h.2];done)|cases h
 | .sl _ _ _,b,h=>by
   cases b<;>simp only[EB,BO]at h<;>first|(rw[Ci h.1,Ci h.2.1,Ci h.2.2];done)|cases h
 | .sv _ _ _ _,b,h=>by
   cases b<;>simp only[EB,BO]at h<;>first|(rw[Ci h.1,Ci h.2.1,Ci h.2.2.1,Ci h.2.2.2];done)|cases h
 | .pe _ _ _ _,b,h=>by
   cases b<;>simp only[EB,BO]at h<;>first|(rw[Ci h.1,Ci h.2.1,Ci h.2.2.1,Ci h.2.2.2];done)|cases h
 | .m _,b,h=>by
   cases b<;>simp only[EB]at h<;>first|(rw[Ci h];done)|cases h
 | .mn,b,h=>by cases b<;>simp[EB]at h;rfl
 | .f _ _ _,b,h=>by
   cases b<;>simp only[EB,BO,DU]at h<;>first|(rw[h.1,F0 _ _ h.2.1,F0 _ _ h.2.2];done)|cases h
 | .GP,b,h=>by cases b<;>simp[EB]at h;rfl
 | .ET _ _,b,h=>by
   cases b<;>simp only[EB,BO]at h<;>first|(rw[Ci h.1,Mr _ _ h.2];done)|cases h
 | .DN,b,h=>by cases b<;>simp[EB]at h;rfl
 | .a _,b,h=>by
   cases b<;>simp only[EB]at h<;>first|(rw[F0 _ _ h];done)|cases h
 | .t _,b,h=>by
   cases b<;>simp only[EB]at h<;>first|(rw[F0 _ _ h];done)|cases h
 | .any,b,h=>by cases b<;>simp[EB]at h;rfl
theorem F0: ∀(a b:List V),K1 a b=true→a=b
 | [],[],_=>rfl
 | x::xs,y::ys,h=>by
   simp only[K1,BO]at h;rw[Mr _ _ h.1,F0 _ _ h.2]
 | [],_::_,h=>by simp[K1]at h
 | _::_,[],h=>by simp[K1]at h
theorem XI: ∀(a b:List (List V)),Xj a b=true→a=b
 | [],[],_=>rfl
 | x::xs,y::ys,h=>by
   simp only[Xj,BO]at h;rw[F0 _ _ h.1,XI _ _ h.2]
 | [],_::_,h=>by simp[Xj]at h
 | _::_,[],h=>by simp[Xj]at h
end
inductive EO where
 | cs (vs:List V)
 | arr (sz:Nat) (es:List (List V))
 | map (kvs:List (V×V))
 | loop (st:wO) (env:Env) (ps:List Nat) (a b:AJ)
inductive Tr (α:Type) where
 | leaf
 | node (o:Option α) (l r:Tr α)
def Tr.get {α:Type}:Tr α→Nat→Option α
 | .leaf,_=>none
 | .node o l r,k=>match k with
   | 0=>o
   | k+1=>bif Nat.beq (k % 2) 0 then l.get (k / 2)else r.get (k / 2)
def Tr.put {α β:Type} (x:Option α):Nat→Tr α→Nat→(Tr α→β)→β
 | 0,t,_,K=>K t
 | d+1,t,k,K=>match k,t with
   | 0,.leaf=>K (.node x .leaf .leaf)
   | 0,.node _ l r=>K (.node x l r)
   | k+1,.leaf=>bif Nat.beq (k % 2) 0 then Tr.put x d .leaf (k / 2) fun l=>K (.node none l .leaf)else Tr.put x d .leaf (k / 2) fun r=>K (.node none .leaf r)
   | k+1,.node o l r=>bif Nat.beq (k % 2) 0 then Tr.put x d l (k / 2) fun l=>K (.node o l r)else Tr.put x d r (k / 2) fun r=>K (.node o l r)
def BA:Nat:=40
abbrev Tr.set {α:Type} (x:Option α) (d:Nat) (t:Tr α) (k:Nat):Tr α:=Tr.put x d t k id
theorem Tr.put_eq {α β:Type} {x:Option α}: ∀(d:Nat) (t:Tr α) (k:Nat) (K:Tr α→β),Tr.put x d t k K=K (Tr.set x d t k)
 | 0,t,k,K=>rfl
 | d + 1,t,k,K=>by
   unfold Tr.set;cases k with
   | zero=>cases t<;>rfl
   | succ k=>
     cases t<;>simp only[Tr.put]<;>cases Nat.beq (k % 2) 0<;>simp only[cond_true,cond_false]<;>rw[Tr.put_eq d,Tr.put_eq d _ _ (fun _=>_)]<;>rfl
theorem Tr.Dq {α:Type} {x:Option α}: ∀(d:Nat) (t:Tr α) (k:Nat),k+1<2 ^ d→ ∀j,(Tr.set x d t k).get j=if j=k then x else t.get j
 | 0,_,k,h,_=>by simp at h
 | d + 1, t, k,h,j=>by
   have hp:2 ^ (d+1)=2*2 ^ d:=by rw[Nat.pow_succ];omega
   cases k with
   | zero=>cases t<;>cases j<;>simp[Tr.set,Tr.put,Tr.get]
   | succ k=>
     have hk:k / 2+1<2 ^ d:=by omega
     cases t with
     | leaf=>
       simp only[Tr.set,Tr.put];cases hb:Nat.beq (k % 2) 0 with
       | true=>
         simp only[cond_true];rw[Tr.put_eq];have hb':=Ci hb;cases j with
         | zero=>simp[Tr.get]
         | succ j=>
           simp only[Tr.get,id];cases hj:Nat.beq (j % 2) 0 with
           | true=>
             have hj':=Ci hj;simp only[cond_true];rw[Tr.Dq d _ _ hk];simp only[Tr.get];by_cases e:j=k
             ·simp[e]
             ·rw[if_neg (by omega),if_neg (by omega)]
           | false=>
             simp only[cond_false];rw[if_neg (fun e=>by(have:j=k:=by omega);subst this;rw[hj]at hb;cases hb)]
       | false=>
         simp only[cond_false];rw[Tr.put_eq];have hb':=Nat.ne_of_beq_eq_false hb;cases j with
         | zero=>simp[Tr.get]
         | succ j=>
           simp only[Tr.get,id];cases hj:Nat.beq (j % 2) 0 with
           | false=>
             have hj':=Nat.ne_of_beq_eq_false hj;simp only[cond_false];rw[Tr.Dq d _ _ hk];simp only[Tr.get];by_cases e:j=k
             ·simp[e]
             ·rw[if_neg (by omega),if_neg (by omega)]
           | true=>
             simp only[cond_true];rw[if_neg (fun e=>by(have:j=k:=by omega);subst this;rw[hj]at hb;cases hb)]
     | node o l r=>
       simp only[Tr.set,Tr.put];cases hb:Nat.beq (k % 2) 0 with
       | true=>
         simp only[cond_true];rw[Tr.put_eq];have hb':=Ci hb;cases j with
         | zero=>simp[Tr.get]
         | succ j=>
           simp only[Tr.get,id];cases hj:Nat.beq (j % 2) 0 with
           | true=>
             have hj':=Ci hj;simp only[cond_true];rw[Tr.Dq d _ _ hk];by_cases e:j=k
             ·simp[e]
             ·rw[if_neg (by omega),if_neg (by omega)]
           | false=>
             simp only[cond_false];rw[if_neg (fun e=>by(have:j=k:=by omega);subst this;rw[hj]at hb;cases hb)]
       | false=>
         simp only[cond_false];rw[Tr.put_eq];have hb':=Nat.ne_of_beq_eq_false hb;cases j with
         | zero=>simp[Tr.get]
         | succ j=>
           simp only[Tr.get,id];cases hj:Nat.beq (j % 2) 0 with
           | false=>
             have hj':=Nat.ne_of_beq_eq_false hj;simp only[cond_false];rw[Tr.Dq d _ _ hk];by_cases e:j=k
             ·simp[e]
             ·rw[if_neg (by omega),if_neg (by omega)]
           | true=>
             simp only[cond_true];rw[if_neg (fun e=>by(have:j=k:=by omega);subst this;rw[hj]at hb;cases hb)]
end Go.Gl
