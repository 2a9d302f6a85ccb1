import Derived.Test.YtijbpgdmpejgoaaGreatU11
import Derived.Test.YtijbpgdmpejgoaaGreatU12
import Derived.Test.YtijbpgdmpejgoaaGreatU14
import Derived.Test.YtijbpgdmpejgoaaGreatU15
import Derived.Test.YtijbpgdmpejgoaaGreatU17
import Derived.Test.YtijbpgdmpejgoaaGreatU18
set_option linter.all false
set_option linter.defProp false
noncomputable section
namespace Go.Gl
open Go.Proofs
def fF {w:AK} (ho:ordered w.parents) {c b:Int} (h0:0≤c) (h1:c<3+w.parents.length) (hb:0≤b):Mp w.parents c b=((CE w.parents).getD c.toNat 0).testBit b.toNat:=by
 rw[Nx ho (by omega),Mp];have e0:(b.toNat==0)=(b==0):=by rw[LW];simp only[Dx];omega
 rw[e0];by_cases h3:3≤c
 ·rw[decide_eq_true h3,E7]
  by_cases h:c=b
  ·subst h;rw[Fh ho];simp
  ·rw[beq_eq_false_iff_ne.2 h,Bool.false_or]
 ·have hp:par w.parents c.toNat= []:=if_pos (by omega)
  rw[decide_eq_false h3,Bool.false_and,Bool.or_false,Et ho,hp];have:(c.toNat==b.toNat)=(c==b):=by rw[LW];simp only[Dx];omega
  rw[this,List.any_nil,Bool.or_false,Bool.or_comm]
def dI {w:AK} (hw:CQ w) {c:Int} (h0:0≤c) (h1:c<3+w.parents.length):(List.drop (c.toNat*1) (List.drop 2 (wC w (CE w.parents))))[0]? =some (eU ((CE w.parents).getD c.toNat 0)):=by
 have hul:(CE w.parents).length=3+w.parents.length:=Eh _ _;rw[cO,cO,←Vo w (CE w.parents) (i:=c.toNat) (by omega)];congr 1;omega
def nC {w:AK} {os:List Ob} (hos:UM w os) {v:Int×Int} (hv:B6 os.length v=true):0≤Q8 os v∧Q8 os v<3+w.parents.length:=by
 rw[Q8];split
 ·omega
 split
 ·omega
 ·rename_i h1 h2
  have h3:v.1=3:=by
   simp only[B6,if_neg h1,if_neg h2]at hv;split at hv
   ·assumption
   ·cases hv
  obtain⟨o,q1,q2,q3⟩:=NA hv h3;have:=hos.own o q3;have e:os.getD v.2.toNat (0,[])=o:=q2;rw[e];omega
def iG {n:Int} {v:Int×Int} (hv:B6 n v=true):v.1=1∨v.1=2∨v.1=3:=by
 rw[B6]at hv;by_cases h1:v.1=1
 ·exact .inl h1
 by_cases h2:v.1=2
 ·exact .inr (.inl h2)
 by_cases h3:v.1=3
 ·exact .inr (.inr h3)
 rw[if_neg h1,if_neg h2,if_neg h3]at hv;cases hv
def o7 {op un n:Int} (h:op=3∨op=4) (hc:((un==n)==(op==4))=true):(if op=3 then decide (un<n)else un==n)=decide (un≤n):=by
 rcases h with rfl|rfl
 ·have:un≠n:=by simpa using hc
  rw[if_pos rfl,decide_eq_decide];omega
 ·have:un=n:=by simpa using hc
  subst this;simp
def o8 {op un n:Int} (h:op=3∨op=4) (hc:((un==n)==(op==4))=false):(if op=3 then decide (un<n)else un==n)=false:=by
 rcases h with rfl|rfl
 ·have:un=n:=by simpa using hc
  subst this;simp
 ·have:un≠n:=by simpa using hc
  simpa using this
attribute [local irreducible] BJ A2 Ak AW AM Aj AV AX AN Ai AR AU A5 BF Sat Ad BD Al W
set_option maxHeartbeats 1000000 in
def bV (w : AK) (os:List Ob) (b:Bool) (args:List (Int×Int)) (g:Bool) (hg:CQ w) (hw:KE w) (hos:UM w os) (hv: ∀v∈args,B6 os.length v=true) (f:Fact):Bj w f=true→DL f≤args.length→
    Pure Tryz.prog 117 [.rp (wC w (CE w.parents)),.a (xF f),.l (os.map F0) b,.l (pP args) g] (.b (D4 w os args f)):=by
 induction f using Fact.ind with
 | h f ih=>
   intro hn hsp;refine Pure.fit (by kernel_rfl) fun hf=>?_
   have⟨h2,h3,h4⟩:=IQ hf.2.1;have hM:=Mx;have hwl:=hw.len;rw[bW,Vv];rcases U5 hn with h1|⟨h5,x,hk,hx⟩|⟨h6,x,y,hk,hx,hy⟩|⟨h7,x,y,hk,hx,hy⟩|⟨hop,hlf,hp,hcl,ha0⟩
   ·refine Hr kZ ?_
    have hs:=Sn
    conv=>whnf
    repeat'((first|apply st|(apply sq;intro K U)|(apply si;intro A B Y Z)|(apply Y;clear Z B Y A)|(apply U;clear U K)|refine⟨rfl,?_⟩|(constructor<;>intro hc<;>(try rw[hc])<;>(replace hc:=bp hc)<;>try(exfalso;omega))|clear U K)<;>conv=>whnf)
    all_goals exact AI (by rw[if_pos h1])
   ·have c1:=ih x (by rw[hk];exact .head _) hx (Int.le_trans (Hb (by rw[hk];exact .head _)) hsp)
    have e:(f.kids.map (D4 w os args)).getD 0 false=D4 w os args x:=by rw[hk];rfl
    have hk0:f.kids[0]? =some x:=by rw[hk];rfl
    rw[if_neg (by omega),if_pos h5,e];clear e hk;refine Hr kZ ?_;have hs:=Sn
    conv=>whnf
    repeat'((first|apply st|(apply sq;intro K U)|(apply si;intro A B Y Z)|(apply Y;clear Z B Y A)|(apply U;clear U K)|refine⟨rfl,?_⟩|refine⟨kZ,?_⟩|refine Mz ?_|refine c1.use ?_|(constructor<;>intro hc<;>(try rw[hc])<;>(replace hc:=bp hc)<;>try(exfalso;omega))|clear U K)<;>conv=>whnf)
    all_goals exact AI rfl
   ·have c1:=ih x (by rw[hk];exact .head _) hx (Int.le_trans (Hb (by rw[hk];exact .head _)) hsp)
    have c2:=ih y (by rw[hk];exact .tail _ (.head _)) hy (Int.le_trans (Hb (by rw[hk];exact .tail _ (.head _))) hsp);have e:(f.kids.map (D4 w os args)).getD 0 false=D4 w os args x:=by rw[hk];rfl
    have e2:(f.kids.map (D4 w os args)).getD 1 false=D4 w os args y:=by rw[hk];rfl
    have hk0:f.kids[0]? =some x:=by rw[hk];rfl
    have hk1:f.kids[1]? =some y:=by rw[hk];rfl
    rw[if_neg (by omega),if_neg (by omega),if_pos h6,e,e2];clear e e2 hk;cases hb:D4 w os args x<;>rw[hb]at c1
    all_goals
     refine Hr kZ ?_;have hs:=Sn
     conv=>whnf
     repeat'((first|apply st|(apply sq;intro K U)|(apply si;intro A B Y Z)|(apply Y;clear Z B Y A)|(apply U;clear U K)|refine⟨rfl,?_⟩|refine⟨kZ,?_⟩|refine Mz ?_|refine NR ?_|refine c1.use ?_|refine c2.use ?_|(constructor<;>intro hc<;>(try rw[hc])<;>(replace hc:=bp hc)<;>try(exfalso;omega))|clear U K)<;>conv=>whnf)
     all_goals exact AI rfl
   ·have c1:=ih x (by rw[hk];exact .head _) hx (Int.le_trans (Hb (by rw[hk];exact .head _)) hsp)
    have c2:=ih y (by rw[hk];exact .tail _ (.head _)) hy (Int.le_trans (Hb (by rw[hk];exact .tail _ (.head _))) hsp);have e:(f.kids.map (D4 w os args)).getD 0 false=D4 w os args x:=by rw[hk];rfl
    have e2:(f.kids.map (D4 w os args)).getD 1 false=D4 w os args y:=by rw[hk];rfl
    have hk0:f.kids[0]? =some x:=by rw[hk];rfl
    have hk1:f.kids[1]? =some y:=by rw[hk];rfl
    rw[if_neg (by omega),if_neg (by omega),if_neg (by omega),if_pos h7,e,e2];clear e e2 hk;cases hb:D4 w os args x<;>rw[hb]at c1
    all_goals
     refine Hr kZ ?_;have hs:=Sn
     conv=>whnf
     repeat'((first|apply st|(apply sq;intro K U)|(apply si;intro A B Y Z)|(apply Y;clear Z B Y A)|(apply U;clear U K)|refine⟨rfl,?_⟩|refine⟨kZ,?_⟩|refine Mz ?_|refine NR ?_|refine c1.use ?_|refine c2.use ?_|(constructor<;>intro hc<;>(try rw[hc])<;>(replace hc:=bp hc)<;>try(exfalso;omega))|clear U K)<;>conv=>whnf)
     all_goals exact AI rfl
   ·have hsl:=Uo hlf
    rw[if_neg (by omega),if_neg (by omega),if_neg (by omega),if_neg (by omega),fq];obtain⟨v,hva⟩: ∃v,args[f.arg.toNat]? =some v:=⟨_,DJ (by omega)⟩
    have hvd:args.getD f.arg.toNat (0,0)=v:=by rw[DY,hva];rfl
    have hvv:=hv v (B5 hva);rw[hvd];have c1:=qd w os b v f.path false hg hw hos hvv hp;have hok:=fun u=>Z3 (u:=u) hos hp hvv
    clear hvd;cases hu:cX w os f.path v with
    | none=>
      rw[hu]at c1;replace c1:Pure Tryz.prog 151 [.rp (wC w (CE w.parents)),.l (os.map F0) b,.a (pI v),.l (iL f.path) false] (.t [.a (pI (0,0)),.b false]):=c1;refine Hr kZ ?_;have hs:=Sn
      conv=>whnf
      repeat'((first|apply st|(apply sq;intro K U)|(apply si;intro A B Y Z)|(apply Y;clear Z B Y A)|(apply U;clear U K)|apply dr|refine⟨rfl,?_⟩|refine⟨kZ,?_⟩|refine GX ?_|refine Dy fun σ hs=>?_|refine Er ?_|refine⟨_,c1,?_⟩|(constructor<;>intro hc<;>(try rw[hc])<;>(replace hc:=bp hc)<;>try(exfalso;omega))|(intro nn hnn;generalize hg:BA _ nn _=σ;refine Ct hg fun hs=>?_;clear hg)|clear U K)<;>conv=>whnf)
      all_goals exact AI rfl
    | some u=>
      rw[hu]at c1;have hu2:=hok u hu;clear hok hu;replace c1:Pure Tryz.prog 151 [.rp (wC w (CE w.parents)),.l (os.map F0) b,.a (pI v),.l (iL f.path) false] (.t [.a (pI u),.b true]):=c1;by_cases h2:f.op=2
      ·have hcr:=nC hos hu2
       have hfc:=hcl h2;have hup:=dI hg hcr.1 hcr.2;have hbb:=fF hw.ord hcr.1 hcr.2 hfc.1;have c2:=Wc ((CE w.parents).getD (Q8 os u).toNat 0) f.cls (Li (HS _ _ (by have:=hg.1.1;omega)) _) hfc.1 (by omega);have hkk:=iG hu2;dsimp only;rw[if_pos h2];rw[hbb];by_cases h3:u.1=3
       ·obtain⟨o,q1,q2,q3⟩:=NA hu2 h3
        have hnr:=Nw hu2 h3
        have hce:Q8 os u=o.1:=by
         rw[Q8,if_neg (by omega),if_neg (by omega)];exact congrArg Prod.fst q2
        rw[hce]at hcr hup c2 ⊢;clear hce hbb hcl hv hvv ih h4 hp hn q2;generalize CE w.parents=us at *;obtain⟨uk,un⟩:=u;dsimp only at h3 q1 hnr;refine Hr kZ ?_;have hs:=Sn
        conv=>whnf
        repeat'((first|apply st|(apply sq;intro K U)|(apply si;intro A B Y Z)|(apply Y;clear Z B Y A)|(apply U;clear U K)|apply dr|refine⟨rfl,?_⟩|refine⟨kZ,?_⟩|refine nv ?_|refine GX ?_|refine ld ?_|refine Dy fun σ hs=>?_|refine De ?_|refine⟨_,c1,?_⟩|(constructor<;>intro hc<;>(try rw[hc])<;>(replace hc:=bp hc)<;>(try simp(disch:=omega) only[BQ,wrap64,AL]at hc)<;>try(exfalso;omega))|(intro nn hnn;generalize hg:BA _ nn _=σ;refine Ct hg fun hs=>?_;clear hg)|fail)<;>conv=>whnf)
        rw[hup]
        conv=>whnf
        repeat'((first|apply st|(apply Y;clear Z B Y A)|(apply U;clear U K)|apply dr|refine c2.use ?_|clear U K)<;>conv=>whnf)
        all_goals exact AI rfl
       ·have hce:Q8 os u=u.1:=by
         rw[Q8];split
         ·omega
         ·rw[if_pos (by omega)];omega
        rw[hce]at hcr hup c2 ⊢;clear hce hbb hcl hv hvv ih h4 hp hn;generalize CE w.parents=us at *;obtain⟨uk,un⟩:=u;dsimp only at *;refine Hr kZ ?_;have hs:=Sn
        conv=>whnf
        repeat'((first|apply st|(apply sq;intro K U)|(apply si;intro A B Y Z)|(apply Y;clear Z B Y A)|(apply U;clear U K)|apply dr|refine⟨rfl,?_⟩|refine⟨kZ,?_⟩|refine nv ?_|refine GX ?_|refine ld ?_|refine Dy fun σ hs=>?_|refine De ?_|refine⟨_,c1,?_⟩|(constructor<;>intro hc<;>(try rw[hc])<;>(replace hc:=bp hc)<;>(try simp(disch:=omega) only[BQ,wrap64,AL]at hc)<;>try(exfalso;omega))|(intro nn hnn;generalize hg:BA _ nn _=σ;refine Ct hg fun hs=>?_;clear hg)|fail)<;>conv=>whnf)
        rw[hup]
        conv=>whnf
        repeat'((first|apply st|(apply Y;clear Z B Y A)|(apply U;clear U K)|apply dr|refine c2.use ?_|fail)<;>conv=>whnf)
        all_goals exact AI rfl
      ·dsimp only
       rw[if_neg h2];clear hv hvv ih h4 hp hn hcl;obtain⟨uk,un⟩:=u;dsimp only at *;by_cases hk:uk=1
       ·rw [Dx.2 hk,E7]
        have h34:f.op=3∨f.op=4:=by omega
        have hT:=fun hc=>o7 (un:=un) (n:=f.n) h34 hc
        have hF:=fun hc=>o8 (un:=un) (n:=f.n) h34 hc
        refine Hr kZ ?_;have hs:=Sn
        conv=>whnf
        repeat'((first|apply st|(apply sq;intro K U)|(apply si;intro A B Y Z)|(apply Y;clear Z B Y A)|(apply U;clear U K)|apply dr|refine⟨rfl,?_⟩|refine⟨kZ,?_⟩|refine GX ?_|refine ld ?_|refine Dy fun σ hs=>?_|refine De ?_|refine⟨_,c1,?_⟩|(constructor<;>intro hc<;>(try rw[hc])<;>(replace hc:=bp hc)<;>(try simp(disch:=omega) only[BQ,wrap64,AL]at hc)<;>try(exfalso;omega))|(intro nn hnn;generalize hg:BA _ nn _=σ;refine Ct hg fun hs=>?_;clear hg)|clear U K)<;>conv=>whnf)
        all_goals
         refine AI ?_
         first
          | (rw[hT (by assumption)];rfl)
          | (rw[hF (by assumption)];rfl)
       ·rw[beq_eq_false_iff_ne.2 hk,Bool.false_and]
        refine Hr kZ ?_;have hs:=Sn
        conv=>whnf
        repeat'((first|apply st|(apply sq;intro K U)|(apply si;intro A B Y Z)|(apply Y;clear Z B Y A)|(apply U;clear U K)|apply dr|refine⟨rfl,?_⟩|refine⟨kZ,?_⟩|refine GX ?_|refine ld ?_|refine Dy fun σ hs=>?_|refine De ?_|refine⟨_,c1,?_⟩|(constructor<;>intro hc<;>(try rw[hc])<;>(replace hc:=bp hc)<;>(try simp(disch:=omega) only[BQ,wrap64,AL]at hc)<;>try(exfalso;omega))|(intro nn hnn;generalize hg:BA _ nn _=σ;refine Ct hg fun hs=>?_;clear hg)|clear U K)<;>conv=>whnf)
        all_goals exact AI rfl
end Go.Gl
namespace Go.Gl
open Go.Proofs
attribute [local irreducible] BJ A2 Ak AW AM Aj AV AX AN Ai AR AU A5 BF Sat Ad BD Al W
def ox (p:Prog) (L:Nat) (g:Int) (h16:p.methods.length≤16) {S:Type} {fn:Fn} {fi ca:List V} {H:S→List At} (Inv:Nat→S→Prop) {s:S} (h0:Inv 0 s)
    (hsk: ∀k s,k<p.methods.length→(BN p (k:Nat)).gen≠g→Inv k s→Inv (k+1) s)
    (hT: ∀(k:Nat) s,k<p.methods.length→(BN p (k:Nat)).gen=g→Inv k s→ ∀(rest:List At) (σ:AH),Sat σ (H s++rest)→A5 Tryz.prog (.f fn fi ca) [eI (k:Int)] σ fun r σ'=> ∃s',r= .ret (.b true)∧Inv (k+1) s'∧Sat σ' (H s'++rest)) (σ:AH) (hs:Sat σ (H s)) :
    BJ Tryz.prog 75 [.f fn fi ca,.rp [Ft p L],.rp [eI g]] σ fun r σ'=> ∃s',r= .ret (.t [])∧Inv p.methods.length s'∧Sat σ' (H s'):=by
 have hM:=Mx;refine pw kZ ?_
 conv=>whnf
 repeat'((first|apply st|(apply sq;intro K U)|(apply si;intro A B Y Z)|(apply Y;clear Z B Y A)|(apply U;clear U K)|fail)<;>conv=>whnf)
 refine B2 p.methods.length (fun k (_:S)=>[(12,eI (A4 k))]) (fun _ s'=>H s') (fun k s'=>Inv k s') s rfl h0 hs ?_;clear hs;rintro k s' σ hk ho hs;rcases BC p.methods hk with⟨x,hx,hlt⟩|hke
 ·have hck:A4 k=k:=AL (by omega)
  have hxe:BN p (k:Int)=x:=by
   have:=Br (p:=p) (m:=k) (by simp[A1];omega);rw[KF,hx]at this;exact(Option.some.inj this).symm
  have hsk':=hsk k s' hlt;have hT':=hT k s' hlt;rw[hxe]at hsk' hT';rw[←hck]at hT';by_cases hg:x.gen=g
  ·conv=>whnf
   repeat'((first|apply st|(apply sq;intro K U)|(apply si;intro A B Y Z)|(apply Y;clear Z B Y A)|(apply U;clear U K)|refine⟨rfl,?_⟩|refine⟨kZ,?_⟩|refine ix ?_|refine ld ?_|refine Dy fun σ hs=>?_|(refine CK (fun hc=>?_)<;>(try rw[hc])<;>clear hc)|(constructor<;>intro hc<;>(try rw[hc])<;>(replace hc:=bp hc)<;>try(exfalso;omega))|(intro nn hnn;generalize hg:BA _ nn _=σ;refine Ct hg fun hs=>?_;clear hg)|fail)<;>conv=>whnf)
   refine(hT' hg ho [_] σ (Sat.perm hs (List.perm_append_singleton _ _).symm)).mono ?_;rintro r σ ⟨s2,rfl,hi2,hs⟩
   conv=>whnf
   repeat'((first|apply st|(apply si;intro A B Y Z)|(apply Y;clear Z B Y A)|(apply U;clear U K)|refine⟨rfl,?_⟩|refine De ?_|fail)<;>conv=>whnf)
   exact⟨hlt,_,rfl,hi2,hs.less (List.sublist_append_left _ _)⟩
  ·conv=>whnf
   repeat'((first|apply st|(apply sq;intro K U)|(apply si;intro A B Y Z)|(apply Y;clear Z B Y A)|(apply U;clear U K)|refine⟨rfl,?_⟩|refine⟨kZ,?_⟩|refine ix ?_|refine ld ?_|refine Dy fun σ hs=>?_|(refine CK (fun hc=>?_)<;>(try rw[hc])<;>clear hc)|(constructor<;>intro hc<;>(try rw[hc])<;>(replace hc:=bp hc)<;>try(exfalso;omega))|(intro nn hnn;generalize hg:BA _ nn _=σ;refine Ct hg fun hs=>?_;clear hg)|fail)<;>conv=>whnf)
   exact⟨hlt,_,rfl,hsk' hg ho,hs.less (Ji _ _)⟩
 ·rw[hke]at ho
  conv=>whnf
  repeat'((first|apply st|(apply sq;intro K U)|(apply si;intro A B Y Z)|(apply Y;clear Z B Y A)|(apply U;clear U K)|refine⟨rfl,?_⟩|(refine DR (fun hc=>?_)<;>(try rw[hc])<;>clear hc)|clear U K)<;>conv=>whnf)
  exact AQ ⟨_,rfl,ho,hs⟩
def Sa (p:Prog) (L:Nat) (g:Int) (h16:p.methods.length≤16) {nn:Nat} {E:Env} {ok:FuncId→Array Tmp→Code→Code→Nat→Prop} {S:Type} (H:S→List At) (Inv:Nat→S→Prop) (s:S) {σ:AH} (h0:Inv 0 s) (hs:Sat σ (.obj nn (.loop .ready E ok)::H s))
    (hsk: ∀k s,k<p.methods.length→(BN p (k:Nat)).gen≠g→Inv k s→Inv (k+1) s)
    (hT: ∀(k:Nat) s,k<p.methods.length→(BN p (k:Nat)).gen=g→Inv k s→ ∀(rest:List At) (σ:AH),Sat σ (.obj nn (.loop .ready E ok)::(H s++rest))→NZ Tryz.prog nn [eI (k:Int)] σ fun r σ'=> ∃s',r= .ret (.b true)∧Inv (k+1) s'∧Sat σ' (.obj nn (.loop .ready E ok)::(H s'++rest)))
    {Q:R→AH→Prop} (hq: ∀s' σ',Inv p.methods.length s'→Sat σ' (.obj nn (.loop .ready E ok)::H s')→Q (.ret (.t [])) σ') :
    BJ Tryz.prog 75 [.f (.yield nn) [] [],.rp [Ft p L],.rp [eI g]] σ Q:=
 BJ.mono (ox p L g h16 (fn:= .yield nn) (fi:=[]) (ca:=[]) (H:=fun s=> .obj nn (.loop .ready E ok)::H s) Inv h0 hsk (fun k s hk hg hi rest σ hs=>aM (hT k s hk hg hi rest σ hs)) σ hs) fun r σ' ⟨s',e,hi,h⟩=>e ▸ hq s' σ' hi h
def FM (p:Prog) (g:Int) (k:Nat):List Int:=(Bi k).filter fun m=>(BN p m).gen==g
def MZ (p:Prog) (g:Int) (k:Nat):FM p g (k+1)=if(BN p (k:Int)).gen==g then FM p g k++[(k:Int)]else FM p g k:=by
 rw[FM,Fl,List.filter_append];cases hp:(BN p (k:Int)).gen==g<;>simp[FM,hp]
def Om (p:Prog) (g:Int) (k:Nat):(FM p g k).length≤k:=by
 have:=KD (fun m=>(BN p m).gen==g) (Bi k)
 rwa [Dt]at this
def Vi (p:Prog) (L:Nat) (g:Int) (h16:p.methods.length≤16):Bk Tryz.prog 118 [.l [] true,.f (.func 75) [] [.rp [Ft p L],.rp [eI g]]] [] fun r post=> ∃v,r= .ret v∧post= [.own v 1 (iL (FM p g p.methods.length))]:=by
 intro σ hs;have hM:=Mx;refine Zx kZ ?_
 conv=>whnf
 repeat'((first|apply st|(apply sq;intro K U)|(apply si;intro A B Y Z)|(apply Y;clear Z B Y A)|(apply U;clear U K)|(intro nn hnn;generalize hg:BA _ nn _=σ;refine Ct hg fun hs=>?_;clear hg)|fail)<;>conv=>whnf)
 rename_i nb _ _ _;refine Sa p L g h16 (nn:=nn) (fun s:V×List Int=>[.box nb [s.1],.own s.1 1 (iL s.2)]) (fun k s=>s.2=FM p g k) (.l [] true,[]) rfl ((C7 hs 1).perm (IL _ _ _ _)) ?_ ?_ ?_
 ·intro k s hlt hne hi
  rw[MZ,if_neg (by simpa using hne),hi]
 ·clear hs hnn
  rintro k ⟨v,ys⟩ hlt hgk hi rest σ hs;dsimp only at hi hs;have hck:A4 k=k:=AL (by omega);have hl:=Om p g k;rw[←hi]at hl;have hll:ys.length<Af∧(ys.length+1)*8≤140737488355328:=by omega
  refine El (l:=[.box nb [v],.own v 1 (iL ys)]++rest) rfl hs ?_;clear hs;intro σ hs
  conv=>whnf
  repeat'((first|apply st|(apply si;intro A B Y Z)|(apply Y;clear Z B Y A)|refine ld ?_|refine FB fun σ hs=>?_|refine aq fun v σ hs hsl=>?_|clear U K)<;>conv=>whnf)
  intro hn;exact⟨(v,ys++[(k:Int)]),rfl,by rw[MZ,if_pos (by simpa using hgk),hi],hs.Jm hn⟩
 ·clear hs
  rintro⟨v,ys⟩ σ hi hs;dsimp only at hi hs;refine Fi hs fun σ hs=>?_
  conv=>whnf
  repeat'((first|apply st|(apply sq;intro K U)|(apply si;intro A B Y Z)|(apply Y;clear Z B Y A)|(apply U;clear U K)|refine ld ?_|fail)<;>conv=>whnf)
  rw[hi]at hs;exact Ap hs (Ji _ _) (.refl _) fun σ' hs'=>⟨_,⟨v,rfl,rfl⟩,hs'⟩
def VW (p:Prog) (L:Nat) (g:Int) (h16:p.methods.length≤16):Bk Tryz.prog 84 [.f (.func 75) [] [.rp [Ft p L],.rp [eI g]]] [] fun r post=> ∃v,r= .ret v∧post= [.own v 1 (iL (FM p g p.methods.length))]:=by
 intro σ hs;refine gD kZ ?_
 conv=>whnf
 repeat'((first|(apply sq;intro K U)|(apply si;intro A B Y Z)|(apply Y;clear Z B Y A)|(apply U;clear U K)|fail)<;>conv=>whnf)
 refine(Vi p L g h16).use (rest:=[]) (by simpa using hs) ?_;clear hs;rintro r post σ ⟨v,rfl,rfl⟩ hs
 conv=>whnf
 repeat'((first|apply st|(apply Y;clear Z B Y A)|(apply U;clear U K)|fail)<;>conv=>whnf)
 exact Ap hs (List.sublist_append_left _ _) (.refl _) fun σ' hs'=>⟨_,⟨v,rfl,rfl⟩,hs'⟩
def XB (w:AK) (hg:CQ w) (hw:KE w) (os:List Ob) (b:Bool) (args:List (Int×Int)) (g:Bool) (f:Fact) (hf:Cf w f=true) (hsp:DL f≤args.length) (hh:Ja w os args=true) :
    Pure Tryz.prog 81 [.a (BE w),.a (xF f),.l (os.map F0) b,.l (pP args) g] (.t [.b (D4 w os args f),eI 0]):=by
 refine Pure.fit (by kernel_rfl) fun hfi=>?_
 have hM:=Mx
 have hfo: ∀b,Pure Tryz.prog 109 [.a (BE w),.l [Fx f] b] (.t [.rp (wC w (CE w.parents)),.b true]):=fun b=>by
  have:=M6 w hg [f] b (by simp);simpa[NI,hf]using this
 rw[Bd]at hfo;have c2:=QR w hg hw os b args g;rw[hh]at c2;have c3:=Xb f (W4 hf);simp only[Ja,BY,Ce,EN]at hh;have hno:Bj w f=true:=by simp only[Cf,BY]at hf;exact hf.2.2
 have c4:=bV w os b args g hg hw (WI hh.1) hh.2.2.2 f hno hsp;refine gE kZ ?_;have hs:=Sn
 conv=>whnf
 repeat'((first|apply st|(apply sq;intro K U)|(apply si;intro A B Y Z)|(apply Y;clear Z B Y A)|(apply U;clear U K)|refine⟨rfl,?_⟩|refine⟨kZ,?_⟩|refine JS ?_|refine Pure.use (hfo _) ?_|refine c2.use ?_|refine c3.use ?_|refine c4.use ?_|(constructor<;>intro hc<;>(try rw[hc])<;>(replace hc:=bp hc)<;>(try simp(disch:=omega) only[BQ,wrap64,AL]at hc))|clear U K)<;>conv=>whnf)
 all_goals first
  | exact AI rfl
  | (exfalso;simp at hc;omega)
def cM (w:AK) (hg:CQ w) (hw:KE w) (os:List Ob) (b:Bool) (args:List (Int×Int)) (g:Bool) (f:Fact) (hf:Cf w f=true) (hh:Ja w os args=false) :
    Pure Tryz.prog 81 [.a (BE w),.a (xF f),.l (os.map F0) b,.l (pP args) g] (.t [.b false,eI 2]):=by
 refine Pure.fit (by kernel_rfl) fun hfi=>?_
 have hM:=Mx
 have hfo: ∀b,Pure Tryz.prog 109 [.a (BE w),.l [Fx f] b] (.t [.rp (wC w (CE w.parents)),.b true]):=fun b=>by
  have:=M6 w hg [f] b (by simp);simpa[NI,hf]using this
 rw[Bd]at hfo;have c2:=QR w hg hw os b args g;rw[hh]at c2;refine gE kZ ?_;have hs:=Sn
 conv=>whnf
 repeat'((first|apply st|(apply sq;intro K U)|(apply si;intro A B Y Z)|(apply Y;clear Z B Y A)|(apply U;clear U K)|refine⟨kZ,?_⟩|refine UR ?_|refine JS ?_|refine Pure.use (hfo _) ?_|refine c2.use ?_|clear U K)<;>conv=>whnf)
 all_goals exact AI rfl
abbrev Vp:Fact:=Fact.mk 1 0 [] 0 0 []
def OT (w:AK):Cf w Vp=true:=by
 rw[Cf,Hf,F7,Ch];rfl
def Sv {w:V} {o a:V}:DK emp emp [w,.a [eI 1,eI 0,.l [] true,eI 0,eI 0,.l [] true],o,a] [w,.a (xF Vp),o,a]:=
 .cons (.refl _) (.cons (.a (.cons (.refl _) (.cons (.refl _) (.cons CG (.cons (.refl _) (.cons (.refl _) (.cons CG .nil))))))) (.cons (.refl _) (.cons (.refl _) .nil)))
def Wy (os:List Ob) (f:Bool) (gen:Int) (args:List (Int×Int)) (g:Bool):Pure Tryz.prog 56 [.pn,.l (os.map F0) f,eI gen,.l (pP args) g] (.b false):=by
 have c1:=Ua gen;refine Pv kZ ?_;have hs:=Sn
 conv=>whnf
 repeat'((first|apply st|(apply sq;intro K U)|(apply si;intro A B Y Z)|(apply Y;clear Z B Y A)|(apply U;clear U K)|refine UR ?_|refine c1.use ?_|clear U K)<;>conv=>whnf)
 all_goals exact AI rfl
set_option maxHeartbeats 1000000 in
def call56 (p:Prog) (L:Nat) (os:List Ob) (f:Bool) (gen:Int) (args:List (Int×Int)) (g:Bool) (h:(BV p).isSome=true):Pure Tryz.prog 56 [Ft p L,.l (os.map F0) f,eI gen,.l (pP args) g] (.b (Ca p os gen args)):=by
 refine Pure.fit (by kernel_rfl) fun hf=>?_
 have hM:=Mx;have hok:=look_ok h;have hgw:=Nd h;have c1:=ZE p L gen;cases h2:Jl p gen<;>rw[h2]at c1
 ·refine Pv kZ ?_
  have hs:=Sn
  conv=>whnf
  repeat'((first|apply st|(apply sq;intro K U)|(apply si;intro A B Y Z)|(apply Y;clear Z B Y A)|(apply U;clear U K)|refine UR ?_|refine c1.use ?_|clear U K)<;>conv=>whnf)
  all_goals exact AI (by simp[Ca,h2])
 have hgr:=h2;simp only[Jl,BY,Ce]at hgr;obtain⟨x,hx⟩: ∃x,p.Cx[gen.toNat]? =some x:=⟨_,DJ (by omega)⟩
 have hxd:p.Cx.getD gen.toNat 0=x:=by rw[DY,hx];rfl
 have hx3:1≤x∧x≤3:=by
  have hh:=(Ei h).1;simp only[Cy,BY,Ce,EN]at hh;exact hh.2.2.2.2.2 x (B5 hx)
 by_cases he:(args.length:Int)=x
 ·have e:Ca p os gen args=(FZ (AS p) os&&args.all (B6 os.length)):=by simp only[Ca,h,h2,hxd,decide_eq_true he,E7]
  rw[e];have c2:=bc os f args g (by omega);by_cases hv: ∀v∈args,B6 os.length v=true
  ·rw [List.filter_eq_self.2 hv]at c2
   have hva:args.all (B6 os.length)=true:=EN.2 hv;rw[hva,Bool.and_true]
   have hha:Ja (AS p) os args=FZ (AS p) os:=by
    rw[Ja,hva,decide_eq_true (show 1≤args.length by omega),decide_eq_true (show args.length≤3 by omega)];simp
   cases ho:FZ (AS p) os<;>rw[ho]at hha
   ·have c3:=(cM (AS p) hgw hok.nc os f args g Vp (OT _) hha).arg Sv
    clear hva e hv;refine Pv kZ ?_;have hs:=Sn
    conv=>whnf
    repeat'((first|apply st|(apply sq;intro K U)|(apply si;intro A B Y Z)|(apply Y;clear Z B Y A)|(apply U;clear U K)|apply dr|refine⟨rfl,?_⟩|refine⟨kZ,?_⟩|refine GX ?_|refine JS ?_|refine c1.use ?_|refine c2.use ?_|refine c3.use ?_|(constructor<;>intro hc<;>(try rw[hc])<;>(replace hc:=bp hc)<;>(try simp(disch:=omega) only[BQ,wrap64,AL]at hc)<;>try(exfalso;omega))|clear U K)<;>conv=>whnf)
    all_goals first
     | exact AI rfl
     | (exfalso;simp[he]at hc;done)
   ·have c3:=(XB (AS p) hgw hok.nc os f args g Vp (OT _) (by
     rw[D2]
     exact Int.natCast_nonneg _) hha).arg Sv
    clear hva e hv;refine Pv kZ ?_;have hs:=Sn
    conv=>whnf
    repeat'((first|apply st|(apply sq;intro K U)|(apply si;intro A B Y Z)|(apply Y;clear Z B Y A)|(apply U;clear U K)|apply dr|refine⟨rfl,?_⟩|refine⟨kZ,?_⟩|refine GX ?_|refine JS ?_|refine c1.use ?_|refine c2.use ?_|refine c3.use ?_|(constructor<;>intro hc<;>(try rw[hc])<;>(replace hc:=bp hc)<;>(try simp(disch:=omega) only[BQ,wrap64,AL]at hc)<;>try(exfalso;omega))|clear U K)<;>conv=>whnf)
    all_goals first
     | exact AI rfl
     | (exfalso;simp[he]at hc;done)
  ·have hlt:(args.filter (B6 os.length)).length≠args.length:=fun e=>hv (List.length_filter_eq_length_iff.1 e)
   have hva:args.all (B6 os.length)=false:=by
    rw[←Bool.not_eq_true,EN];exact hv
   rw[hva,Bool.and_false];generalize args.filter (B6 os.length)=ys at *;clear hva e hv;refine Pv kZ ?_;have hs:=Sn
   conv=>whnf
   repeat'((first|apply st|(apply sq;intro K U)|(apply si;intro A B Y Z)|(apply Y;clear Z B Y A)|(apply U;clear U K)|refine⟨rfl,?_⟩|refine GX ?_|refine JS ?_|refine c1.use ?_|refine c2.use ?_|(constructor<;>intro hc<;>(try rw[hc])<;>(replace hc:=bp hc)<;>(try simp(disch:=omega) only[BQ,wrap64,AL]at hc)<;>try(exfalso;omega))|clear U K)<;>conv=>whnf)
   all_goals first
    | exact AI rfl
    | (exfalso;simp[he]at hc;done)
    | (exfalso;simp at hc;omega)
 ·have e:Ca p os gen args=false:=by simp only[Ca,hxd,decide_eq_false he,Bool.false_and,Bool.and_false]
  rw[e];refine Pv kZ ?_;have hs:=Sn
  conv=>whnf
  repeat'((first|apply st|(apply sq;intro K U)|(apply si;intro A B Y Z)|(apply Y;clear Z B Y A)|(apply U;clear U K)|refine⟨rfl,?_⟩|refine GX ?_|refine JS ?_|refine c1.use ?_|(constructor<;>intro hc<;>(try rw[hc])<;>(replace hc:=bp hc)<;>(try simp(disch:=omega) only[BQ,wrap64,AL]at hc))|clear U K)<;>conv=>whnf)
  all_goals first
   | exact AI rfl
   | (exfalso;simp[he]at hc;done)
def YU (p:Prog) (L:Nat) (os:List Ob) (f:Bool) (gen:Int) (args:List (Int×Int)) (g:Bool) (ha:Ask p os gen args) (hh:Ja (AS p) os args=true) (m:Int) (hm:A1 p m=true) (hg:(BN p m).gen=gen) :
    Pure Tryz.prog 85 [eI m,.rp [Ft p L],.rp [.l (os.map F0) f],.rp [.l (pP args) g]] (.b (D4 (AS p) os args (BN p m).fact)):=by
 refine Pure.fit (by kernel_rfl) fun hf=>?_
 have hM:=Mx;have hok:=look_ok ha.look;have hxm:=Br hm;obtain⟨-,hfo,hno,hsp⟩:=WS ha.look (B5 hxm);rw[hg,←ha.len]at hsp;have c1:=XB (AS p) (Nd ha.look) hok.nc os f args g (BN p m).fact hfo hsp hh;simp only[A1,BY,Ce]at hm;clear hg hfo hno hsp;generalize BN p m=x at *;cases hb:D4 (AS p) os args x.fact<;>rw[hb]at c1
 all_goals
  refine pf kZ ?_;have hs:=Sn
  conv=>whnf
  repeat'((first|apply st|(apply sq;intro K U)|(apply si;intro A B Y Z)|(apply Y;clear Z B Y A)|(apply U;clear U K)|apply dr|refine⟨rfl,?_⟩|refine⟨kZ,?_⟩|refine GX ?_|refine c1.use ?_|fail)<;>conv=>whnf)
  all_goals exact AI rfl
def eQ {p:Prog} {os:List Ob} {gen:Int} {args:List (Int×Int)} (h:Ca p os gen args=true):Ja (AS p) os args=true:=by
 have ha:=Ug h;simp only[Ca,BY]at h;have hg:=ha.pB;simp only[Jl,BY,Ce]at hg;obtain⟨x,hx⟩: ∃x,p.Cx[gen.toNat]? =some x:=⟨_,DJ (by omega)⟩
 have hxd:p.Cx.getD gen.toNat 0=x:=by rw[DY,hx];rfl
 have hx3:1≤x∧x≤3:=by
  have hh:=(Ei ha.look).1;simp only[Cy,BY,Ce,EN]at hh;exact hh.2.2.2.2.2 x (B5 hx)
 have hl:=ha.len;rw[hxd]at hl;rw[Ja,h.2.1,decide_eq_true (show 1≤args.length by omega),decide_eq_true (show args.length≤3 by omega),h.2.2.2.2];rfl
def Xv (p:Prog) (os:List Ob) (gen:Int) (args:List (Int×Int)):(FM p gen p.methods.length).filter (fun m=>D4 (AS p) os args (BN p m).fact)=NV p os gen args:=by
 rw[FM,NV,iB,List.filter_filter];congr 1;funext m;rw[Bool.and_comm]
def Ol {p:Prog} {g m:Int} (h:m∈FM p g p.methods.length):A1 p m=true∧(BN p m).gen=g:=by
 have:=JV.1 h;have h1:=FR.1 this.1;exact⟨by simp only[A1,BY,Ce];exact h1,by simpa using this.2⟩
def Qm (p:Prog) (L:Nat) (os:List Ob) (f:Bool) (gen:Int) (args:List (Int×Int)) (g:Bool) (h:Ca p os gen args=true):Pure Tryz.prog 58 [Ft p L,.l (os.map F0) f,eI gen,.l (pP args) g] (.l (iL (NV p os gen args)) true):=by
 have ha:=Ug h;have hok:=look_ok ha.look;have hml:=Om p gen p.methods.length;have h16:=hok.many;have c1:=TP 85 [] [.rp [Ft p L],.rp [.l (os.map F0) f],.rp [.l (pP args) g]] (fun m=>D4 (AS p) os args (BN p m).fact) (FM p gen p.methods.length) (fun m hm=>YU p L os f gen args g ha (eQ h) m (Ol hm).1 (Ol hm).2) false (by omega);rw[Xv]at c1;refine Pure.of ?_;refine p9 kZ ?_;have hs:=Sn
 conv=>whnf
 repeat'((first|apply st|(apply sq;intro K U)|(apply si;intro A B Y Z)|(apply Y;clear Z B Y A)|(apply U;clear U K)|refine Pure.use (XG _ _ _) ?_|fail)<;>conv=>whnf)
 refine(VW p L gen h16).use (rest:=[]) (by simpa using hs) ?_;clear hs;rintro r post σ ⟨v,rfl,rfl⟩ hs
 conv=>whnf
 obtain⟨σ2,h1,h2,h3⟩:=IM hs 0 rfl;refine BJ.Pr (c1.use ?_) h1 (.cons h2 (.cons (.refl _) .nil));clear hs h1 h2;have hs:=h3
 conv=>whnf
 repeat'((first|apply st|(apply Y;clear Z B Y A)|(apply U;clear U K)|fail)<;>conv=>whnf)
 exact AQ (by rfl)
def Yj (p:Prog) (os:List Ob) (f:Bool) (gen:Int) (args:List (Int×Int)) (g:Bool):Pure Tryz.prog 28 [.a (BR p),.l (os.map F0) f,eI gen,.l (pP args) g] (.t [.l (iL (K9 p os gen args).1) true,eI (K9 p os gen args).2]):=by
 refine Pure.of ?_;have hr:=HV p;rw[K9];refine qQ kZ ?_;have hs:=Sn
 conv=>whnf
 repeat'((first|apply st|(apply sq;intro K U)|(apply si;intro A B Y Z)|(apply Y;clear Z B Y A)|(apply U;clear U K)|refine⟨kZ,?_⟩|fail)<;>conv=>whnf)
 refine hr.use (rest:=[]) (by simpa using hs) ?_;clear hs;cases h:(BV p).isSome
 ·have c1:=Wy os f gen args g
  rintro r post σ ⟨rfl,rfl⟩ hs
  conv=>whnf
  repeat'((first|apply st|(apply sq;intro K U)|(apply si;intro A B Y Z)|(apply Y;clear Z B Y A)|(apply U;clear U K)|refine Er ?_|refine c1.use ?_|clear U K)<;>conv=>whnf)
  exact AQ (by simp[Ca,h])
 ·rintro r post σ ⟨L,rfl,rfl⟩ hs
  have c1:=call56 p L os f gen args g h;cases hb:Ca p os gen args<;>rw[hb]at c1
  ·conv=>whnf
   repeat'((first|apply st|(apply sq;intro K U)|(apply si;intro A B Y Z)|(apply Y;clear Z B Y A)|(apply U;clear U K)|refine Er ?_|refine c1.use ?_|clear U K)<;>conv=>whnf)
   exact AQ (by rw[hb];rfl)
  ·have c2:=Qm p L os f gen args g hb
   conv=>whnf
   repeat'((first|apply st|(apply sq;intro K U)|(apply si;intro A B Y Z)|(apply Y;clear Z B Y A)|(apply U;clear U K)|refine De ?_|refine c1.use ?_|refine c2.use ?_|fail)<;>conv=>whnf)
   exact AQ (by rw[hb];rfl)
end Go.Gl
namespace Go.Gl
open Go.Proofs
def Qn {p:Prog} {os:List Ob} {gen:Int} {args:List (Int×Int)} (h16:p.methods.length≤16):Sb p (NV p os gen args):=by
 have hm: ∀x∈NV p os gen args,A1 p x=true∧(BN p x).gen=gen:=fun x hx=>by
  have:=JV.1 hx;have h1:=FR.1 this.1;have h2:=this.2;simp only[BY,Dx]at h2;exact⟨by simp only[A1,BY,Ce];exact h1,h2.1⟩
 refine⟨fun x hx=>(hm x hx).1,fun x hx y hy=>(hm x hx).2.trans (hm y hy).2.symm,?_,Nat.le_trans (cG p os gen args _) h16⟩;refine List.Nodup.sublist (List.filter_sublist ..) ?_;exact(G3 _).imp fun h e=>by omega
def oq (x:Pl×Bool):Pl×Int:=if x.2 then(x.1,0)else(gZ,5)
def MQ (p:Prog) (os:List Ob) (gen:Int) (args:List (Int×Int)):Pl×Int:=if Ca p os gen args then oq (Im (AY p) p (NV p os gen args))else(gZ,2)
abbrev we (x:Pl×Int) (g:Bool):V:= .t [.a (nu x.1 g (x.2 != 0)),eI x.2]
attribute [local irreducible] BJ A2 Ak AW AM Aj AV AX AN Ai AR AU A5 BF Sat Ad BD Al W
def Uk (p:Prog) (os:List Ob) (f:Bool) (gen:Int) (args:List (Int×Int)) (g:Bool):Pure Tryz.prog 20 [.a (BR p),.l (os.map F0) f,eI gen,.l (pP args) g] (we (MQ p os gen args) true):=by
 refine Pure.of ?_;have hr:=HV p;generalize hX:MQ p os gen args=X;rw[MQ]at hX;refine qU kZ ?_;have hs:=Sn
 conv=>whnf
 repeat'((first|apply st|(apply sq;intro K U)|(apply si;intro A B Y Z)|(apply Y;clear Z B Y A)|(apply U;clear U K)|refine⟨kZ,?_⟩|(intro nn hnn;generalize hg:BA _ nn _=σ;refine Ct hg fun hs=>?_;clear hg)|fail)<;>conv=>whnf)
 refine hr.use (rest:=_) hs ?_;clear hs;cases h:(BV p).isSome
 ·have c1:=Wy os f gen args g
  have hb:Ca p os gen args=false:=by simp only[Ca,h,Bool.false_and]
  rw[hb,if_neg (by decide)]at hX;subst hX;rintro r post σ ⟨rfl,rfl⟩ hs
  conv=>whnf
  repeat'((first|apply st|(apply sq;intro K U)|(apply si;intro A B Y Z)|(apply Y;clear Z B Y A)|(apply U;clear U K)|refine⟨kZ,?_⟩|refine ld ?_|refine Dy fun σ hs=>?_|refine Er ?_|refine c1.use ?_|clear U K)<;>conv=>whnf)
  exact AQ (by rfl)
 ·rintro r post σ ⟨L,rfl,rfl⟩ hs
  have c1:=call56 p L os f gen args g h;cases hb:Ca p os gen args<;>rw[hb]at c1 hX
  ·rw[if_neg (by decide)]at hX
   subst hX
   conv=>whnf
   repeat'((first|apply st|(apply sq;intro K U)|(apply si;intro A B Y Z)|(apply Y;clear Z B Y A)|(apply U;clear U K)|refine⟨kZ,?_⟩|refine ld ?_|refine Dy fun σ hs=>?_|refine Er ?_|refine c1.use ?_|clear U K)<;>conv=>whnf)
   exact AQ (by rfl)
  ·have c2:=Qm p L os f gen args g hb
   have c3:=iW p L (NV p os gen args) true h (Qn (look_ok h).many) [];rw[if_pos rfl]at hX;generalize Im (AY p) p (NV p os gen args)=x at *;obtain⟨x,b⟩:=x;cases b
   all_goals
    subst hX
    conv=>whnf
    repeat'((first|apply st|(apply sq;intro K U)|(apply si;intro A B Y Z)|(apply Y;clear Z B Y A)|(apply U;clear U K)|refine De ?_|refine c1.use ?_|refine c2.use ?_|fail)<;>conv=>whnf)
    refine c3.use (rest:=_) hs ?_;clear hs;rintro r post σ ⟨rfl,M,rfl⟩ hs
    conv=>whnf
    repeat'((first|apply st|(apply sq;intro K U)|(apply si;intro A B Y Z)|(apply Y;clear Z B Y A)|(apply U;clear U K)|refine⟨kZ,?_⟩|refine ld ?_|refine Dy fun σ hs=>?_|refine Er ?_|refine De ?_|(intro nn hnn;generalize hg:BA _ nn _=σ;refine Ct hg fun hs=>?_;clear hg)|clear U K)<;>conv=>whnf)
    exact AQ (by rfl)
def ZS (x:Pl) (g h g' h':Bool):Pure Tryz.prog 22 [.a (nu x g h),.a (nu x g' h')] (.b true):=by
 obtain⟨a,t,b,c,u,d⟩:=x
 have c1: ∀(xs:List Int) (f g:Bool),Pure Tryz.prog 30 [.l (iL xs) f,.l (iL xs) g] (.b true):=fun xs f g=>by
  have:=EU xs xs f g
  rwa [beq_self_eq_true]at this
 cases t
 all_goals
  cases u
  all_goals
   refine qT kZ ?_;have hs:=Sn
   conv=>whnf
   repeat'((first|apply st|(apply sq;intro K U)|(apply si;intro A B Y Z)|(apply Y;clear Z B Y A)|(apply U;clear U K)|refine Er ?_|refine Pure.use (c1 _ _ _) ?_|fail)<;>conv=>whnf)
   all_goals exact AI rfl
end Go.Gl
namespace Go.Gl
open Go.Proofs
attribute [local irreducible] BJ A2 Ak AW AM Aj AV AX AN Ai AR AU A5 BF Sat Ad BD Al W
end Go.Gl
namespace Go.Gl
open Go.Proofs
def X0 {p:Prog} {l:List Int} (h:Sb p l):Ef p l false=true:=by
 rw[Ef,BY,EN,Ce];refine⟨fun x hx=>?_,h.nodup⟩
 have hd:l.getD 0 0∈l:=by
  cases l with
  | nil=>cases hx
  | cons y r=>exact .head _
 simp only[UJ,h.Fb x hx,h.gen x hx _ hd,beq_self_eq_true,E7,Bool.not_false,Bool.true_or]
def fK (p:Prog) (os:List Ob) (gen:Int) (args:List (Int×Int)):(NV p os gen args).Pairwise (· < ·):=(G3 _).sublist (List.filter_sublist ..)
def ZV {p:Prog} {l:List Int} (h:l.Pairwise (· < ·)) (k:Int):(Bz p l k).Pairwise (· < ·):=h.sublist (List.filter_sublist ..)
def aZ {A:Int→Int→Bool} {l:List Int} (h:l.Pairwise (· < ·)):Cn (Dj A l.length (Cn l))=l:=
 H5 ((Hl _ _ (JI l)).trans (by rw[H5 (.refl l) h])) h
def aX {A:Int→Int→Bool} {l:List Int} (h:l.Pairwise (· < ·)):Cn (Dj A l.length (Cn l)).reverse=l:=
 H5 ((List.reverse_perm _).trans ((Hl _ _ (JI l)).trans (by rw[H5 (.refl l) h]))) h
def OI {A:Int→Int→Bool}: ∀(k:Nat) (l:List Int),(Dj A k l).length=k
 | 0,_=>rfl
 | k+1,l=>by simp only[Dj,KH,OI k]
attribute [local irreducible] BJ A2 Ak AW AM Aj AV AX AN Ai AR AU A5 BF Sat Ad BD Al W
set_option maxRecDepth 4000 in
set_option maxHeartbeats 4000000 in
def Tj (p:Prog) (os:List Ob) (f:Bool) (gen:Int) (args:List (Int×Int)) (g:Bool) (q3:Pure Tryz.prog 14 [] (.b true)):Pure Tryz.prog 10 [.a (BR p),.l (os.map F0) f,eI gen,.l (pP args) g] (.b true):=by
 have hM:=Mx;have q4:=fG p os f gen args g;cases ha:Ca p os gen args<;>rw[ha]at q4
 ·refine ZH kZ ?_
  have hs:=Sn
  conv=>whnf
  repeat'((first|apply st|(apply sq;intro K U)|(apply si;intro A B Y Z)|(apply Y;clear Z B Y A)|(apply U;clear U K)|refine⟨kZ,?_⟩|refine Er ?_|refine q3.use ?_|refine q4.use ?_|clear U K)<;>conv=>whnf)
  all_goals exact AI rfl
 have q1:=Yj p os f gen args g;have q2:=Uk p os f gen args g;rw[K9,ha,if_pos rfl]at q1;rw[MQ,ha,if_pos rfl]at q2;have Y:=Ug ha;have hok:=look_ok Y.look;have hG:=Qn (p:=p) (os:=os) (gen:=gen) (args:=args) hok.many;have hlt:=fK p os gen args;clear ha;generalize NV p os gen args=l at *;by_cases he:(Bz p l 1).isEmpty=true
 ·have hpl:Im (AY p) p l=(gZ,false):=by rw[Im,he];rfl
  rw[hpl]at q2;replace q2:Pure Tryz.prog 20 [.a (BR p),.l (os.map F0) f,eI gen,.l (pP args) g] (.t [.a (nu gZ true true),eI 5]):=q2;refine ZH kZ ?_;have hs:=Sn
  conv=>whnf
  repeat'((first|apply st|(apply sq;intro K U)|(apply si;intro A B Y Z)|(apply Y;clear Z B Y A)|(apply U;clear U K)|refine⟨rfl,?_⟩|refine⟨kZ,?_⟩|refine Dy fun σ hs=>?_|refine De ?_|refine q1.use ?_|refine q2.use ?_|refine q3.use ?_|refine q4.use ?_|(constructor<;>intro hc<;>(try rw[hc])<;>(replace hc:=bp hc)<;>(try simp(disch:=omega) only[BQ,wrap64,AL]at hc)<;>try(exfalso;omega))|(intro nn hnn;generalize hg:BA _ nn _=σ;refine Ct hg fun hs=>?_;clear hg)|clear U K)<;>conv=>whnf)
  all_goals exact AI rfl
 have hpl:Im (AY p) p l=(ff (AY p) p l,true):=by rw[Im,if_neg he]
 rw[hpl]at q2;replace q2:Pure Tryz.prog 20 [.a (BR p),.l (os.map F0) f,eI gen,.l (pP args) g] (.t [.a [.l (iL (Bf (AY p) (Bz p l 4).length (Bz p l 4)).1) true,.b (Bf (AY p) (Bz p l 4).length (Bz p l 4)).2,.l (iL (Dj (AY p) (Bz p l 2).length (Cn (Bz p l 2)))) true,.l (iL (Bf (AY p) (Bz p l 1).length (Bz p l 1)).1) true,.b (Bf (AY p) (Bz p l 1).length (Bz p l 1)).2,.l (iL (Dj (AY p) (Bz p l 3).length (Cn (Bz p l 3))).reverse) false],eI 0]):=q2;clear hpl;have c35:=jK p l true false (by have:=hG.many;omega);rw[X0 hG]at c35;have o1:=dC p l true 1 hG.Fb hG.many hok.many;have o2:=dC p l true 2 hG.Fb hG.many hok.many;have o3:=dC p l true 3 hG.Fb hG.many hok.many;have o4:=dC p l true 4 hG.Fb hG.many hok.many;have i1:=Wu p (Bz p l 1) (Bf (AY p) (Bz p l 1).length (Bz p l 1)).1 false true (Bf (AY p) (Bz p l 1).length (Bz p l 1)).2 Y.look (hG.of 1).1 (hG.of 1).2 rfl;have i4:=Wu p (Bz p l 4) (Bf (AY p) (Bz p l 4).length (Bz p l 4)).1 false true (Bf (AY p) (Bz p l 4).length (Bz p l 4)).2 Y.look (hG.of 4).1 (hG.of 4).2 rfl;have b2:=OI (A:=AY p) (Bz p l 2).length (Cn (Bz p l 2));have b3:=OI (A:=AY p) (Bz p l 3).length (Cn (Bz p l 3));have m2:=(hG.of 2).1.many;have m3:=(hG.of 3).1.many;have s2:=ZR (Dj (AY p) (Bz p l 2).length (Cn (Bz p l 2))) true (by omega);have s3:=ZR (Dj (AY p) (Bz p l 3).length (Cn (Bz p l 3))).reverse false (by rw[List.length_reverse];omega);rw[aZ (ZV hlt 2)]at s2;rw[aX (ZV hlt 3)]at s3
 have z2: ∀a b,Pure Tryz.prog 30 [.l (iL (Bz p l 2)) a,.l (iL (Bz p l 2)) b] (.b true):=fun a b=>by
  have:=EU (Bz p l 2) (Bz p l 2) a b
  rwa [beq_self_eq_true]at this
 have z3: ∀a b,Pure Tryz.prog 30 [.l (iL (Bz p l 3)) a,.l (iL (Bz p l 3)) b] (.b true):=fun a b=>by
  have:=EU (Bz p l 3) (Bz p l 3) a b
  rwa [beq_self_eq_true]at this
 have hbm: ∀x∈Dj (AY p) (Bz p l 2).length (Cn (Bz p l 2)),A1 p x=true:=fun x hx=>
  hG.Fb x (Hv (Lw.1 ((Hl _ _ (JI _)).mem_iff.1 hx))).1
 have hbo:=PC hok (Bz p l 2).length (Cn (Bz p l 2)) (JI _) fun x hx=>hG.Fb x (Hv (Lw.1 hx)).1
 clear he hlt hG Y;generalize Dj (AY p) (Bz p l 2).length (Cn (Bz p l 2))=bs at *;generalize Dj (AY p) (Bz p l 3).length (Cn (Bz p l 3))=xs at *;generalize Bf (AY p) (Bz p l 1).length (Bz p l 1)=c1 at *;generalize Bf (AY p) (Bz p l 4).length (Bz p l 4)=c4 at *;generalize Bz p l 1=l1 at *;generalize Bz p l 2=l2 at *;generalize Bz p l 3=l3 at *;generalize Bz p l 4=l4 at *;obtain⟨r1,t1⟩:=c1;obtain⟨r4,t4⟩:=c4;dsimp only at *;have hbl:bs.length≤16:=by omega
 clear b2 b3 m2 m3;refine ZH kZ ?_;have hs:=Sn
 conv=>whnf
 repeat'((first|apply st|(apply sq;intro K U)|(apply si;intro A B Y Z)|(apply Y;clear Z B Y A)|(apply U;clear U K)|apply dr|refine rk ?_ ?_|exact fun s e=>by cases e;rfl|refine⟨rfl,?_⟩|refine⟨kZ,?_⟩|refine ld ?_|refine Dy fun σ hs=>?_|refine De ?_|refine JS ?_|refine c35.use ?_|refine q1.use ?_|refine q2.use ?_|refine q4.use ?_|refine o1.use ?_|refine o2.use ?_|refine o3.use ?_|refine o4.use ?_|refine i1.use ?_|refine i4.use ?_|refine s2.use ?_|refine s3.use ?_|refine Pure.use (z2 _ _) ?_|refine Pure.use (z3 _ _) ?_|(constructor<;>intro hc<;>(try rw[hc])<;>(replace hc:=bp hc)<;>(try simp(disch:=omega) only[BQ,wrap64,AL]at hc)<;>try(exfalso;omega))|(intro nn hnn;generalize hg:BA _ nn _=σ;refine Ct hg fun hs=>?_;clear hg)|fail)<;>conv=>whnf)
 refine B2 bs.length (fun i (_:Unit)=>[(13,eI (A4 i))]) (fun _ _=>[.box nn [.l (iL r4) true,.b t4,.l (iL bs) true,.l (iL r1) true,.b t1,.l (iL xs.reverse) false]]) (fun _ _=>True) () rfl trivial hs ?_;clear hs;rintro i - σ hi - hs;rcases BC bs hi with⟨x,hx,hlt⟩|hie
 ·have hmx:=hbm x (B5 hx)
  conv=>whnf
  repeat'((first|apply st|(apply sq;intro K U)|(apply si;intro A B Y Z)|(apply Y;clear Z B Y A)|(apply U;clear U K)|refine⟨rfl,?_⟩|refine ld ?_|(refine CK (fun hc=>?_)<;>(try rw[hc])<;>clear hc)|fail)<;>conv=>whnf)
  refine B2 (bs.length - (i+1)) (fun j (_:Unit)=>[(14,eI (A4 (i+1+j)))]) (fun _ _=>[.box nn [.l (iL r4) true,.b t4,.l (iL bs) true,.l (iL r1) true,.b t1,.l (iL xs.reverse) false]]) (fun _ _=>True) () rfl trivial hs ?_;clear hs;rintro j - σ hj - hs;rcases BC bs (k:=i+1+j) (by omega)with⟨y,hy,hjlt⟩|hje
  ·have hmy:=hbm y (B5 hy)
   have c5:=fP p y x hok hmy hmx;have hp:=List.pairwise_iff_getElem.1 hbo i (i+1+j) hlt hjlt (by omega);have e1:=(G7.1 hx).2;have e2:=(G7.1 hy).2;rw[e1,e2]at hp;rw[hp]at c5;clear hp e1 e2
   conv=>whnf
   repeat'((first|apply st|(apply sq;intro K U)|(apply si;intro A B Y Z)|(apply Y;clear Z B Y A)|(apply U;clear U K)|apply dr|refine⟨rfl,?_⟩|refine⟨kZ,?_⟩|refine ix ?_|refine ld ?_|(refine CK (fun hc=>?_)<;>(try rw[hc])<;>clear hc)|refine c5.use ?_|clear U K)<;>conv=>whnf)
   all_goals exact⟨by omega,(),rfl,trivial,hs⟩
  ·conv=>whnf
   repeat'((first|apply st|(apply sq;intro K U)|(apply si;intro A B Y Z)|(apply Y;clear Z B Y A)|(apply U;clear U K)|refine⟨rfl,?_⟩|refine ld ?_|(refine DR (fun hc=>?_)<;>(try rw[hc])<;>clear hc)|clear U K)<;>conv=>whnf)
   all_goals exact⟨hlt,(),rfl,trivial,hs⟩
 ·conv=>whnf
  repeat'((first|apply st|(apply sq;intro K U)|(apply si;intro A B Y Z)|(apply Y;clear Z B Y A)|(apply U;clear U K)|refine⟨rfl,?_⟩|refine ld ?_|(refine DR (fun hc=>?_)<;>(try rw[hc])<;>clear hc)|refine q3.use ?_|clear U K)<;>conv=>whnf)
  all_goals exact AI rfl
end Go.Gl
namespace Go.Gl
open Go.Proofs
def ni (c:Int):Fact:=Fact.mk 2 0 [] c 0 []
def PI:Prog:=⟨[⟨[],[],[]⟩,⟨[3],[],[]⟩,⟨[3],[],[]⟩,⟨[4,5],[],[]⟩],0,[1],
 [⟨1,0,ni 3,0⟩,⟨1,0,ni 4,1⟩,⟨1,0,ni 5,2⟩,⟨2,0,Fact.mk 1 0 [] 0 0 [],3⟩,⟨2,0,ni 4,4⟩,⟨3,0,ni 3,5⟩,⟨3,0,ni 4,6⟩],
 [⟨2,0,[]⟩,⟨2,0,[]⟩,⟨2,0,[]⟩,⟨2,0,[]⟩,⟨2,0,[]⟩,⟨2,0,[]⟩,⟨2,0,[]⟩,⟨2,0,[]⟩],7⟩
def jd:Hs PI 1 0=(true,0):=by kernel_rfl
def jc:Hs PI 1 2=(false,0):=by kernel_rfl
def je:Hs PI 0 3=(false,7):=by kernel_rfl
end Go.Gl
namespace Go.Gl
open Go.Proofs
attribute [local irreducible] BJ A2 Ak AW AM Aj AV AX AN Ai AR AU A5 BF Sat Ad BD Al W
def uq (c:Int):Pure Tryz.prog 74 [eI c] (.a [eI 2,eI 0,.l [] true,eI c,eI 0,.l [] true]):=by
 refine px kZ ?_;have hs:=Sn
 conv=>whnf
 repeat'((first|apply st|(apply sq;intro K U)|(apply si;intro A B Y Z)|(apply Y;clear Z B Y A)|(apply U;clear U K)|refine⟨kZ,?_⟩|refine ld ?_|refine Dy fun σ hs=>?_|(intro nn hnn;generalize hg:BA _ nn _=σ;refine Ct hg fun hs=>?_;clear hg)|fail)<;>conv=>whnf)
 all_goals exact AI rfl
def uK (k:Nat):Int:=if k<3 then 1 else if k<5 then 2 else 3
def wi (k:Nat):Int:=if k=3 then 1 else 2
def wj (k:Nat):Int:=if k=0 then 3 else if k=1 then 4 else if k=2 then 5 else if k=3 then 0 else if k=4 then 4 else if k=5 then 3 else 4
def mR (b:Bool) (k:Nat):List V:=[eI (uK k),eI 0,eI (wi k),eI 0,.l [] b,eI (wj k),eI 0,.l [] b,eI (A4 k)]
def fR (k:Nat):List V:=[eI (wi k),eI 0,.l [] true,eI (wj k),eI 0,.l [] true]
def nR (b:Bool) (_:Nat):List V:=[eI 2,eI 0,.l [] b]
def eS:Eg (mR true) 9:=fun x=>⟨rfl,fun v hv=>by
 simp only[mR,GB,List.not_mem_nil,or_false]at hv
 rcases hv with rfl|rfl|rfl|rfl|rfl|rfl|rfl|rfl|rfl<;>rfl⟩
def We:Eg (nR true) 3:=fun x=>⟨rfl,fun v hv=>by
 simp only[nR,GB,List.not_mem_nil,or_false]at hv
 rcases hv with rfl|rfl|rfl<;>rfl⟩
abbrev c9:V:= .l [[.l [] true,.l [] true,.l [] true],[.l [[eI 3]] true,.l [] true,.l [] true],[.l [[eI 3]] true,.l [] true,.l [] true],[.l [[eI 4],[eI 5]] true,.l [] true,.l [] true]] true
def bf {σ:AH}:GC σ emp c9 (.l (PI.AP.map PS) false):=
 .l (fun h=>by cases h) (.cons (.cons CG (.cons CG (.cons CG .nil))) (.cons (.cons Nf (.cons CG (.cons CG .nil))) (.cons (.cons Nf (.cons CG (.cons CG .nil))) (.cons (.cons Nf (.cons CG (.cons CG .nil))) .nil))))
def jG {σ:AH} (k:Nat):DK σ emp (mR true k) (mR false k):= .cons (.refl _) (.cons (.refl _) (.cons (.refl _) (.cons (.refl _) (.cons CG (.cons (.refl _) (.cons (.refl _) (.cons CG (.cons (.refl _) .nil))))))))
def jD {σ:AH} (k:Nat):DK σ emp (nR true k) (nR false k):= .cons (.refl _) (.cons (.refl _) (.cons CG .nil))
set_option maxHeartbeats 4000000 in
def uv:Pure Tryz.prog 48 [] (.a (BR PI)):=by
 refine Pure.of ?_;have hM:=Mx;refine qF kZ ?_;have hs:=Sn
 conv=>whnf
 repeat'((first|apply st|(apply sq;intro K U)|(apply si;intro A B Y Z)|(apply Y;clear Z B Y A)|(apply U;clear U K)|refine Dy fun σ hs=>?_|refine Pure.use (uq _) ?_|(intro nn hnn;generalize hg:BA _ nn _=σ;refine Ct hg fun hs=>?_;clear hg)|fail)<;>conv=>whnf)
 rename_i n0 _ _ _ _ _;refine B2 (List.range 7).length (fun k (_:V×V)=>[(2,.l ((List.range 7).map fun k=>[eI (uK k)]) true),(3,.l ((List.range 7).map fR) true),(4,eI (A4 k))]) (fun k x=>[.box nn [c9,eI 0,.l [[eI 1]] true,x.1,x.2,eI 0],.box n0 [.l [] true,eI 0,.l [] true,.l [] true,.l [] true,eI 0],.own x.1 9 ((List.range k).map (mR true)),.own x.2 3 ((List.range k).map (nR true))]) (fun _ _=>True) (.l [] true,.l [] true) rfl trivial (E9 (E9 hs 9) 3) ?_;clear hs;rintro k ⟨v,u⟩ σ hk - hs;dsimp only at hs;have hr7:(List.range 7).length=7:=uS;have hlr:(List.range k).length=k:=uS;rcases BC (List.range 7) hk with⟨y,hy,hlt⟩|hke
 ·obtain rfl:k=y:=by
   have h:=(G7.1 hy).2;rw[List.getElem_range]at h;exact h
  have hck:A4 k=k:=AL (by omega);have e1:(List.range (k+1)).map (mR true)=(List.range k++[k]).map (mR true):=by rw[List.range_succ]
  have e2:(List.range (k+1)).map (nR true)=(List.range k++[k]).map (nR true):=by rw[List.range_succ]
  have hll:(List.range k).length<Af∧((List.range k).length+1)*104≤140737488355328:=by omega
  have hl2:(List.range k).length<Af∧((List.range k).length+1)*40≤140737488355328:=by omega
  generalize List.range k=ks at *
  conv=>whnf
  repeat'((first|apply st|(apply sq;intro K U)|(apply si;intro A B Y Z)|(apply Y;clear Z B Y A)|(apply U;clear U K)|apply dr|refine⟨rfl,?_⟩|refine⟨kZ,?_⟩|refine ix ?_|refine ld ?_|refine FB fun σ hs=>?_|(refine CK (fun hc=>?_)<;>(try rw[hc])<;>clear hc)|refine aq (enc:=mR true) (x:=k) (fun v σ hs hsl=>?_) (hg:=eS)|refine aq (enc:=nR true) (x:=k) (fun v σ hs hsl=>?_) (hg:=We)|clear U K)<;>conv=>whnf)
  rename_i v9 _ _ _ _ _ _ _;exact⟨hlt,(v9,v),rfl,trivial,by rw[e1,e2];exact hs⟩
 ·have hl2:(List.range k).length<Af∧((List.range k).length+1)*40≤140737488355328:=by omega
  conv=>whnf
  repeat'((first|apply st|(apply sq;intro K U)|(apply si;intro A B Y Z)|(apply Y;clear Z B Y A)|(apply U;clear U K)|refine⟨rfl,?_⟩|refine⟨kZ,?_⟩|refine ld ?_|refine FB fun σ hs=>?_|(refine DR (fun hc=>?_)<;>(try rw[hc])<;>clear hc)|refine aq (enc:=nR true) (x:=k) (fun v σ hs hsl=>?_) (hg:=We)|clear U K)<;>conv=>whnf)
  obtain rfl:k=7:=by omega
  have o1:=HD hs 2 rfl;have o2:=HD hs 3 rfl;refine Iy hs 1 rfl rfl rfl (by simp[c9,o1,o2]) (by decide) fun σ hs=>?_
  clear o1 o2
  conv=>whnf
  repeat'((first|apply st|(apply Y;clear Z B Y A)|(apply U;clear U K)|refine⟨kZ,?_⟩|refine ld ?_|fail)<;>conv=>whnf)
  have hfr:GC σ emp (V.a [c9,eI 0,.l [[eI 1]] true,_,v,eI (((List.range 7).map fun k=>[eI (uK k)]).length:Nat)]) (V.a [.l (PI.AP.map PS) false,eI 0,.l [[eI 1]] false,.l ((List.range 7).map (mR false)) false,.l ((List.range 7++[7]).map (nR false)) false,eI (((List.range 7).map fun k=>[eI (uK k)]).length:Nat)]):= .a (.cons bf (.cons (.refl _) (.cons Nf (.cons (Own.oU (hs.get (i:=2) rfl) (OB jG _)) (.cons (Own.oU (hs.get (i:=3) rfl) (OB jD _)) (.cons (.refl _) .nil))))));refine F4 (σ2:=emp) (fun n o ho=>by cases ho) hfr ?_;show R.ret _=R.ret _
  kernel_rfl
def S6 {n:Nat} {f:Nat→Nat→Bool} {i:Nat} (h: ∀j,f i j=false):KN n f i= []:=by
 rw[KN,List.filter_eq_nil_iff.2 fun j _=>by rw[h j];decide];rfl
set_option maxHeartbeats 4000000 in
def dh (p : Prog) (gen kind:Int):Pure Tryz.prog 15 [.a (BR p),eI gen,eI kind] (.t [.l (pP (Gk p gen kind).1) true,eI (Gk p gen kind).2]):=by
 refine Pure.of ?_;have hM:=Mx;have hr:=HV p;refine qX kZ ?_;have hs:=Sn
 conv=>whnf
 repeat'((first|apply st|(apply sq;intro K U)|(apply si;intro A B Y Z)|(apply Y;clear Z B Y A)|(apply U;clear U K)|refine⟨kZ,?_⟩|fail)<;>conv=>whnf)
 refine hr.use (rest:=[]) (by simpa using hs) ?_;clear hs;cases h:(BV p).isSome
 ·have hg:=Ua gen
  rintro r post σ ⟨rfl,rfl⟩ hs
  conv=>whnf
  repeat'((first|apply st|(apply sq;intro K U)|(apply si;intro A B Y Z)|(apply Y;clear Z B Y A)|(apply U;clear U K)|refine ld ?_|refine FB fun σ hs=>?_|refine UR ?_|refine hg.use ?_|(intro nn hnn;generalize hg:BA _ nn _=σ;refine Ct hg fun hs=>?_;clear hg)|clear U K)<;>conv=>whnf)
  exact AQ (by simp[Gk,h])
 ·rintro r post σ ⟨L,rfl,rfl⟩ hs
  have hg:=ZE p L gen;have hok:=look_ok h;have h16:=hok.many;have hgw:=Nd h;have hfm:=Kj h;cases h2:Jl p gen
  ·rw[h2]at hg
   conv=>whnf
   repeat'((first|apply st|(apply sq;intro K U)|(apply si;intro A B Y Z)|(apply Y;clear Z B Y A)|(apply U;clear U K)|refine ld ?_|refine FB fun σ hs=>?_|refine UR ?_|refine hg.use ?_|(intro nn hnn;generalize hg:BA _ nn _=σ;refine Ct hg fun hs=>?_;clear hg)|clear U K)<;>conv=>whnf)
   exact AQ (by simp[Gk,h,h2])
  rw[h2]at hg;by_cases h3:Sc kind=true
  ·have hk :=h3
   simp only[Sc,BY,Ce]at hk
   conv=>whnf
   repeat'((first|apply st|(apply sq;intro K U)|(apply si;intro A B Y Z)|(apply Y;clear Z B Y A)|(apply U;clear U K)|refine⟨rfl,?_⟩|refine ld ?_|refine FB fun σ hs=>?_|refine JS ?_|refine hg.use ?_|refine Pure.use (XG _ _ _) ?_|(constructor<;>intro hc<;>(try rw[hc])<;>(replace hc:=bp hc)<;>try(exfalso;omega))|(intro nn hnn;generalize hg:BA _ nn _=σ;refine Ct hg fun hs=>?_;clear hg)|clear U K)<;>conv=>whnf)
   ·rename_i nr _ _ _ _ _ _ nO _ _ _
    refine Sa p L gen h16 (nn:=nn) (fun s:List (Int×Int)×List (Int×Int)×V=>[.box nO [s.2.2],.own s.2.2 2 (pP s.2.1),.box nr [Ft p L],.map L (FI p s.1)]) (fun k s=>s.2.1=(List.range k).flatMap (KN p.methods.length (IZ p gen kind))) ([],[],.l [] true) rfl ((C7 hs 2).perm (IL _ _ _ _)) ?_ ?_ ?_
    ·intro k s hlt hne hi
     rw[Hi,←hi,S6 (fun j=>by simp[IZ,hne]),Ig]
    ·clear hs hnn
     intro k s hlt hgk hi rest σ hs;have hck:A4 k=k:=AL (by omega);have hmk:A1 p (k:Int)=true:=by simp[A1];omega
     rw[←hck];refine El (l:=[.box nO [s.2.2],.own s.2.2 2 (pP s.2.1),.box nr [Ft p L],.map L (FI p s.1)]++rest) rfl hs ?_;clear hs;intro σ hs
     conv=>whnf
     repeat'((first|apply st|(apply sq;intro K U)|(apply si;intro A B Y Z)|(apply Y;clear Z B Y A)|(apply U;clear U K)|refine ld ?_|refine FB fun σ hs=>?_|refine Pure.use (XG _ _ _) ?_|(intro nn hnn;generalize hg:BA _ nn _=σ;refine Ct hg fun hs=>?_;clear hg)|clear U K)<;>conv=>whnf)
     rename_i nm _ _ _ _ _;clear hnn;refine Sa p L gen h16 (nn:=nn) (fun s':List (Int×Int)×List (Int×Int)×V=> .box nm [eI (A4 k)]::([.box nO [s'.2.2],.own s'.2.2 2 (pP s'.2.1),.box nr [Ft p L],.map L (FI p s'.1)]++rest)) (fun j s'=>s'.2.1=(List.range k).flatMap (KN p.methods.length (IZ p gen kind))++LX (IZ p gen kind) k j) s (by simp[LX,hi]) hs ?_ ?_ ?_
     ·intro j s' hjlt hne hi'
      have:IZ p gen kind k j=false:=by
       rw[←Bool.not_eq_true,av];exact fun e=>hne e.2.1.1
      rw[JL,this,hi'];simp
     ·clear hs hi
      intro j s' hjlt hgj hi' rest2 σ hs;have hcj:A4 j=j:=AL (by omega);have hmj:A1 p (j:Int)=true:=by simp[A1];omega
      obtain⟨x,hx⟩: ∃x,p.methods[k]? =some x:=⟨_,DJ hlt⟩
      have hxe:BN p (k:Int)=x:=by
       have:=Br hmk;rw[KF,hx]at this;exact(Option.some.inj this).symm
      have c4:Pure Tryz.prog 44 [Ft p L,eI (A4 k),eI (A4 j)] (.b (CR p k j)):=by rw[hck,hcj];exact NM p L k j hmk hmj
      have c5:Bk Tryz.prog 45 [Ft p L,eI (A4 k),eI (A4 j)] [.map L (FI p s'.1)] fun r post=>r= .ret (.b (AY p k j))∧post= [.map L (FI p (NX p s'.1 k j))]:=by rw[hck,hcj];exact ON p L k j hok hgw hfm hmk hmj s'.1
      have hoe:IZ p gen kind k j=(x.kind==kind&&(CR p k j&&AY p k j)):=by rw[IZ,hxe,←hxe,hgk,hxe];simp
      have hrs:=JL (IZ p gen kind) k j;have hfl:=NJ p.methods.length (IZ p gen kind) k;have hrl:=RX (IZ p gen kind) k j;have hkk:k*p.methods.length≤16*16:=Nat.mul_le_mul (by omega) h16;have hll:s'.2.1.length<Af∧(s'.2.1.length+1)*16≤140737488355328:=by rw[hi',PK];omega
      have hno:IZ p gen kind k j=false→s'.2.1=(List.range k).flatMap (KN p.methods.length (IZ p gen kind))++LX (IZ p gen kind) k (j+1):=fun e=>by rw[hrs,e,hi'];simp
      rw[←hcj];refine El (l:= .box nm [eI (A4 k)]::([.box nO [s'.2.2],.own s'.2.2 2 (pP s'.2.1),.box nr [Ft p L],.map L (FI p s'.1)]++rest)++rest2) rfl hs ?_;clear hs;intro σ hs;by_cases hkd:x.kind=kind
      ·cases hal:CR p k j<;>rw[hal]at c4
       ·conv=>whnf
        repeat'((first|apply st|(apply sq;intro K U)|(apply si;intro A B Y Z)|(apply Y;clear Z B Y A)|(apply U;clear U K)|apply dr|refine⟨rfl,?_⟩|refine ix ?_|refine ld ?_|refine De ?_|refine c4.use ?_|(constructor<;>intro hc<;>(try rw[hc])<;>(replace hc:=bp hc)<;>try(exfalso;omega))|fail)<;>conv=>whnf)
        intro hn;exact⟨s',rfl,hno (by rw[hoe,hal];simp),hs.Jm hn⟩
       ·cases hah:AY p k j<;>rw[hah]at c5
        all_goals
         conv=>whnf
         repeat'((first|apply st|(apply sq;intro K U)|(apply si;intro A B Y Z)|(apply Y;clear Z B Y A)|apply dr|refine⟨rfl,?_⟩|refine ix ?_|refine ld ?_|refine Er ?_|refine c4.use ?_|(constructor<;>intro hc<;>(try rw[hc])<;>(replace hc:=bp hc)<;>try(exfalso;omega))|fail)<;>conv=>whnf)
         refine c5.use (rest:=_) (hs.front (j:=4) rfl) ?_;clear hs;rintro r post σ ⟨rfl,rfl⟩ hs
         conv=>whnf
         repeat'((first|apply st|(apply si;intro A B Y Z)|(apply Y;clear Z B Y A)|(apply U;clear U K)|apply dr|refine ld ?_|refine FB fun σ hs=>?_|refine Er ?_|refine De ?_|refine aq (enc:=pI) (x:=((_:Int),(_:Int))) (fun v σ hs hsl=>?_) (hg:=Ns)|fail)<;>conv=>whnf)
        ·intro hn
         exact⟨(NX p s'.1 k j,s'.2.1,s'.2.2),rfl,hno (by rw[hoe,hah];simp),(Sat.back (l:=(.box nm [eI (A4 k)]::([.box nO [s'.2.2],.own s'.2.2 2 (pP s'.2.1),.box nr [Ft p L],.map L (FI p (NX p s'.1 k j))]++rest))++rest2) (j:=4) hs rfl).Jm hn⟩
        ·intro hn
         refine⟨(NX p s'.1 k j,s'.2.1++[((k:Int),(j:Int))],v),rfl,?_,Sat.Jm ?_ hn⟩
         ·rw[hrs,show IZ p gen kind k j=true by rw[hoe,hah,hal];simp[hkd],hi',if_pos rfl,UC]
         ·rw[show((k:Int),(j:Int))=(A4 k,A4 j) by rw[hck,hcj]]
          exact Sat.back (l:=(.box nm [eI (A4 k)]::([.box nO [v],.own v 2 (pP (s'.2.1++[(A4 k,A4 j)])),.box nr [Ft p L],.map L (FI p (NX p s'.1 k j))]++rest))++rest2) (j:=4) hs rfl
      ·conv=>whnf
       repeat'((first|apply st|(apply sq;intro K U)|(apply si;intro A B Y Z)|(apply Y;clear Z B Y A)|(apply U;clear U K)|apply dr|refine⟨rfl,?_⟩|refine ix ?_|refine ld ?_|(constructor<;>intro hc<;>(try rw[hc])<;>(replace hc:=bp hc)<;>try(exfalso;omega))|fail)<;>conv=>whnf)
       intro hn;exact⟨s',rfl,hno (by rw[hoe];simp[hkd]),hs.Jm hn⟩
     ·clear hs hi
      intro s' σ hi' hs;refine Fi hs fun σ hs=>?_
      conv=>whnf
      intro hn;exact⟨s',rfl,by rw[Hi];exact hi',(hs.less (Ji _ _)).Jm hn⟩
    ·clear hs hnn
     intro s σ hi hs;refine Fi hs fun σ hs=>?_
     conv=>whnf
     repeat'((first|(apply sq;intro K U)|(apply si;intro A B Y Z)|(apply U;clear U K)|refine ld ?_|fail)<;>conv=>whnf)
     refine(Zz s.2.1 s.2.2 (by have:=NJ p.methods.length (IZ p gen kind) p.methods.length;have:p.methods.length*p.methods.length≤16*16:=Nat.mul_le_mul h16 h16;rw[hi];omega)).use (rest:=_) (hs.front (j:=1) rfl) ?_;clear hs;rintro r post σ ⟨rfl,rfl⟩ hs
     conv=>whnf
     repeat'((first|apply st|(apply Y;clear Z B Y A)|(apply U;clear U K)|fail)<;>conv=>whnf)
     exact AQ (by simp[Gk,h,h2,h3,RE,hi])
   ·exfalso
    simp at hc;omega
  ·have hk:kind<1∨4<kind:=by simp only[Sc,BY,Ce]at h3;omega
   have h3':Sc kind=false:=by simpa using h3
   rcases hk with hk|hk
   ·conv=>whnf
    repeat'((first|apply st|(apply sq;intro K U)|(apply si;intro A B Y Z)|(apply Y;clear Z B Y A)|(apply U;clear U K)|refine⟨rfl,?_⟩|refine ld ?_|refine FB fun σ hs=>?_|refine JS ?_|refine hg.use ?_|refine Pure.use (XG _ _ _) ?_|(constructor<;>intro hc<;>(try rw[hc])<;>(replace hc:=bp hc)<;>try(exfalso;omega))|(intro nn hnn;generalize hg:BA _ nn _=σ;refine Ct hg fun hs=>?_;clear hg)|clear U K)<;>conv=>whnf)
    ·exfalso
     have q:(bif !true then true else decide (kind<1))=false:=by assumption
     simp at q;omega
    ·exact AQ (by simp[Gk,h,h2,h3'])
   ·conv=>whnf
    repeat'((first|apply st|(apply sq;intro K U)|(apply si;intro A B Y Z)|(apply Y;clear Z B Y A)|(apply U;clear U K)|refine⟨rfl,?_⟩|refine ld ?_|refine FB fun σ hs=>?_|refine JS ?_|refine hg.use ?_|(constructor<;>intro hc<;>(try rw[hc])<;>(replace hc:=bp hc)<;>try(exfalso;omega))|(intro nn hnn;generalize hg:BA _ nn _=σ;refine Ct hg fun hs=>?_;clear hg)|clear U K)<;>conv=>whnf)
    all_goals exact AQ (by simp[Gk,h,h2,h3'])
set_option maxHeartbeats 4000000 in
def dJ (p : Prog) (gen:Int):Pure Tryz.prog 17 [.a (BR p),eI gen] (.t [.l (pP (Lh p gen).1) true,eI (Lh p gen).2]):=by
 refine Pure.of ?_;have hM:=Mx;have hr:=HV p;refine qW kZ ?_;have hs:=Sn
 conv=>whnf
 repeat'((first|apply st|(apply sq;intro K U)|(apply si;intro A B Y Z)|(apply Y;clear Z B Y A)|(apply U;clear U K)|refine⟨kZ,?_⟩|fail)<;>conv=>whnf)
 refine hr.use (rest:=[]) (by simpa using hs) ?_;clear hs;cases h:(BV p).isSome
 ·have hg:=Ua gen
  rintro r post σ ⟨rfl,rfl⟩ hs
  conv=>whnf
  repeat'((first|apply st|(apply sq;intro K U)|(apply si;intro A B Y Z)|(apply Y;clear Z B Y A)|(apply U;clear U K)|refine ld ?_|refine FB fun σ hs=>?_|refine Er ?_|refine hg.use ?_|(intro nn hnn;generalize hg:BA _ nn _=σ;refine Ct hg fun hs=>?_;clear hg)|clear U K)<;>conv=>whnf)
  exact AQ (by simp[Lh,h])
 ·rintro r post σ ⟨L,rfl,rfl⟩ hs
  have hg:=ZE p L gen;have hok:=look_ok h;have h16:=hok.many;have hgw:=Nd h;have hfm:=Kj h;cases h2:Jl p gen
  ·rw[h2]at hg
   conv=>whnf
   repeat'((first|apply st|(apply sq;intro K U)|(apply si;intro A B Y Z)|(apply Y;clear Z B Y A)|(apply U;clear U K)|refine ld ?_|refine FB fun σ hs=>?_|refine Er ?_|refine hg.use ?_|(intro nn hnn;generalize hg:BA _ nn _=σ;refine Ct hg fun hs=>?_;clear hg)|clear U K)<;>conv=>whnf)
   exact AQ (by simp[Lh,h,h2])
  rw[h2]at hg
  conv=>whnf
  repeat'((first|apply st|(apply sq;intro K U)|(apply si;intro A B Y Z)|(apply Y;clear Z B Y A)|(apply U;clear U K)|refine ld ?_|refine FB fun σ hs=>?_|refine De ?_|refine hg.use ?_|refine Pure.use (XG _ _ _) ?_|(intro nn hnn;generalize hg:BA _ nn _=σ;refine Ct hg fun hs=>?_;clear hg)|fail)<;>conv=>whnf)
  rename_i nr _ _ _ _ _ nO _ _ _;refine Sa p L gen h16 (nn:=nn) (fun s:List (Int×Int)×List (Int×Int)×V=>[.box nO [s.2.2],.own s.2.2 2 (pP s.2.1),.box nr [Ft p L],.map L (FI p s.1)]) (fun k s=>s.2.1=(List.range k).flatMap (KN p.methods.length (SB p gen))) ([],[],.l [] true) rfl ((C7 hs 2).perm (IL _ _ _ _)) ?_ ?_ ?_
  ·intro k s hlt hne hi
   rw[Hi,←hi,S6 (fun j=>by simp[SB,hne]),Ig]
  ·clear hs hnn
   intro k s hlt hgk hi rest σ hs;have hck:A4 k=k:=AL (by omega);have hmk:A1 p (k:Int)=true:=by simp[A1];omega
   rw[←hck];refine El (l:=[.box nO [s.2.2],.own s.2.2 2 (pP s.2.1),.box nr [Ft p L],.map L (FI p s.1)]++rest) rfl hs ?_;clear hs;intro σ hs
   conv=>whnf
   repeat'((first|apply st|(apply sq;intro K U)|(apply si;intro A B Y Z)|(apply Y;clear Z B Y A)|(apply U;clear U K)|refine ld ?_|refine FB fun σ hs=>?_|refine Pure.use (XG _ _ _) ?_|(intro nn hnn;generalize hg:BA _ nn _=σ;refine Ct hg fun hs=>?_;clear hg)|clear U K)<;>conv=>whnf)
   rename_i nm _ _ _ _ _;clear hnn;refine Sa p L gen h16 (nn:=nn) (fun s':List (Int×Int)×List (Int×Int)×V=> .box nm [eI (A4 k)]::([.box nO [s'.2.2],.own s'.2.2 2 (pP s'.2.1),.box nr [Ft p L],.map L (FI p s'.1)]++rest)) (fun j s'=>s'.2.1=(List.range k).flatMap (KN p.methods.length (SB p gen))++LX (SB p gen) k j) s (by simp[LX,hi]) hs ?_ ?_ ?_
   ·intro j s' hjlt hne hi'
    have:SB p gen k j=false:=by
     rw[←Bool.not_eq_true];exact fun e=>hne (dK e).1.2
    rw[JL,this,hi'];simp
   ·clear hs hi
    intro j s' hjlt hgj hi' rest2 σ hs;have hcj:A4 j=j:=AL (by omega);have hmj:A1 p (j:Int)=true:=by simp[A1];omega
    have c4:Pure Tryz.prog 44 [Ft p L,eI (A4 k),eI (A4 j)] (.b (CR p k j)):=by rw[hck,hcj];exact NM p L k j hmk hmj
    have c5:Bk Tryz.prog 54 [Ft p L,eI (A4 k),eI (A4 j)] [.map L (FI p s'.1)] fun r post=>r= .ret (.b (EP p k j))∧post= [.map L (FI p (Lf s'.1 (k,j)))]:=by rw[hck,hcj];exact H9 p L k j hok hgw hfm hmk hmj s'.1
    have c6:Bk Tryz.prog 54 [Ft p L,eI (A4 j),eI (A4 k)] [.map L (FI p (Lf s'.1 (k,j)))] fun r post=>r= .ret (.b (EP p j k))∧post= [.map L (FI p (Lf (Lf s'.1 (k,j)) (j,k)))]:=by rw[hck,hcj];exact H9 p L j k hok hgw hfm hmj hmk _
    generalize Lf (Lf s'.1 (k,j)) (j,k)=M2 at *;generalize Lf s'.1 (k,j)=M1 at *;have hoe:SB p gen k j=(decide (k<j)&&(CR p k j&&(EP p k j&&EP p j k))):=by rw[SB,hgk];simp
    have hrs:=JL (SB p gen) k j;have hfl:=NJ p.methods.length (SB p gen) k;have hrl:=RX (SB p gen) k j;have hkk:k*p.methods.length≤16*16:=Nat.mul_le_mul (by omega) h16;have hll:s'.2.1.length<Af∧(s'.2.1.length+1)*16≤140737488355328:=by rw[hi',PK];omega
    have hno:SB p gen k j=false→s'.2.1=(List.range k).flatMap (KN p.methods.length (SB p gen))++LX (SB p gen) k (j+1):=fun e=>by rw[hrs,e,hi'];simp
    rw[←hcj];refine El (l:= .box nm [eI (A4 k)]::([.box nO [s'.2.2],.own s'.2.2 2 (pP s'.2.1),.box nr [Ft p L],.map L (FI p s'.1)]++rest)++rest2) rfl hs ?_;clear hs;intro σ hs;by_cases hkj:k<j
    ·cases hal:CR p k j<;>rw[hal]at c4
     ·conv=>whnf
      repeat'((first|apply st|(apply sq;intro K U)|(apply si;intro A B Y Z)|(apply Y;clear Z B Y A)|(apply U;clear U K)|refine⟨rfl,?_⟩|refine ld ?_|refine De ?_|refine c4.use ?_|(constructor<;>intro hc<;>(try rw[hc])<;>(replace hc:=bp hc)<;>(try simp(disch:=omega) only[BQ,wrap64,AL]at hc)<;>try(exfalso;omega))|fail)<;>conv=>whnf)
      intro hn;exact⟨s',rfl,hno (by rw[hoe,hal];simp),hs.Jm hn⟩
     ·cases hi1:EP p k j<;>rw[hi1]at c5
      all_goals
       conv=>whnf
       repeat'((first|apply st|(apply sq;intro K U)|(apply si;intro A B Y Z)|(apply Y;clear Z B Y A)|refine⟨rfl,?_⟩|refine ld ?_|refine Er ?_|refine c4.use ?_|(constructor<;>intro hc<;>(try rw[hc])<;>(replace hc:=bp hc)<;>(try simp(disch:=omega) only[BQ,wrap64,AL]at hc)<;>try(exfalso;omega))|fail)<;>conv=>whnf)
       refine c5.use (rest:=_) (hs.front (j:=4) rfl) ?_;clear hs;rintro r post σ ⟨rfl,rfl⟩ hs
       conv=>whnf
       repeat'((first|apply st|(apply Y;clear Z B Y A)|(apply U;clear U K)|refine ld ?_|refine Er ?_|refine De ?_|fail)<;>conv=>whnf)
      ·intro hn
       exact⟨(M1,s'.2.1,s'.2.2),rfl,hno (by rw[hoe,hi1];simp),(Sat.back (l:=(.box nm [eI (A4 k)]::([.box nO [s'.2.2],.own s'.2.2 2 (pP s'.2.1),.box nr [Ft p L],.map L (FI p M1)]++rest))++rest2) (j:=4) hs rfl).Jm hn⟩
      cases hi2:EP p j k<;>rw[hi2]at c6
      all_goals
       refine c6.use (rest:=_) hs ?_;clear hs;rintro r post σ ⟨rfl,rfl⟩ hs
       conv=>whnf
       repeat'((first|apply st|(apply si;intro A B Y Z)|(apply Y;clear Z B Y A)|(apply U;clear U K)|refine ld ?_|refine FB fun σ hs=>?_|refine Er ?_|refine De ?_|refine aq (enc:=pI) (x:=((_:Int),(_:Int))) (fun v σ hs hsl=>?_) (hg:=Ns)|fail)<;>conv=>whnf)
      ·intro hn
       exact⟨(M2,s'.2.1,s'.2.2),rfl,hno (by rw[hoe,hi2];simp),(Sat.back (l:=(.box nm [eI (A4 k)]::([.box nO [s'.2.2],.own s'.2.2 2 (pP s'.2.1),.box nr [Ft p L],.map L (FI p M2)]++rest))++rest2) (j:=4) hs rfl).Jm hn⟩
      ·intro hn
       refine⟨(M2,s'.2.1++[((k:Int),(j:Int))],v),rfl,?_,Sat.Jm ?_ hn⟩
       ·rw[hrs,show SB p gen k j=true by rw[hoe,hi1,hi2,hal];simp[hkj],hi',if_pos rfl,UC]
       ·rw[show((k:Int),(j:Int))=(A4 k,A4 j) by rw[hck,hcj]]
        exact Sat.back (l:=(.box nm [eI (A4 k)]::([.box nO [v],.own v 2 (pP (s'.2.1++[(A4 k,A4 j)])),.box nr [Ft p L],.map L (FI p M2)]++rest))++rest2) (j:=4) hs rfl
    ·conv=>whnf
     repeat'((first|apply st|(apply sq;intro K U)|(apply si;intro A B Y Z)|(apply Y;clear Z B Y A)|(apply U;clear U K)|refine⟨rfl,?_⟩|refine ld ?_|(constructor<;>intro hc<;>(try rw[hc])<;>(replace hc:=bp hc)<;>(try simp(disch:=omega) only[BQ,wrap64,AL]at hc)<;>try(exfalso;omega))|fail)<;>conv=>whnf)
     intro hn;exact⟨s',rfl,hno (by rw[hoe,decide_eq_false hkj];rfl),hs.Jm hn⟩
   ·clear hs hi
    intro s' σ hi' hs;refine Fi hs fun σ hs=>?_
    conv=>whnf
    intro hn;exact⟨s',rfl,by rw[Hi];exact hi',(hs.less (Ji _ _)).Jm hn⟩
  ·clear hs hnn
   intro s σ hi hs;refine Fi hs fun σ hs=>?_
   conv=>whnf
   repeat'((first|(apply sq;intro K U)|(apply si;intro A B Y Z)|(apply U;clear U K)|refine ld ?_|fail)<;>conv=>whnf)
   refine(Zz s.2.1 s.2.2 (by have:=NJ p.methods.length (SB p gen) p.methods.length;have:p.methods.length*p.methods.length≤16*16:=Nat.mul_le_mul h16 h16;rw[hi];omega)).use (rest:=_) (hs.front (j:=1) rfl) ?_;clear hs;rintro r post σ ⟨rfl,rfl⟩ hs
   conv=>whnf
   repeat'((first|apply st|(apply Y;clear Z B Y A)|(apply U;clear U K)|fail)<;>conv=>whnf)
   exact AQ (by simp[Lh,h,h2,RE,hi])
end Go.Gl
namespace Go.Gl
open Go.Proofs
abbrev wh:Pl:=⟨[],false,[4,3],[1,0],false,[5,6]⟩
abbrev wg:Pl:=⟨[],false,[4,3],[],true,[5,6]⟩
def pR:MQ PI [(4,[])] 0 [(3,0)]=(wh,0):=by kernel_rfl
def pQ:MQ PI [(6,[])] 0 [(3,0)]=(wg,0):=by kernel_rfl
def pS:MQ PI [] 0 [(1,0)]=(gZ,5):=by kernel_rfl
def pO:Gm PI [0,1,2]=(([],true),0):=by kernel_rfl
def pN:Gk PI 0 1=([(1,0),(2,0)],0):=by kernel_rfl
def pM:Lh PI 0=([],0):=by kernel_rfl
def oV (c:Int) (b b2:Bool):Pure Tryz.prog 20 [.a (BR PI),.l [[eI c,.l [] true]] b,eI 0,.l [[eI 3,eI 0]] b2] (we (MQ PI [(c,[])] 0 [(3,0)]) true):=
 (Uk PI [(c,[])] false 0 [(3,0)] b2).arg (.cons (.refl _) (.cons (.l (fun h=>by cases h) (.cons (.cons (.refl _) (.cons CG .nil)) .nil)) (.cons (.refl _) (.cons (.refl _) .nil))))
attribute [local irreducible] BJ A2 Ak AW AM Aj AV AX AN Ai AR AU A5 BF Sat Ad BD Al W
set_option maxHeartbeats 4000000 in
def eG:Pure Tryz.prog 14 [] (.b true):=by
 have a1:=Ru PI 1 0;have a2:=Ru PI 1 2;have a3:=Ru PI 0 3;rw[jd]at a1;rw[jc]at a2;rw[je]at a3;have k4:=fun b c=>oV 4 b c
 have k6:=fun b c=>oV 6 b c
 have k0:=fun b c=>Uk PI [] b 0 [(1,0)] c
 rw[pR]at k4;rw[pQ]at k6;rw[pS]at k0;have ch:=fun b=>Wv PI [0,1,2] b (by decide)
 rw[pO]at ch;have or:=dh PI 0 1;rw[pN]at or;have tw:=dJ PI 0;rw[pM]at tw;have sp: ∀b c,Pure Tryz.prog 19 [.l (pP [(1,0),(2,0)]) b,.l (pP [(1,0),(2,0)]) c] (.b true):=fun b c=>Tf [(1,0),(2,0)] [(1,0),(2,0)] b c (by decide) (by decide)
 refine qY kZ ?_;have hs:=Sn
 conv=>whnf
 repeat'((first|apply st|(apply sq;intro K U)|(apply si;intro A B Y Z)|(apply Y;clear Z B Y A)|(apply U;clear U K)|refine⟨rfl,?_⟩|refine⟨kZ,?_⟩|refine ld ?_|refine Dy fun σ hs=>?_|refine De ?_|refine JS ?_|refine uv.use ?_|refine a1.use ?_|refine a2.use ?_|refine a3.use ?_|refine Pure.use (k4 _ _) ?_|refine Pure.use (k6 _ _) ?_|refine Pure.use (k0 _ _) ?_|refine Pure.use (ch _) ?_|refine or.use ?_|refine tw.use ?_|refine Pure.use (sp _ _) ?_|refine Pure.use (ZS wh _ _ _ _) ?_|refine Pure.use (ZS wg _ _ _ _) ?_|(constructor<;>intro hc<;>(try rw[hc])<;>(replace hc:=bp hc)<;>(try simp(disch:=omega) only[BQ,wrap64,AL]at hc)<;>try(exfalso;omega))|(intro nn hnn;generalize hg:BA _ nn _=σ;refine Ct hg fun hs=>?_;clear hg)|clear U K)<;>conv=>whnf)
 all_goals first
  | exact AI rfl
  | (exfalso;simp at hc;done)
  | (exfalso;clear hc;rename_i hc;simp at hc;done)
end Go.Gl
