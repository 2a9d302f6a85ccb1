import Derived.Test.YtegbmnmnaijioaaGreatProg
import Derived.KernelRfl
import Derived.Test.YtegbmnmnaijioaaGreatX6
import Derived.Test.YtegbmnmnaijioaaGreatX10
import Derived.Test.YtegbmnmnaijioaaGreatX11
import Derived.Test.YtegbmnmnaijioaaGreatX12
import Derived.Test.YtegbmnmnaijioaaGreatX13
import Derived.Test.YtegbmnmnaijioaaGreatX14
set_option linter.all false
set_option linter.defProp false
set_option maxHeartbeats 8000000
noncomputable section
namespace Go.Gl
open Go.Proofs
def rL {w:AF} (ho:ordered w.parents) {c b:Int} (h0:0<=c) (h1:c<3+w.parents.length) (hb:0<=b):G0 w.parents c b=((A5 w.parents).getD c.toNat 0).testBit b.toNat:=by
 rw[MY ho (by omega),G0];have e0:(b.toNat==0)=(b==0):=by rw[G3];simp only[Cd];omega
 rw[e0];by_cases h3:3<=c
 .rw[decide_eq_true h3,Cm]
  by_cases h:c=b
  .subst h;rw[C9 ho];simp
  .rw[beq_eq_false_iff_ne.2 h,Bool.false_or]
 .have hp:par w.parents c.toNat= []:=if_pos (by omega)
  rw[decide_eq_false h3,Bool.false_and,Bool.or_false,EI ho,hp];have:(c.toNat==b.toNat)=(c==b):=by rw[G3];simp only[Cd];omega
  rw[this,List.any_nil,Bool.or_false,Bool.or_comm]
def oX {w:AF} (hw:B3 w) {c:Int} (h0:0<=c) (h1:c<3+w.parents.length):(List.drop (c.toNat*1) (List.drop 2 (wC w (A5 w.parents))))[0]? =some (eU ((A5 w.parents).getD c.toNat 0)):=by
 have hul:(A5 w.parents).length=3+w.parents.length:=C5 _ _;rw[nU,nU,<-aB w (A5 w.parents) (i:=c.toNat) (by omega)];congr 1;omega
def y0 {w:AF} {os:List Ob} (hos:K9 w os) {v:Int×Int} (hv:Bi os.length v=true):0<=Cs os v/\Cs os v<3+w.parents.length:=by
 rw[Cs];split
 .omega
 split
 .omega
 .rename_i h1 h2
  have h3:v.1=3:=by
   simp only[Bi,if_neg h1,if_neg h2]at hv;split at hv
   .assumption
   .cases hv
  obtain⟨o,q1,q2,q3⟩:=GI hv h3;have:=hos.own o q3;have e:os.getD v.2.toNat (0,[])=o:=q2;rw[e];omega
def Nc {n:Int} {v:Int×Int} (hv:Bi n v=true):v.1=1\/v.1=2\/v.1=3:=by
 rw[Bi]at hv;by_cases h1:v.1=1
 .exact .inl h1
 by_cases h2:v.1=2
 .exact .inr (.inl h2)
 by_cases h3:v.1=3
 .exact .inr (.inr h3)
 rw[if_neg h1,if_neg h2,if_neg h3]at hv;cases hv
def AAq {op un n:Int} (h:op=3\/op=4) (hc:((un==n)==(op==4))=true):(if op=3 then decide (un<n)else un==n)=decide (un<=n):=by
 rcases h with rfl|rfl
 .have:un≠n:=by simpa using hc
  rw[if_pos rfl,decide_eq_decide];omega
 .have:un=n:=by simpa using hc
  subst this;simp
def AAr {op un n:Int} (h:op=3\/op=4) (hc:((un==n)==(op==4))=false):(if op=3 then decide (un<n)else un==n)=false:=by
 rcases h with rfl|rfl
 .have:un=n:=by simpa using hc
  subst this;simp
 .have:un≠n:=by simpa using hc
  simpa using this
attribute [local irreducible] Ar Aj AZ AQ AL AX AP AR AJ AW AM AN Am Av Sat AT As Aa W
def mP (w : AF) (os:List Ob) (b:Bool) (args:List (Int×Int)) (g:Bool) (hg:B3 w) (hw:GP w) (hos:K9 w os) (hv: ∀v∈args,Bi os.length v=true) (f:Fact):BN w f=true->DE f<=args.length->
    Pure zP 121 [.rp (wC w (A5 w.parents)),.a (xF f),.l (os.map Gt) b,.l (pP args) g] (.b (Dr w os args f)):=by
 induction f using Fact.ind with
 | h f ih=>
   intro hn hsp;refine Pure.fit (by kernel_rfl) fun hf=>?_
   have⟨h2,h3,h4⟩:=Oc hf.2.1;have hM:=Mx;have hwl:=hw.len;rw[XD,H5];rcases RY hn with h1|⟨h5,x,hk,hx⟩|⟨h6,x,y,hk,hx,hy⟩|⟨h7,x,y,hk,hx,hy⟩|⟨hop,hlf,hp,hcl,ha0⟩
   .refine Ik kZ ?_
    have hs:=Sn
    conv=>whnf
    repeat'((first|clear U K|apply st|(apply zk;intro K U)|refine zY ?_|(refine zb (fun hc=>?_) (fun hc=>?_)<;>try exact⟨⟩)|fail)<;>conv=>whnf)
    all_goals exact AG (by rw[if_pos h1])
   .have c1:=ih x (by rw[hk];exact .head _) hx (Int.le_trans (GR (by rw[hk];exact .head _)) hsp)
    have e:(f.kids.map (Dr w os args)).getD 0 false=Dr w os args x:=by rw[hk];rfl
    have hk0:f.kids[0]? =some x:=by rw[hk];rfl
    rw[if_neg (by omega),if_pos h5,e];clear e hk;refine Ik kZ ?_;have hs:=Sn;exact zW
   .have c1:=ih x (by rw[hk];exact .head _) hx (Int.le_trans (GR (by rw[hk];exact .head _)) hsp)
    have c2:=ih y (by rw[hk];exact .tail _ (.head _)) hy (Int.le_trans (GR (by rw[hk];exact .tail _ (.head _))) hsp);have e:(f.kids.map (Dr w os args)).getD 0 false=Dr w os args x:=by rw[hk];rfl
    have e2:(f.kids.map (Dr w os args)).getD 1 false=Dr w os args y:=by rw[hk];rfl
    have hk0:f.kids[0]? =some x:=by rw[hk];rfl
    have hk1:f.kids[1]? =some y:=by rw[hk];rfl
    rw[if_neg (by omega),if_neg (by omega),if_pos h6,e,e2];clear e e2 hk;cases hb:Dr w os args x<;>rw[hb]at c1
    all_goals
     refine Ik kZ ?_;have hs:=Sn;exact zW
   .have c1:=ih x (by rw[hk];exact .head _) hx (Int.le_trans (GR (by rw[hk];exact .head _)) hsp)
    have c2:=ih y (by rw[hk];exact .tail _ (.head _)) hy (Int.le_trans (GR (by rw[hk];exact .tail _ (.head _))) hsp);have e:(f.kids.map (Dr w os args)).getD 0 false=Dr w os args x:=by rw[hk];rfl
    have e2:(f.kids.map (Dr w os args)).getD 1 false=Dr w os args y:=by rw[hk];rfl
    have hk0:f.kids[0]? =some x:=by rw[hk];rfl
    have hk1:f.kids[1]? =some y:=by rw[hk];rfl
    rw[if_neg (by omega),if_neg (by omega),if_neg (by omega),if_pos h7,e,e2];clear e e2 hk;cases hb:Dr w os args x<;>rw[hb]at c1
    all_goals
     refine Ik kZ ?_;have hs:=Sn;exact zW
   .have hsl:=RH hlf
    rw[if_neg (by omega),if_neg (by omega),if_neg (by omega),if_neg (by omega),aI];obtain⟨v,hva⟩: ∃v,args[f.arg.toNat]? =some v:=⟨_,DC (by omega)⟩
    have hvd:args.getD f.arg.toNat (0,0)=v:=by rw[C6,hva];rfl
    have hvv:=hv v (CY hva);rw[hvd];have c1:=ABd w os b v f.path false hg hw hos hvv hp;have hok:=fun u=>Y5 (u:=u) hos hp hvv
    clear hvd;cases hu:cz w os f.path v with
    | none=>
      rw[hu]at c1;replace c1:Pure zP 181 [.rp (wC w (A5 w.parents)),.l (os.map Gt) b,.a (pI v),.l (iL f.path) false] (.t [.a (pI (0,0)),.b false]):=c1;refine Ik kZ ?_;have hs:=Sn
      conv=>whnf
      repeat'((first|clear U K|apply st|(apply zk;intro K U)|refine zY ?_|refine zs fun Z hs=>?_|refine⟨_,c1,?_⟩|(refine zb (fun hc=>?_) (fun hc=>?_)<;>try exact⟨⟩)|refine zo fun nn hnn Z hs=>?_|fail)<;>conv=>whnf)
      all_goals exact AG rfl
    | some u=>
      rw[hu]at c1;have hu2:=hok u hu;clear hok hu;replace c1:Pure zP 181 [.rp (wC w (A5 w.parents)),.l (os.map Gt) b,.a (pI v),.l (iL f.path) false] (.t [.a (pI u),.b true]):=c1;by_cases h2:f.op=2
      .have hcr:=y0 hos hu2
       have hfc:=hcl h2;have hup:=oX hg hcr.1 hcr.2;have hbb:=rL hw.ord hcr.1 hcr.2 hfc.1;have c2:=ba ((A5 w.parents).getD (Cs os u).toNat 0) f.cls (Nh (E9 _ _ (by have:=hg.1.1;omega)) _) hfc.1 (by omega);have hkk:=Nc hu2;dsimp only;rw[if_pos h2];rw[hbb];by_cases h3:u.1=3
       .obtain⟨o,q1,q2,q3⟩:=GI hu2 h3
        have hnr:=Qc hu2 h3
        have hce:Cs os u=o.1:=by
         rw[Cs,if_neg (by omega),if_neg (by omega)];exact congrArg Prod.fst q2
        rw[hce]at hcr hup c2 ⊢;clear hce hbb hcl hv hvv ih h4 hp hn q2;generalize A5 w.parents=us at *;obtain⟨uk,un⟩:=u;dsimp only at h3 q1 hnr;refine Ik kZ ?_;have hs:=Sn
        conv=>whnf
        repeat'((first|clear U K|apply st|(apply zk;intro K U)|refine zY ?_|refine zs fun Z hs=>?_|refine⟨_,c1,?_⟩|(refine zb (fun hc=>?_) (fun hc=>?_)<;>try exact⟨⟩)|refine zo fun nn hnn Z hs=>?_|fail)<;>conv=>whnf)
        rw[hup];exact zW
       .have hce:Cs os u=u.1:=by
         rw[Cs];split
         .omega
         .rw[if_pos (by omega)];omega
        rw[hce]at hcr hup c2 ⊢;clear hce hbb hcl hv hvv ih h4 hp hn;generalize A5 w.parents=us at *;obtain⟨uk,un⟩:=u;dsimp only at *;refine Ik kZ ?_;have hs:=Sn
        conv=>whnf
        repeat'((first|clear U K|apply st|(apply zk;intro K U)|refine zY ?_|refine zs fun Z hs=>?_|refine⟨_,c1,?_⟩|(refine zb (fun hc=>?_) (fun hc=>?_)<;>try exact⟨⟩)|refine zo fun nn hnn Z hs=>?_|fail)<;>conv=>whnf)
        rw[hup];exact zW
      .dsimp only
       rw[if_neg h2];clear hv hvv ih h4 hp hn hcl;obtain⟨uk,un⟩:=u;dsimp only at *;by_cases hk:uk=1
       .rw [Cd.2 hk,Cm]
        have h34:f.op=3\/f.op=4:=by omega
        have hT:=fun hc=>AAq (un:=un) (n:=f.n) h34 hc
        have hF:=fun hc=>AAr (un:=un) (n:=f.n) h34 hc
        refine Ik kZ ?_;have hs:=Sn
        conv=>whnf
        repeat'((first|clear U K|apply st|(apply zk;intro K U)|refine zY ?_|refine zs fun Z hs=>?_|refine⟨_,c1,?_⟩|(refine zb (fun hc=>?_) (fun hc=>?_)<;>try exact⟨⟩)|refine zo fun nn hnn Z hs=>?_|fail)<;>conv=>whnf)
        all_goals
         refine AG ?_
         first
          | (rw[hT (by assumption)];rfl)
          | (rw[hF (by assumption)];rfl)
       .rw[beq_eq_false_iff_ne.2 hk,Bool.false_and]
        refine Ik kZ ?_;have hs:=Sn
        conv=>whnf
        repeat'((first|clear U K|apply st|(apply zk;intro K U)|refine zY ?_|refine zs fun Z hs=>?_|refine⟨_,c1,?_⟩|(refine zb (fun hc=>?_) (fun hc=>?_)<;>try exact⟨⟩)|refine zo fun nn hnn Z hs=>?_|fail)<;>conv=>whnf)
        all_goals exact AG rfl
end Go.Gl
namespace Go.Gl
open Go.Proofs
attribute [local irreducible] Ar Aj AZ AQ AL AX AP AR AJ AW AM AN Am Av Sat AT As Aa W
def AAf (p:Prog) (L:Nat) (g:Int) (h16:p.methods.length<=16) {S:Type} {fn:Fn} {fi ca:List V} {H:S->List At} (Inv:Nat->S->Prop) {s:S} (h0:Inv 0 s)
    (hsk: ∀k s,k<p.methods.length->(BO p (k:Nat)).gen≠g->Inv k s->Inv (k+1) s)
    (hT: ∀(k:Nat) s,k<p.methods.length->(BO p (k:Nat)).gen=g->Inv k s-> ∀(rest:List At) (Z:AE),Sat Z (H s++rest)->Am zP (.f fn fi ca) [eI (k:Int)] Z fun r Z'=> ∃s',r= .ret (.b true)/\Inv (k+1) s'/\Sat Z' (H s'++rest)) (Z:AE) (hs:Sat Z (H s)) :
    Ar zP 244 [.f fn fi ca,.rp [Ls p L],.rp [eI g]] Z fun r Z'=> ∃s',r= .ret (.t [])/\Inv p.methods.length s'/\Sat Z' (H s'):=by
 have hM:=Mx;refine xO kZ ?_;refine zz ?_;(repeat clear U K);repeat intro K U
 refine CZ p.methods.length (fun k (_:S)=>[(12,eI (BL k))]) (fun _ s'=>H s') (fun k s'=>Inv k s') s rfl h0 hs ?_;clear hs;rintro k s' Z hk ho hs;rcases BF p.methods hk with⟨x,hx,hlt⟩|hke
 .have hck:BL k=k:=Ag (by omega)
  have hxe:BO p (k:Int)=x:=by
   have:=CX (p:=p) (m:=k) (by simp[Bb];omega);rw[HP,hx]at this;exact(Option.some.inj this).symm
  have hsk':=hsk k s' hlt;have hT':=hT k s' hlt;rw[hxe]at hsk' hT';rw[<-hck]at hT';by_cases hg:x.gen=g
  .conv=>whnf
   repeat'((first|clear U K|apply st|(apply zk;intro K U)|refine zY ?_|refine zs fun Z hs=>?_|(refine zb (fun hc=>?_) (fun hc=>?_)<;>try exact⟨⟩)|refine zo fun nn hnn Z hs=>?_|fail)<;>conv=>whnf)
   refine(hT' hg ho [_] Z (Sat.perm hs (List.perm_append_singleton _ _).symm)).mono ?_;rintro r Z ⟨s2,rfl,hi2,hs⟩;refine zz ?_;(repeat clear U K);repeat intro K U
   exact⟨hlt,_,rfl,hi2,hs.less (List.sublist_append_left _ _)⟩
  .conv=>whnf
   repeat'((first|clear U K|apply st|(apply zk;intro K U)|refine zY ?_|refine zs fun Z hs=>?_|(refine zb (fun hc=>?_) (fun hc=>?_)<;>try exact⟨⟩)|refine zo fun nn hnn Z hs=>?_|fail)<;>conv=>whnf)
   exact⟨hlt,_,rfl,hsk' hg ho,hs.less (K7 _ _)⟩
 .rw[hke]at ho
  refine zz ?_;(repeat clear U K);repeat intro K U
  exact AI ⟨_,rfl,ho,hs⟩
def AAe (p:Prog) (L:Nat) (g:Int) (h16:p.methods.length<=16) {nn:Nat} {E:Env} {ok:FuncId->Array Tmp->Code->Code->Nat->Prop} {S:Type} (H:S->List At) (Inv:Nat->S->Prop) (s:S) {Z:AE} (h0:Inv 0 s) (hs:Sat Z (.obj nn (.loop .ready E ok)::H s))
    (hsk: ∀k s,k<p.methods.length->(BO p (k:Nat)).gen≠g->Inv k s->Inv (k+1) s)
    (hT: ∀(k:Nat) s,k<p.methods.length->(BO p (k:Nat)).gen=g->Inv k s-> ∀(rest:List At) (Z:AE),Sat Z (.obj nn (.loop .ready E ok)::(H s++rest))->L2 zP nn [eI (k:Int)] Z fun r Z'=> ∃s',r= .ret (.b true)/\Inv (k+1) s'/\Sat Z' (.obj nn (.loop .ready E ok)::(H s'++rest)))
    {Q:R->AE->Prop} (hq: ∀s' Z',Inv p.methods.length s'->Sat Z' (.obj nn (.loop .ready E ok)::H s')->Q (.ret (.t [])) Z') :
    Ar zP 244 [.f (.yield nn) [] [],.rp [Ls p L],.rp [eI g]] Z Q:=
 Ar.mono (AAf p L g h16 (fn:= .yield nn) (fi:=[]) (ca:=[]) (H:=fun s=> .obj nn (.loop .ready E ok)::H s) Inv h0 hsk (fun k s hk hg hi rest Z hs=>k8 (hT k s hk hg hi rest Z hs)) Z hs) fun r Z' ⟨s',e,hi,h⟩=>e ▸ hq s' Z' hi h
def FR (p:Prog) (g:Int) (k:Nat):List Int:=(BD k).filter fun m=>(BO p m).gen==g
def Oq (p:Prog) (g:Int) (k:Nat):FR p g (k+1)=if(BO p (k:Int)).gen==g then FR p g k++[(k:Int)]else FR p g k:=by
 rw[FR,HM,List.filter_append];cases hp:(BO p (k:Int)).gen==g<;>simp[FR,hp]
def Rc (p:Prog) (g:Int) (k:Nat):(FR p g k).length<=k:=by
 have:=Pr (fun m=>(BO p m).gen==g) (BD k)
 rwa [FX]at this
def Z5 (p:Prog) (L:Nat) (g:Int) (h16:p.methods.length<=16):BS zP 243 [.l [] true,.f (.func 244) [] [.rp [Ls p L],.rp [eI g]]] [] fun r post=> ∃v,r= .ret v/\post= [.own v 1 (iL (FR p g p.methods.length))]:=by
 intro Z hs;have hM:=Mx;refine jv kZ ?_
 conv=>whnf
 repeat'((first|clear U K|apply st|(apply zk;intro K U)|refine zo fun nn hnn Z hs=>?_|fail)<;>conv=>whnf)
 rename_i nb _ _ _;refine AAe p L g h16 (nn:=nn) (fun s:V×List Int=>[.box nb [s.1],.own s.1 1 (iL s.2)]) (fun k s=>s.2=FR p g k) (.l [] true,[]) rfl ((Db hs 1).perm (I9 _ _ _ _)) ?_ ?_ ?_
 .intro k s hlt hne hi
  rw[Oq,if_neg (by simpa using hne),hi]
 .clear hs hnn
  rintro k ⟨v,ys⟩ hlt hgk hi rest Z hs;dsimp only at hi hs;have hck:BL k=k:=Ag (by omega);have hl:=Rc p g k;rw[<-hi]at hl;have hll:ys.length<Ae/\(ys.length+1)*8<=140737488355328:=by omega
  refine Ol (l:=[.box nb [v],.own v 1 (iL ys)]++rest) rfl hs ?_;clear hs;intro Z hs
  conv=>whnf
  repeat'((first|clear U K|apply st|(apply zk;intro K U)|refine zY ?_|refine zs fun Z hs=>?_|refine aq fun v Z hs hsl=>?_|fail)<;>conv=>whnf)
  intro hn;exact⟨(v,ys++[(k:Int)]),rfl,by rw[Oq,if_pos (by simpa using hgk),hi],hs.iE hn⟩
 .clear hs
  rintro⟨v,ys⟩ Z hi hs;dsimp only at hi hs;refine Ju hs fun Z hs=>?_
  refine zz ?_;(repeat clear U K);repeat intro K U
  rw[hi]at hs;exact Aw hs (K7 _ _) (.refl _) fun Z' hs'=>⟨_,⟨v,rfl,rfl⟩,hs'⟩
def Zu (p:Prog) (L:Nat) (g:Int) (h16:p.methods.length<=16):BS zP 171 [.f (.func 244) [] [.rp [Ls p L],.rp [eI g]]] [] fun r post=> ∃v,r= .ret v/\post= [.own v 1 (iL (FR p g p.methods.length))]:=by
 intro Z hs;refine kB kZ ?_
 conv=>whnf
 repeat'((first|clear U K|apply st|(apply zk;intro K U)|fail)<;>conv=>whnf)
 refine(Z5 p L g h16).use (rest:=[]) (by simpa using hs) ?_;clear hs;rintro r post Z ⟨v,rfl,rfl⟩ hs;refine zz ?_;(repeat clear U K);repeat intro K U
 exact Aw hs (List.sublist_append_left _ _) (.refl _) fun Z' hs'=>⟨_,⟨v,rfl,rfl⟩,hs'⟩
def cg (w:AF) (hg:B3 w) (hw:GP w) (os:List Ob) (b:Bool) (args:List (Int×Int)) (g:Bool) (f:Fact) (hf:Ct w f=true) (hsp:DE f<=args.length) (hh:Kw w os args=true) :
    Pure zP 52 [.a (A9 w),.a (xF f),.l (os.map Gt) b,.l (pP args) g] (.t [.b (Dr w os args f),eI 0]):=by
 refine Pure.fit (by kernel_rfl) fun hfi=>?_
 have hM:=Mx
 have hfo: ∀b,Pure zP 118 [.a (A9 w),.l [FN f] b] (.t [.rp (wC w (A5 w.parents)),.b true]):=fun b=>by
  have:=PS w hg [f] b (by simp);simpa[Pg,hf]using this
 rw[Bn]at hfo;have c2:=TU w hg hw os b args g;rw[hh]at c2;have c3:=de f (cM hf);simp only[Kw,A0,CC,DJ]at hh;have hno:BN w f=true:=by simp only[Ct,A0]at hf;exact hf.2.2
 have c4:=mP w os b args g hg hw (bJ hh.1) hh.2.2.2 f hno hsp;refine sS kZ ?_;have hs:=Sn
 conv=>whnf
 repeat'((first|clear U K|apply st|(apply zk;intro K U)|refine zY ?_|refine Pure.use (hfo _) ?_|refine c2.use ?_|refine c3.use ?_|refine c4.use ?_|(refine zd (fun hc=>?_) (fun hc=>?_)<;>try exact⟨⟩)|fail)<;>conv=>whnf)
 all_goals first
  | exact AG rfl
  | (exfalso;simp at hc;omega)
def nR (w:AF) (hg:B3 w) (hw:GP w) (os:List Ob) (b:Bool) (args:List (Int×Int)) (g:Bool) (f:Fact) (hf:Ct w f=true) (hh:Kw w os args=false) :
    Pure zP 52 [.a (A9 w),.a (xF f),.l (os.map Gt) b,.l (pP args) g] (.t [.b false,eI 2]):=by
 refine Pure.fit (by kernel_rfl) fun hfi=>?_
 have hM:=Mx
 have hfo: ∀b,Pure zP 118 [.a (A9 w),.l [FN f] b] (.t [.rp (wC w (A5 w.parents)),.b true]):=fun b=>by
  have:=PS w hg [f] b (by simp);simpa[Pg,hf]using this
 rw[Bn]at hfo;have c2:=TU w hg hw os b args g;rw[hh]at c2;refine sS kZ ?_;have hs:=Sn
 conv=>whnf
 repeat'((first|clear U K|apply st|(apply zk;intro K U)|refine zY ?_|refine Pure.use (hfo _) ?_|refine c2.use ?_|fail)<;>conv=>whnf)
 all_goals exact AG rfl
abbrev aD:Fact:=Fact.mk 1 0 [] 0 0 []
def RD (w:AF):Ct w aD=true:=by
 rw[Ct,IT,GU,By];rfl
def Wj {w:V} {o a:V}:DQ emp emp [w,.a [eI 1,eI 0,.l [] true,eI 0,eI 0,.l [] true],o,a] [w,.a (xF aD),o,a]:=
 .cons (.refl _) (.cons (.a (.cons (.refl _) (.cons (.refl _) (.cons MK (.cons (.refl _) (.cons (.refl _) (.cons MK .nil))))))) (.cons (.refl _) (.cons (.refl _) .nil)))
def cJ (os:List Ob) (f:Bool) (gen:Int) (args:List (Int×Int)) (g:Bool):Pure zP 115 [.pn,.l (os.map Gt) f,eI gen,.l (pP args) g] (.b false):=by
 have c1:=uz gen;refine Nr kZ ?_;have hs:=Sn;exact zW
def call56 (p:Prog) (L:Nat) (os:List Ob) (f:Bool) (gen:Int) (args:List (Int×Int)) (g:Bool) (h:(BQ p).isSome=true):Pure zP 115 [Ls p L,.l (os.map Gt) f,eI gen,.l (pP args) g] (.b (Ch p os gen args)):=by
 refine Pure.fit (by kernel_rfl) fun hf=>?_
 have hM:=Mx;have hok:=look_ok h;have hgw:=QB h;have c1:=AA4 p L gen;cases h2:Ja p gen<;>rw[h2]at c1
 .refine Nr kZ ?_
  have hs:=Sn
  conv=>whnf
  repeat'((first|clear U K|apply st|(apply zk;intro K U)|refine zY ?_|refine zC ?_|fail)<;>conv=>whnf)
  all_goals exact AG (by simp[Ch,h2])
 have hgr:=h2;simp only[Ja,A0,CC]at hgr;obtain⟨x,hx⟩: ∃x,p.Cb[gen.toNat]? =some x:=⟨_,DC (by omega)⟩
 have hxd:p.Cb.getD gen.toNat 0=x:=by rw[C6,hx];rfl
 have hx3:1<=x/\x<=3:=by
  have hh:=(EF h).1;simp only[C2,A0,CC,DJ]at hh;exact hh.2.2.2.2.2 x (CY hx)
 by_cases he:(args.length:Int)=x
 .have e:Ch p os gen args=(Fp (AK p) os&&args.all (Bi os.length)):=by simp only[Ch,h,h2,hxd,decide_eq_true he,Cm]
  rw[e];have c2:=mY os f args g (by omega);by_cases hv: ∀v∈args,Bi os.length v=true
  .rw [List.filter_eq_self.2 hv]at c2
   have hva:args.all (Bi os.length)=true:=DJ.2 hv;rw[hva,Bool.and_true]
   have hha:Kw (AK p) os args=Fp (AK p) os:=by
    rw[Kw,hva,decide_eq_true (show 1<=args.length by omega),decide_eq_true (show args.length<=3 by omega)];simp
   cases ho:Fp (AK p) os<;>rw[ho]at hha
   .have c3:=(nR (AK p) hgw hok.nY os f args g aD (RD _) hha).arg Wj
    clear hva e hv;refine Nr kZ ?_;have hs:=Sn
    conv=>whnf
    repeat'((first|clear U K|apply st|(apply zk;intro K U)|refine zY ?_|refine zC ?_|(refine zb (fun hc=>?_) (fun hc=>?_)<;>try exact⟨⟩)|fail)<;>conv=>whnf)
    all_goals first
     | exact AG rfl
     | (exfalso;simp[he]at hc;done)
   .have c3:=(cg (AK p) hgw hok.nY os f args g aD (RD _) (by
     rw[ED]
     exact Int.natCast_nonneg _) hha).arg Wj
    clear hva e hv;refine Nr kZ ?_;have hs:=Sn
    conv=>whnf
    repeat'((first|clear U K|apply st|(apply zk;intro K U)|refine zY ?_|refine zC ?_|(refine zb (fun hc=>?_) (fun hc=>?_)<;>try exact⟨⟩)|fail)<;>conv=>whnf)
    all_goals first
     | exact AG rfl
     | (exfalso;simp[he]at hc;done)
  .have hlt:(args.filter (Bi os.length)).length≠args.length:=fun e=>hv (List.length_filter_eq_length_iff.1 e)
   have hva:args.all (Bi os.length)=false:=by
    rw[<-Bool.not_eq_true,DJ];exact hv
   rw[hva,Bool.and_false];generalize args.filter (Bi os.length)=ys at *;clear hva e hv;refine Nr kZ ?_;have hs:=Sn
   conv=>whnf
   repeat'((first|clear U K|apply st|(apply zk;intro K U)|refine zY ?_|refine zC ?_|(refine zb (fun hc=>?_) (fun hc=>?_)<;>try exact⟨⟩)|fail)<;>conv=>whnf)
   all_goals first
    | exact AG rfl
    | (exfalso;simp[he]at hc;done)
    | (exfalso;simp at hc;omega)
 .have e:Ch p os gen args=false:=by simp only[Ch,hxd,decide_eq_false he,Bool.false_and,Bool.and_false]
  rw[e];refine Nr kZ ?_;have hs:=Sn
  conv=>whnf
  repeat'((first|clear U K|apply st|(apply zk;intro K U)|refine zY ?_|refine zC ?_|(refine zd (fun hc=>?_) (fun hc=>?_)<;>try exact⟨⟩)|fail)<;>conv=>whnf)
  all_goals first
   | exact AG rfl
   | (exfalso;simp[he]at hc;done)
def ff (p:Prog) (L:Nat) (os:List Ob) (f:Bool) (gen:Int) (args:List (Int×Int)) (g:Bool) (ha:Ask p os gen args) (hh:Kw (AK p) os args=true) (m:Int) (hm:Bb p m=true) (hg:(BO p m).gen=gen) :
    Pure zP 173 [eI m,.rp [Ls p L],.rp [.l (os.map Gt) f],.rp [.l (pP args) g]] (.b (Dr (AK p) os args (BO p m).fact)):=by
 refine Pure.fit (by kernel_rfl) fun hf=>?_
 have hM:=Mx;have hok:=look_ok ha.look;have hxm:=CX hm;obtain⟨-,hfo,hno,hsp⟩:=Ux ha.look (CY hxm);rw[hg,<-ha.len]at hsp;have c1:=cg (AK p) (QB ha.look) hok.nY os f args g (BO p m).fact hfo hsp hh;simp only[Bb,A0,CC]at hm;clear hg hfo hno hsp;generalize BO p m=x at *;cases hb:Dr (AK p) os args x.fact<;>rw[hb]at c1
 all_goals
  refine yG kZ ?_;have hs:=Sn;exact zW
def qF {p:Prog} {os:List Ob} {gen:Int} {args:List (Int×Int)} (h:Ch p os gen args=true):Kw (AK p) os args=true:=by
 have ha:=Y6 h;simp only[Ch,A0]at h;have hg:=ha.sG;simp only[Ja,A0,CC]at hg;obtain⟨x,hx⟩: ∃x,p.Cb[gen.toNat]? =some x:=⟨_,DC (by omega)⟩
 have hxd:p.Cb.getD gen.toNat 0=x:=by rw[C6,hx];rfl
 have hx3:1<=x/\x<=3:=by
  have hh:=(EF ha.look).1;simp only[C2,A0,CC,DJ]at hh;exact hh.2.2.2.2.2 x (CY hx)
 have hl:=ha.len;rw[hxd]at hl;rw[Kw,h.2.1,decide_eq_true (show 1<=args.length by omega),decide_eq_true (show args.length<=3 by omega),h.2.2.2.2];rfl
def eO (p:Prog) (os:List Ob) (gen:Int) (args:List (Int×Int)):(FR p gen p.methods.length).filter (fun m=>Dr (AK p) os args (BO p m).fact)=G1 p os gen args:=by
 rw[FR,G1,oO,List.filter_filter];congr 1;funext m;rw[Bool.and_comm]
def Rb {p:Prog} {g m:Int} (h:m∈FR p g p.methods.length):Bb p m=true/\(BO p m).gen=g:=by
 have:=JU.1 h;have h1:=CK.1 this.1;exact⟨by simp only[Bb,A0,CC];exact h1,by simpa using this.2⟩
def Tt (p:Prog) (L:Nat) (os:List Ob) (f:Bool) (gen:Int) (args:List (Int×Int)) (g:Bool) (h:Ch p os gen args=true):Pure zP 116 [Ls p L,.l (os.map Gt) f,eI gen,.l (pP args) g] (.l (iL (G1 p os gen args)) true):=by
 have ha:=Y6 h;have hok:=look_ok ha.look;have hml:=Rc p gen p.methods.length;have h16:=hok.many;have c1:=XQ 173 [] [.rp [Ls p L],.rp [.l (os.map Gt) f],.rp [.l (pP args) g]] (fun m=>Dr (AK p) os args (BO p m).fact) (FR p gen p.methods.length) (fun m hm=>ff p L os f gen args g ha (qF h) m (Rb hm).1 (Rb hm).2) false (by omega);rw[eO]at c1;refine Pure.of ?_;refine yu kZ ?_;have hs:=Sn
 conv=>whnf
 repeat'((first|clear U K|apply st|(apply zk;intro K U)|refine Pure.use (of50 _ _ _) ?_|fail)<;>conv=>whnf)
 refine(Zu p L gen h16).use (rest:=[]) (by simpa using hs) ?_;clear hs;rintro r post Z ⟨v,rfl,rfl⟩ hs
 conv=>whnf
 obtain⟨Z2,h1,h2,h3⟩:=JC hs 0 rfl;refine Ar.P8 (c1.use ?_) h1 (.cons h2 (.cons (.refl _) .nil));clear hs h1 h2;have hs:=h3;refine zz ?_;(repeat clear U K);repeat intro K U
 exact AI (by rfl)
def gF (p:Prog) (os:List Ob) (f:Bool) (gen:Int) (args:List (Int×Int)) (g:Bool):Pure zP 48 [.a (BR p),.l (os.map Gt) f,eI gen,.l (pP args) g] (.t [.l (iL (Mz p os gen args).1) true,eI (Mz p os gen args).2]):=by
 refine Pure.of ?_;have hr:=Qi p;rw[Mz];refine ABS kZ ?_;have hs:=Sn;refine zz ?_;(repeat clear U K);repeat intro K U
 refine hr.use (rest:=[]) (by simpa using hs) ?_;clear hs;cases h:(BQ p).isSome
 .have c1:=cJ os f gen args g
  rintro r post Z ⟨rfl,rfl⟩ hs
  conv=>whnf
  repeat'((first|clear U K|apply st|(apply zk;intro K U)|refine zY ?_|refine zC ?_|fail)<;>conv=>whnf)
  exact AI (by simp[Ch,h])
 .rintro r post Z ⟨L,rfl,rfl⟩ hs
  have c1:=call56 p L os f gen args g h;cases hb:Ch p os gen args<;>rw[hb]at c1
  .conv=>whnf
   repeat'((first|clear U K|apply st|(apply zk;intro K U)|refine zY ?_|refine zC ?_|fail)<;>conv=>whnf)
   exact AI (by rw[hb];rfl)
  .have c2:=Tt p L os f gen args g hb
   conv=>whnf
   repeat'((first|clear U K|apply st|(apply zk;intro K U)|refine zY ?_|refine zC ?_|fail)<;>conv=>whnf)
   exact AI (by rw[hb];rfl)
end Go.Gl
namespace Go.Gl
open Go.Proofs
def fv {p:Prog} {os:List Ob} {gen:Int} {args:List (Int×Int)} (h16:p.methods.length<=16):WA p (G1 p os gen args):=by
 have hm: ∀x∈G1 p os gen args,Bb p x=true/\(BO p x).gen=gen:=fun x hx=>by
  have:=JU.1 hx;have h1:=CK.1 this.1;have h2:=this.2;simp only[A0,Cd]at h2;exact⟨by simp only[Bb,A0,CC];exact h1,h2.1⟩
 refine⟨fun x hx=>(hm x hx).1,fun x hx y hy=>(hm x hx).2.trans (hm y hy).2.symm,?_,Nat.le_trans (nH p os gen args _) h16⟩;refine List.Nodup.sublist (List.filter_sublist ..) ?_;exact(Hk _).imp fun h e=>by omega
def pc {p:Prog} {l:List Int} (hok:E3 p) (h:F8 p l false=true):WA p l:=by
 rw[F8,A0,DJ,CC]at h;obtain⟨h1,h2⟩:=h
 have hm: ∀x∈l,Bb p x=true/\(BO p x).gen=(BO p (l.getD 0 0)).gen:=fun x hx=>by
  have:=h1 x hx;simp only[nj,A0,Cd]at this;exact⟨this.1,this.2.1⟩
 refine⟨fun x hx=>(hm x hx).1,fun x hx y hy=>(hm x hx).2.trans (hm y hy).2.symm,h2,Nat.le_trans (Ql p.methods.length l h2 fun x hx=>?_) hok.many⟩;have:=(hm x hx).1;simp only[Bb,A0,CC]at this;omega
def OW (x:Pl×Bool):Pl×Int:=if x.2 then(x.1,0)else(sh,5)
def aS (p:Prog) (os:List Ob) (gen:Int) (args:List (Int×Int)):Pl×Int:=if Ch p os gen args then OW (EH (Au p) p (G1 p os gen args))else(sh,2)
def UN (p:Prog) (l:List Int):Pl×Int:=if(BQ p).isSome&&F8 p l false then OW (EH (Au p) p l)else(sh,2)
abbrev plE (x:Pl×Int) (g:Bool):V:= .t [.a (plV x.1 g (x.2 != 0)),eI x.2]
attribute [local irreducible] Ar Aj AZ AQ AL AX AP AR AJ AW AM AN Am Av Sat AT As Aa W
def zE (p:Prog) (os:List Ob) (f:Bool) (gen:Int) (args:List (Int×Int)) (g:Bool):Pure zP 55 [.a (BR p),.l (os.map Gt) f,eI gen,.l (pP args) g] (plE (aS p os gen args) true):=by
 refine Pure.of ?_;have hr:=Qi p;generalize hX:aS p os gen args=X;rw[aS]at hX;refine ABP kZ ?_;have hs:=Sn
 conv=>whnf
 repeat'((first|clear U K|apply st|(apply zk;intro K U)|refine zY ?_|refine zo fun nn hnn Z hs=>?_|fail)<;>conv=>whnf)
 refine hr.use (rest:=_) hs ?_;clear hs;cases h:(BQ p).isSome
 .have c1:=cJ os f gen args g
  have hb:Ch p os gen args=false:=by simp only[Ch,h,Bool.false_and]
  rw[hb,if_neg (by decide)]at hX;subst hX;rintro r post Z ⟨rfl,rfl⟩ hs
  conv=>whnf
  repeat'((first|clear U K|apply st|(apply zk;intro K U)|refine zY ?_|refine zs fun Z hs=>?_|refine zC ?_|fail)<;>conv=>whnf)
  exact AI (by rfl)
 .rintro r post Z ⟨L,rfl,rfl⟩ hs
  have c1:=call56 p L os f gen args g h;cases hb:Ch p os gen args<;>rw[hb]at c1 hX
  .rw[if_neg (by decide)]at hX
   subst hX
   conv=>whnf
   repeat'((first|clear U K|apply st|(apply zk;intro K U)|refine zY ?_|refine zs fun Z hs=>?_|refine zC ?_|fail)<;>conv=>whnf)
   exact AI (by rfl)
  .have c2:=Tt p L os f gen args g hb
   have c3:=jG p L (G1 p os gen args) true h (fv (look_ok h).many) [];rw[if_pos rfl]at hX;generalize EH (Au p) p (G1 p os gen args)=x at *;obtain⟨x,b⟩:=x;cases b
   all_goals
    subst hX
    conv=>whnf
    repeat'((first|clear U K|apply st|(apply zk;intro K U)|refine zY ?_|refine zC ?_|fail)<;>conv=>whnf)
    refine c3.use (rest:=_) hs ?_;clear hs;rintro r post Z ⟨rfl,M,rfl⟩ hs
    conv=>whnf
    repeat'((first|clear U K|apply st|(apply zk;intro K U)|refine zY ?_|refine zs fun Z hs=>?_|refine zo fun nn hnn Z hs=>?_|fail)<;>conv=>whnf)
    exact AI (by rfl)
def zD (p:Prog) (l:List Int) (f:Bool) (hl:l.length<=1000):Pure zP 133 [.a (BR p),.l (iL l) f] (plE (UN p l) true):=by
 refine Pure.of ?_;have hr:=Qi p;generalize hX:UN p l=X;rw[UN]at hX;refine yh kZ ?_;have hs:=Sn
 conv=>whnf
 repeat'((first|clear U K|apply st|(apply zk;intro K U)|refine zY ?_|refine zo fun nn hnn Z hs=>?_|fail)<;>conv=>whnf)
 refine hr.use (rest:=_) hs ?_;clear hs;cases h:(BQ p).isSome
 .have c1:=pd l f false
  rw[h,Bool.false_and,if_neg (by decide)]at hX;subst hX;rintro r post Z ⟨rfl,rfl⟩ hs
  conv=>whnf
  repeat'((first|clear U K|apply st|(apply zk;intro K U)|refine zY ?_|refine zs fun Z hs=>?_|refine zC ?_|fail)<;>conv=>whnf)
  exact AI (by rfl)
 .rintro r post Z ⟨L,rfl,rfl⟩ hs
  have c1:=ua p L l f false hl;cases hb:F8 p l false<;>rw[hb]at c1 hX
  .rw[Bool.and_false,if_neg (by decide)]at hX
   subst hX
   conv=>whnf
   repeat'((first|clear U K|apply st|(apply zk;intro K U)|refine zY ?_|refine zs fun Z hs=>?_|refine zC ?_|fail)<;>conv=>whnf)
   exact AI (by rfl)
  .have c3:=jG p L l f h (pc (look_ok h) hb) []
   rw[h,Bool.and_self,if_pos rfl]at hX;generalize EH (Au p) p l=x at *;obtain⟨x,b⟩:=x;cases b
   all_goals
    subst hX
    conv=>whnf
    repeat'((first|clear U K|apply st|(apply zk;intro K U)|refine zY ?_|refine zC ?_|fail)<;>conv=>whnf)
    refine c3.use (rest:=_) hs ?_;clear hs;rintro r post Z ⟨rfl,M,rfl⟩ hs
    conv=>whnf
    repeat'((first|clear U K|apply st|(apply zk;intro K U)|refine zY ?_|refine zs fun Z hs=>?_|refine zo fun nn hnn Z hs=>?_|fail)<;>conv=>whnf)
    exact AI (by rfl)
end Go.Gl
namespace Go.Gl
open Go.Proofs
structure Wid (w w':AF) (ps:List Int):Prop where
 par:w'.parents=w.parents++[ps]
 own:w'.owner=w.owner++[3+(w.parents.length:Int)]
variable {w w':AF} {ps:List Int}
def Wid.ol (h:Wid w w' ps):w'.owner.length=w.owner.length+1:=by rw[h.own];simp
def AA9 {w:AF} {M:Int->GQ} {f:Fact} {l:List Bool} (h:f.op=5):YQ w M f l= !l.getD 0 false:=by rw[YQ,if_neg (by omega),if_pos h]
def AA8 {w:AF} {M:Int->GQ} {f:Fact} {l:List Bool} (h:f.op=6):YQ w M f l=(l.getD 0 false&&l.getD 1 false):=by rw[YQ,if_neg (by omega),if_neg (by omega),if_pos h]
def AA7 {w:AF} {M:Int->GQ} {f:Fact} {l:List Bool} (h:f.op=7):YQ w M f l=(l.getD 0 false||l.getD 1 false):=by rw[YQ,if_neg (by omega),if_neg (by omega),if_neg (by omega),if_pos h]
def AA6 {w:AF} {M:Int->GQ} {f:Fact} {l:List Bool} (h:f.op=2\/f.op=3\/f.op=4):YQ w M f l=Ko w (M f.arg) f.path f:=by rw[YQ,if_neg (by omega),if_neg (by omega),if_neg (by omega),if_neg (by omega)]
def D2 (ms:List Int) (bs:List Bool):List Int:=((ms.zip bs).filter fun x=>x.2).map fun x=>x.1
def sI {w:AF} (hw:GP w): ∀l,(∀x∈l,DY w x)->(HR w l=true↔ ∃M,z7 w M/\ ∀x∈l,FH w M x):=fun l hl=>MZ hw fun x hx=>GK (hl x hx)
def aL {w:AF} (hw:GP w) {cs:List Int} (hcs: ∀c∈cs,1<=c/\c<3+(w.parents.length:Int)): ∀l,(∀x∈l,DY w x)->(T7 w cs l=true↔ ∃M,gm w cs M/\ ∀x∈l,FH w M x):=fun l hl=>by
 rw[<-td hw hcs fun x hx=>GK (hl x hx)];exact Qe hw fun x hx=>GK (hl x hx)
def lq {w:AF} {cs:List Int} {M:Int->GQ} (h:gm w cs M):gm w [] M:=fun a=>⟨(h a).1,fun h0 h1=>by
 obtain⟨c,k0,_⟩:=(h a).2 h0 h1
 exact⟨c,k0,by rw[Hu,decide_eq_true (by simpa using h0)];rfl⟩⟩
def bQ {n:Int}: ∀c∈([]:List Int),1<=c/\c<n:=fun _ h=>by cases h
structure Gro (w w':AF) (ps:List Int):Prop where
 par:w'.parents=w.parents++[ps]
 own:w'.owner=w.owner
section
variable {w w':AF} {ps:List Int}
def Gro.Bc (h:Gro w w' ps) (s:Int):Bc w' s=Bc w s:=by rw[Gl.Bc,Gl.Bc,h.own]
end
def I1 (A:Int->Int->Bool): ∀(k:Nat) (l:List Int),l.length=k->(Cw A k l).1.length<=k/\(Cw A k l).2=decide ((Cw A k l).1.length<k)
 | 0,_,_=>⟨Ia _,rfl⟩
 | k + 1,l,h=>by
   rw[Cw];cases hf:LJ A l with
   | none=>
     have:l.isEmpty=false:=by cases l with
      | nil=>simp at h
      | cons=>rfl
     simp[this]
   | some i=>
     have hi:=fH hf;have hel:=List.length_eraseIdx_of_lt hi;obtain⟨h1,h2⟩:=I1 A k (l.eraseIdx i) (by omega);simp only[Lr,Nat.add_lt_add_iff_right,Nat.add_le_add_iff_right];exact⟨h1,h2⟩
end Go.Gl
namespace Go.Gl
open Go.Proofs
attribute [local irreducible] Ar Aj AZ AQ AL AX AP AR AJ AW AM AN Am Av Sat AT As Aa W
def gN (p:Prog) (gen:Int) (k:Nat):List Int:=(BD k).filter fun m=>(BO p m).gen==gen
def Gw (p:Prog) (gen:Int):List Int:=gN p gen p.methods.length
def mT (p:Prog) (gen:Int) (k:Nat):gN p gen (k+1)=if(BO p (k:Int)).gen==gen then gN p gen k++[(k:Int)]else gN p gen k:=by
 rw[gN,HM,List.filter_append];cases hp:(BO p (k:Int)).gen==gen<;>simp[gN,hp]
def qN (p:Prog) (gen:Int) (k:Nat):(gN p gen k).length<=k:=by
 have:=Pr (fun m=>(BO p m).gen==gen) (BD k)
 rwa [FX]at this
def Pe (p:Prog) (gen:Int) (m:Int):(Gw p gen).contains m=(Bb p m&&(BO p m).gen==gen):=by
 rw[G3,List.contains_iff_mem,Gw,gN,JU,CK,A0,Bb];simp only[A0,CC]
def pZ {p:Prog} {k:Nat} {x:Na} (hx:p.methods[k]? =some x):BO p (k:Int)=x:=by
 have hlt:=(JT.1 hx).1;have:=CX (p:=p) (m:=k) (by simp[Bb];omega);rw[HP,hx]at this;exact(Option.some.inj this).symm
def SM (p:Prog) (gen:Int) (l:List Int) (i:Nat):Bool:=Bb p (l.getD i 0)&&((BO p (l.getD i 0)).gen==gen&& !(decide (0<i)&&decide (l.getD (i - 1) 0≥l.getD i 0)))
def JO (p:Prog) (gen:Int) (l:List Int):Bool:=(List.range l.length).all (SM p gen l)
def lW {p:Prog} {gen:Int} {l:List Int} {i:Nat} (hi:i<l.length) (h:SM p gen l i=false):JO p gen l=false:=by
 rw[<-Bool.not_eq_true,JO,DJ];intro h2;rw[h2 i (List.mem_range.2 hi)]at h;cases h
def an {p:Prog} {gen:Int} {l:List Int} (h: ∀i,i<l.length->SM p gen l i=true):JO p gen l=true:=by
 rw[JO,DJ];exact fun i hi=>h i (List.mem_range.1 hi)
def av {p:Prog} {gen:Int} {l:List Int} (h:JO p gen l=true): ∀i (hi:i+1<l.length),l[i]<l[i+1]:=fun i hi=>by
 rw[JO,DJ]at h;have:=h (i+1) (List.mem_range.2 hi);simp only[SM,A0,Bool.not_eq_true',Bool.and_eq_false_iff,decide_eq_false_iff_not,Nat.add_sub_cancel,C6,DC hi,DC (show i<l.length by omega),Option.getD_some]at this;omega
def Wr {p:Prog} {gen:Int} {l:List Int} (h:JO p gen l=true): ∀x∈l,Bb p x=true/\(BO p x).gen=gen:=fun x hx=>by
 rw[JO,DJ]at h;obtain⟨i,hi,rfl⟩:=List.mem_iff_getElem.1 hx;have:=h i (List.mem_range.2 hi);simp only[SM,A0,C6,DC hi,Option.getD_some,Cd]at this;exact⟨this.1,this.2.1⟩
def S8 {p:Prog} {gen:Int} {l:List Int} (h:JO p gen l=true):F8 p l false=true:=by
 have hm:=Wr h;rw[F8,A0,DJ,CC];refine⟨fun x hx=>?_,?_⟩
 .have h0:l.getD 0 0∈l:=by
   cases l with
   | nil=>cases hx
   | cons y r=>exact List.mem_cons_self ..
  rw[nj,(hm x hx).1,(hm x hx).2,(hm _ h0).2];simp
 .have hq: ∀(i d:Nat) (hd:i+d+1<l.length),l[i]<l[i+d+1]:=fun i d=>by
   induction d with
   | zero=>exact fun hd=>av h i hd
   | succ d ih=>exact fun hd=>Int.lt_trans (ih (by omega)) (av h (i+d+1) hd)
  have hp:List.Pairwise (· < ·) l:=List.pairwise_iff_getElem.2 fun i j hi hj hij=>by
   obtain⟨d,rfl⟩: ∃d,j=i+d+1:=⟨j - i - 1,by omega⟩
   exact hq i d hj
  exact hp.imp fun h e=>by omega
def lV {p:Prog} {gen:Int} {l:List Int} (h:JO p gen l=true):l.length<=p.methods.length:=by
 have h1:=S8 h;rw[F8,A0,CC]at h1;refine Ql p.methods.length l h1.2 fun x hx=>?_
 have:=(Wr h x hx).1;simp only[Bb,A0,CC]at this;omega
def FI (p:Prog) (gen:Int):Bool:=(BQ p).isSome&&Ja p gen
def T2 (x:Pl×Bool):Int:=if x.2 then(if x.1.ar.isEmpty&&(x.1.NP||x.1.pr.isEmpty)then 3 else if x.1.NP||x.1.prt then 2 else 1)else 4
def cn (p:Prog) (l:List Int):Int:=T2 (EH (Au p) p l)
def UL (p:Prog) (gen:Int) (l:List Int):Int×Int:=if FI p gen then(if JO p gen l then(if(Gw p gen).length<=8 then(cn p l,0)else(0,3))else(0,2))else(0,2)
end Go.Gl
namespace Go.Gl
open Go.Proofs
def tw {A:Int->Int->Bool} {p:Prog} {l:List Int} (h:(EH A p l).2=true):0<(Du p l 1).length/\(EH A p l).1.prt=decide ((EH A p l).1.pr.length<(Du p l 1).length):=by
 rw[EH]at h ⊢;split at h
 .cases h
 .rename_i he
  rw[if_neg he]
  exact⟨by cases hq:Du p l 1 with
   | nil=>rw[hq]at he;exact absurd rfl he
   | cons x r=>simp,(I1 A _ _ rfl).2⟩
structure StOf (x:Pl×Bool) (s:Int):Prop where
 in4:s=1\/s=2\/s=3\/s=4
 lacks:s=4->x.2=false
 has:s≠4->x.2=true
 torn:s=3->x.1.ar= []/\(x.1.NP=true\/x.1.pr= []/\x.1.prt=true)
 may:s=2->(x.1.NP=true\/x.1.prt=true)/\0<x.1.ar.length+x.1.pr.length
 fine:s=1->x.1.NP=false/\x.1.prt=false/\0<x.1.pr.length
def AAS {A:Int->Int->Bool} {p:Prog} {l:List Int}:StOf (EH A p l) (T2 (EH A p l)):=by
 have ht:=tw (A:=A) (p:=p) (l:=l);generalize EH A p l=x at *;obtain⟨⟨ar,NP,be,pr,prt,af⟩,b⟩:=x;dsimp only at ht;cases b
 .refine⟨.inr (.inr (.inr rfl)),fun _=>rfl,fun h=>absurd rfl h,fun h=>?_,fun h=>?_,fun h=>?_⟩
  all_goals
   have h:(4:Int)=_:=h;omega
 .obtain ⟨h1,h2⟩:=ht rfl
  have hp:pr= []->prt=true:=fun e=>by rw[h2,e];simpa using h1
  cases ar with
  | nil =>
    cases pr with
    | nil=>
      have e:T2 (⟨[],NP,be,[],prt,af⟩,true)=3:=by simp[T2]
      rw[e];exact⟨by omega,fun h=>by omega,fun _=>rfl,fun _=>⟨rfl,.inr ⟨rfl,hp rfl⟩⟩,fun h=>by omega,fun h=>by omega⟩
    | cons y r=>
      cases NP
      .cases prt
       .have e:T2 (⟨[],false,be,y::r,false,af⟩,true)=1:=by simp[T2]
        rw[e];exact⟨by omega,fun h=>by omega,fun _=>rfl,fun h=>by omega,fun h=>by omega,fun _=>⟨rfl,rfl,by simp⟩⟩
       .have e:T2 (⟨[],false,be,y::r,true,af⟩,true)=2:=by simp[T2]
        rw[e];exact⟨by omega,fun h=>by omega,fun _=>rfl,fun h=>by omega,fun _=>⟨.inr rfl,by simp<;>omega⟩,fun h=>by omega⟩
      .have e:T2 (⟨[],true,be,y::r,prt,af⟩,true)=3:=by simp[T2]
       rw[e];exact⟨by omega,fun h=>by omega,fun _=>rfl,fun _=>⟨rfl,.inl rfl⟩,fun h=>by omega,fun h=>by omega⟩
  | cons z q=>
    cases NP
    .cases prt
     .have e:T2 (⟨z::q,false,be,pr,false,af⟩,true)=1:=by simp[T2]
      rw[e];refine⟨by omega,fun h=>by omega,fun _=>rfl,fun h=>by omega,fun h=>by omega,fun _=>⟨rfl,rfl,?_⟩⟩;cases pr with
      | nil=>have:=hp rfl;cases this
      | cons y r=>simp
     .have e:T2 (⟨z::q,false,be,pr,true,af⟩,true)=2:=by simp[T2]
      rw[e];exact⟨by omega,fun h=>by omega,fun _=>rfl,fun h=>by omega,fun _=>⟨.inr rfl,by simp<;>omega⟩,fun h=>by omega⟩
    .have e:T2 (⟨z::q,true,be,pr,prt,af⟩,true)=2:=by simp[T2]
     rw[e];exact⟨by omega,fun h=>by omega,fun _=>rfl,fun h=>by omega,fun _=>⟨.inl rfl,by simp<;>omega⟩,fun h=>by omega⟩
def Jr (p:Prog) (gen:Int):List Fact:=(Gw p gen).map fun m=>(BO p m).fact
def G4 (p:Prog) (gen:Int) (tog:List Fact->Bool):List (List Int×Int):=(JR (Yc tog (Jr p gen)) (Gw p gen).length []).map fun bs=>(D2 (Gw p gen) bs,cn p (D2 (Gw p gen) bs))
def Sq (p:Prog) (gen:Int) (w:AF) (os:List Ob) (args:List (Int×Int)):List Bool:=(Gw p gen).map fun m=>Dr w os args (BO p m).fact
def Ou (f:Int->Bool): ∀l:List Int,D2 l (l.map f)=l.filter f
 | []=>rfl
 | x::r=>by
   have ih:=Ou f r;rw[D2]at ih ⊢;rw[EW,List.zip_cons_cons,List.filter_cons,List.filter_cons];cases f x
   .exact ih
   .rw[if_pos rfl,if_pos rfl,EW,ih]
def Xd (p:Prog) (os:List Ob) (gen:Int) (args:List (Int×Int)):G1 p os gen args=D2 (Gw p gen) (Sq p gen (AK p) os args):=by
 rw[Sq,Ou,Gw,gN,List.filter_filter,G1,oO];congr 1;funext m;rw[Bool.and_comm]
end Go.Gl
namespace Go.Gl
open Go.Proofs
attribute [local irreducible] Ar Aj AZ AQ AL AX AP AR AJ AW AM AN Am Av Sat AT As Aa W
def te (ar:List Int) (NP:Bool) (be pr:List Int) (prt:Bool) (af:List Int):T2 (⟨ar,NP,be,pr,prt,af⟩,true)=if decide (ar.length=0)&&(NP||decide (pr.length=0))then 3 else if NP||prt then 2 else 1:=by
 rw[T2,if_pos rfl];cases ar<;>cases pr<;>simp
end Go.Gl
namespace Go.Gl
open Go.Proofs
def X0 {ms:List Int} {bs:List Bool} {k:Nat} {m:Int} {b:Bool} (hm:ms[k]? =some m) (hb:bs[k]? =some b):D2 ms (bs.take (k+1))=D2 ms (bs.take k)++(if b then [m]else []):=by
 have hz : ms.zip (bs.take (k+1))=ms.zip (bs.take k)++[(m,b)]:=by
  have h1:(ms.zip bs)[k]? =some (m,b):=List.getElem?_zip_eq_some.2 ⟨hm,hb⟩
  have e: ∀(a:List Int) (c:List Bool) (j:Nat),a.zip (c.take j)=(a.zip c).take j:=fun a=>by
   induction a with
   | nil=>intro c j;simp
   | cons x r ih=>
     intro c j;cases j with
     | zero=>simp
     | succ j=>
       cases c with
       | nil=>simp
       | cons y q=>simp[ih q j]
  rw[e,e,List.take_add_one,h1];rfl
 rw[D2,D2,hz,List.filter_append,VV];cases b<;>rfl
def ZX (ms:List Int) (bs:List Bool):(D2 ms bs).length<=bs.length:=by
 rw[D2,Ca];refine Nat.le_trans (Pr _ _) ?_;rw[List.length_zip];exact Nat.min_le_right _ _
def KZ {E:List Bool->Bool}: ∀(k:Nat) (pre:List Bool),(JR E k pre).length<=2 ^ k
 | 0,pre=>by
   rw[JR];split<;>simp
 | k+1,pre=>by
   rw[JR];have h1:=KZ (E:=E) k (pre++[false]);have h2:=KZ (E:=E) k (pre++[true]);split
   .rw[SB,Nat.pow_succ];omega
   .simp
attribute [local irreducible] Ar Aj AZ AQ AL AX AP AR AJ AW AM AN Am Av Sat AT As Aa W
abbrev gM (x:List Int×Int):List V:=[.l (iL x.1) false,eI x.2]
def qL:E0 gM 2:=fun x=>⟨rfl,fun v hv=>by
 rcases Fl.1 hv with rfl|hv
 .rfl
 .rw[Lp.1 hv];rfl⟩
end Go.Gl
namespace Go.Gl
open Go.Proofs
def bj {Z Z2:AE} {v v':V} (h:GD Z Z2 v v'): ∀fi ca:List V,DQ Z Z2 (fi++[v]++ca) (fi++[v']++ca)
 | [],ca=> .cons h (bk ca)
 | x::r,ca=> .cons (.refl _) (bj h r ca)
where bk: ∀ca:List V,DQ Z Z2 ca ca
 | []=> .nil
 | x::r=> .cons (.refl _) (bk r)
def ABY {Z:AE} {sz:Nat} {es:List (List V)} {f:Bool} (he: ∀e∈es,e.length=sz) {K:V->AE->Prop} (hk:K (.l es true) Z):AP Z sz (.l es f) none (some (.i .i64 (es.length:Int))) (some (.i .i64 (es.length:Int))) K:=by
 refine⟨he,?_⟩;simp only[O7];refine⟨Int.le_refl _,Int.natCast_nonneg _,Int.le_refl _,trivial,?_⟩;simpa using hk
attribute [local irreducible] Ar Aj AZ AQ AL AX AP AR AJ AW AM AN Am Av Sat AT As Aa W
def ABZ (ls:List Fact) (b:Bool) (hl:ls.length<=1000000):Pure zP 279 [.l (Dx ls) b] (.l (Dx ls) true):=by
 have hM:=Mx;refine wi kZ ?_;have hs:=Sn;refine zz ?_;(repeat clear U K);repeat intro K U
 refine ABY (fun x hx=>by obtain⟨y,_,rfl⟩:=Hp.1 hx;rfl) ?_;exact zW
def aU (g:FuncId) (fi ca:List V) (H:List At) (kf:List Fact->Bool) (D:List Fact->Prop):Prop:= ∀l b,D l-> ∀Z,Sat Z H->Ar zP g (fi++[LB l b]++ca) Z fun r Z'=>r= .ret (.b (kf l))/\Sat Z' H
def k9 (f:Fact):Prop:= ∀(c:Bool) (g:FuncId) (fi ca:List V) (H:List At) (kf:List Fact->Bool) (D:List Fact->Prop) (l:List Fact) (b:Bool),
 aU g fi ca H kf D->(∀x∈CT f c,D (l++x))->l.length+lv f<=500000-> ∀Z,Sat Z H->Ar zP 209 [.a (xF f),.b c,LB l b,.f (.func g) fi ca] Z fun r Z'=>r= .ret (.b ((CT f c).any fun x=>kf (l++x)))/\Sat Z' H
def nI (A B:List (List Fact)) (kf:List Fact->Bool) (l:List Fact):((V9 A B).any fun x=>kf (l++x))=A.any fun x=>B.any fun y=>kf (l++x++y):=by
 rw[G3,Hn,Hn];constructor
 .rintro⟨z,hz,h⟩
  obtain⟨x,hx,y,hy,rfl⟩:=FU.1 hz;exact⟨x,hx,Hn.2 ⟨y,hy,by rw[Ps];exact h⟩⟩
 .rintro⟨x,hx,h⟩
  obtain⟨y,hy,h⟩:=Hn.1 h;exact⟨x++y,FU.2 ⟨x,hx,y,hy,rfl⟩,by rw[<-Ps];exact h⟩
def pD {f k0 k1:Fact} (hk:f.kids= [k0,k1]) (hc1:k9 k1) {c:Bool} {g:FuncId} {fi ca:List V} {H:List At} {kf:List Fact->Bool} {D:List Fact->Prop} (hT:aU g fi ca H kf D) :
    aU 278 [] [.rp (xF f),.rp [.b c],.rp [.f (.func g) fi ca]] H (fun m=>(CT k1 c).any fun y=>kf (m++y)) (fun m=>(∀y∈CT k1 c,D (m++y))/\m.length+lv k1<=500000):=by
 rintro m b ⟨hd,hml⟩ Z hs;have h1:f.kids[(1:Int).toNat]? =some k1:=by rw[hk];rfl
 show Ar zP 278 [LB m b,.rp (xF f),.rp [.b c],.rp [.f (.func g) fi ca]] Z _;refine wj kZ ?_;refine zz ?_;(repeat clear U K);repeat intro K U
 refine Ar.mono (hc1 c g fi ca H kf D m b hT hd hml Z hs) ?_;clear hs;rintro r Z ⟨rfl,hs⟩;refine zz ?_;(repeat clear U K);repeat intro K U
 exact AI ⟨rfl,hs⟩
def m5 {w : AF} (f:Fact):BN w f=true->lv f<=100->k9 f:=by
 have hM:=Mx
 induction f using Fact.ind with
 | h f ih=>
   intro hn hv c g fi ca H kf D l b hT hd hll Z hs;have har:=B7 _ hn
   have hnk: ∀k∈f.kids,BN w k=true:=by
    rw[By,A0,DJ]at hn;exact hn.2
   have hop:f.op=1\/f.op=5\/Bl f=true\/f.op=6\/f.op=7:=by
    rw[By,A0]at hn;have h1:=hn.1;simp only[C8,VY,A0]at h1;rw[Ml];simp only[A0,CC];have h2:=h1.1;split at h2
    .omega
    .split at h2
     .omega
     .simp only[Ea,Cd]at h2
      omega
   refine xl kZ ?_;have hcs:=Kf f c;rw[QE]at hcs;rcases hop with h1|h5|hl|h67
   .rw[if_pos h1]at hcs
    rw[hcs]at hd ⊢;cases c
    .rw[if_neg (by decide)]at hd ⊢
     have h0:=hT l b (by simpa using hd [] (.head _)) Z hs
     conv=>whnf
     repeat'((first|clear U K|apply st|(apply zk;intro K U)|refine zY ?_|(refine zb (fun hc=>?_) (fun hc=>?_)<;>try exact⟨⟩)|fail)<;>conv=>whnf)
     all_goals try(exfalso;omega)
     refine BA (Ar.mono h0 ?_);clear hs h0;rintro r Z ⟨rfl,hs⟩;refine zz ?_;(repeat clear U K);repeat intro K U
     exact AI ⟨by simp,hs⟩
    .rw[if_pos rfl]at hd ⊢
     conv=>whnf
     repeat'((first|clear U K|apply st|(apply zk;intro K U)|refine zY ?_|(refine zb (fun hc=>?_) (fun hc=>?_)<;>try exact⟨⟩)|fail)<;>conv=>whnf)
     all_goals try(exfalso;omega)
     exact AI ⟨rfl,hs⟩
   .obtain⟨k,hk,-⟩:=Fi har h5
    have hkm:k∈f.kids:=by rw[hk];exact .head _
    have hve:lv f=lv k:=by
     rw[Kt f,ct,if_pos h5,hk];rfl
    have hvk:lv k<=100:=by omega
    rw[if_neg (by omega),if_pos h5,hk]at hcs;have hcs2:CT f c=CT k (!c):=hcs;have h0:f.kids[(0:Int).toNat]? =some k:=by rw[hk];rfl
    rw[hcs2]at hd ⊢
    conv=>whnf
    repeat'((first|clear U K|apply st|(apply zk;intro K U)|refine zY ?_|(refine zb (fun hc=>?_) (fun hc=>?_)<;>try exact⟨⟩)|fail)<;>conv=>whnf)
    all_goals try(exfalso;omega)
    refine Ar.mono (ih k hkm (hnk k hkm) hvk (!c) g fi ca H kf D l b hT hd (by omega) Z hs) ?_;clear hs;rintro r Z ⟨rfl,hs⟩;refine zz ?_;(repeat clear U K);repeat intro K U
    exact AI ⟨rfl,hs⟩
   .have hlo:=Ff hl
    rw[if_neg (by omega),if_neg (by omega),if_neg (by omega)]at hcs;have hcs2:CT f c= [[if c then Ez f else f]]:=by rw[hcs];cases c<;>rfl
    rw[hcs2]at hd ⊢;have c1:=ABZ l b (by omega);have hd2:=hd _ (.head _);have e:JQ (if c then Ez f else f)=xF f++[.b c]:=TK hl c
    conv=>whnf
    repeat'((first|clear U K|apply st|(apply zk;intro K U)|refine zY ?_|refine rk ?_ ?_|exact fun s e=>by cases e;rfl|refine zC ?_|(refine zb (fun hc=>?_) (fun hc=>?_)<;>try exact⟨⟩)|fail)<;>conv=>whnf)
    all_goals try(exfalso;omega)
    have hrow:([xF f++[.b c]]:List (List V))= [if c then Ez f else f].map JQ:=by rw[EW,List.map_nil,e]
    refine(?_:AL 88 Z 7 (.l (Dx l) true) (.l [xF f++[.b c]] true) _);rw[hrow];refine Oa (enc:=JQ) (iS hs (es:=Dx l) (sz:=7) (fun x hx=>by obtain⟨y,_,rfl⟩:=Hp.1 hx;rfl)) 0 (xs:=l) (ys:=[if c then Ez f else f]) rfl (b:=88) (by simp;omega) UU (fun v Z hs=>?_)
    conv=>whnf
    repeat'((first|apply st|refine rk ?_ ?_|exact fun s e=>by cases e;rfl|fail)<;>conv=>whnf)
    obtain⟨Z2,q1,q2,q3⟩:=JC hs 0 rfl;refine BA (Ar.P8 (Ar.mono (hT (l++[if c then Ez f else f]) false hd2 Z2 q3) ?_) q1 (bj q2 fi ca));clear hs q1 q2 q3;rintro r Z ⟨rfl,hs⟩;refine zz ?_;(repeat clear U K);repeat intro K U
    exact AI ⟨by simp,hs⟩
   .obtain⟨k0,k1,hk,-,-⟩:=Fh har h67
    have hkm0:k0∈f.kids:=by rw[hk];exact .head _
    have hkm1:k1∈f.kids:=by rw[hk];exact .tail _ (.head _)
    have hve:lv f=lv k0+lv k1:=by
     rw[Kt f,ct,if_neg (by omega),if_pos h67,hk];rfl
    have hvk:lv k0+lv k1<=100:=by omega
    rw[if_neg (by omega),if_neg (by omega),if_pos h67,hk]at hcs;have h0:f.kids[(0:Int).toNat]? =some k0:=by rw[hk];rfl
    have h1:f.kids[(1:Int).toNat]? =some k1:=by rw[hk];rfl
    have i0:=ih k0 hkm0 (hnk k0 hkm0) (by omega);have i1:=ih k1 hkm1 (hnk k1 hkm1) (by omega);by_cases hap:(c != (f.op==7))=true
    .rw [if_pos hap]at hcs
     have hcs2:CT f c=CT k0 c++CT k1 c:=hcs;rw[hcs2]at hd ⊢;rw[List.any_append];have hd3:=fun x hx=>hd x (O5 _ hx)
     have hd4:=fun x hx=>hd x (OQ _ hx)
     clear hcs hcs2 hd
     have h6b:(f.op==6)=c:=by
      rcases h67 with h6|h7
      .rw[h6]at hap ⊢;cases c<;>simp_all
      .rw[h7]at hap ⊢;cases c<;>simp_all
     rcases h67 with h6|h7
     all_goals
      cases c
      all_goals
       conv=>whnf
       repeat'((first|clear U K|apply st|(apply zk;intro K U)|refine zY ?_|(rw[h6b])|(refine zb (fun hc=>?_) (fun hc=>?_)<;>try exact⟨⟩)|fail)<;>conv=>whnf)
       all_goals try(exfalso;simp_all;done)
       all_goals try(exfalso;omega)
     .refine Ar.mono (i0 true g fi ca H kf D l b hT hd3 (by omega) Z hs) ?_
      clear hs;rintro r Z ⟨rfl,hs⟩;generalize hB0:((CT k0 true).any fun x=>kf (l++x))=B0;cases B0
      .refine zz ?_;(repeat clear U K);repeat intro K U
       refine Ar.mono (i1 true g fi ca H kf D l b hT hd4 (by omega) Z hs) ?_;clear hs;rintro r Z ⟨rfl,hs⟩;refine zz ?_;(repeat clear U K);repeat intro K U
       exact AI ⟨by rw[hB0];rfl,hs⟩
      .refine zz ?_;(repeat clear U K);repeat intro K U
       exact AI ⟨by rw[hB0];rfl,hs⟩
     .refine Ar.mono (i0 false g fi ca H kf D l b hT hd3 (by omega) Z hs) ?_
      clear hs;rintro r Z ⟨rfl,hs⟩;generalize hB0:((CT k0 false).any fun x=>kf (l++x))=B0;cases B0
      .refine zz ?_;(repeat clear U K);repeat intro K U
       refine Ar.mono (i1 false g fi ca H kf D l b hT hd4 (by omega) Z hs) ?_;clear hs;rintro r Z ⟨rfl,hs⟩;refine zz ?_;(repeat clear U K);repeat intro K U
       exact AI ⟨by rw[hB0];rfl,hs⟩
      .refine zz ?_;(repeat clear U K);repeat intro K U
       exact AI ⟨by rw[hB0];rfl,hs⟩
    .rw [if_neg hap]at hcs
     have hcs2:CT f c=V9 (CT k0 c) (CT k1 c):=hcs;rw[hcs2]at hd ⊢;rw[nI];have hlx:=Rx k0 (B7 _ (hnk k0 hkm0)) c;have hT2:=pD hk i1 (c:=c) hT;have hd5: ∀x∈CT k0 c,(∀y∈CT k1 c,D (l++x++y))/\(l++x).length+lv k1<=500000:=fun x hx=>⟨fun y hy=>by rw[Ps];exact hd _ (FU.2 ⟨x,hx,y,hy,rfl⟩),by have:=hlx x hx;rw[SB];omega⟩
     have h6b:(f.op==6)= !c:=by
      rcases h67 with h6|h7
      .rw[h6]at hap ⊢;cases c<;>simp_all
      .rw[h7]at hap ⊢;cases c<;>simp_all
     have hrun:=fun Z hs=>i0 c 278 [] [.rp (xF f),.rp [.b c],.rp [.f (.func g) fi ca]] H _ _ l b hT2 hd5 (by omega) Z hs
     clear hcs hcs2 hd hd5 hT2;generalize ((CT k0 c).any fun x=>(CT k1 c).any fun y=>kf (l++x++y))=B0 at *;rcases h67 with h6|h7
     all_goals
      cases c
      all_goals
       conv=>whnf
       repeat'((first|clear U K|apply st|(apply zk;intro K U)|refine zY ?_|(rw[h6b])|(refine zb (fun hc=>?_) (fun hc=>?_)<;>try exact⟨⟩)|fail)<;>conv=>whnf)
       all_goals try(exfalso;simp_all;done)
       all_goals try(exfalso;omega)
     all_goals
      refine Ar.mono (hrun Z hs) ?_;clear hs;rintro r Z ⟨rfl,hs⟩;refine zz ?_;(repeat clear U K);repeat intro K U
      exact AI ⟨rfl,hs⟩
end Go.Gl
namespace Go.Gl
open Go.Proofs
attribute [local irreducible] Ar Aj AZ AQ AL AX AP AR AJ AW AM AN Am Av Sat AT As Aa W
end Go.Gl
namespace Go.Gl
open Go.Proofs
def Ds (f:Fact) (c:Bool) (j:Nat) (a:Int) (p:List Int) (k:Kn):Kn:=
 if f.arg=a/\Bm f.path p=true then(if p.length<j then ni (B2 k c) (f.path.getD p.length 0)else if p.length=j then B2 k c else k)else k
def qH (f:Fact) (c:Bool) (a:Int) (p:List Int) (k:Kn):Ds f c 0 a p k=if a=f.arg/\p= []then B2 k c else k:=by
 unfold Ds;by_cases h:f.arg=a/\Bm f.path p=true
 .rw[if_pos h,if_neg (by omega)]
  by_cases hp:p.length=0
  .rw[if_pos hp,if_pos ⟨h.1.symm,YM.1 hp⟩]
  .rw[if_neg hp,if_neg (fun h'=>hp (by rw[h'.2];rfl))]
 .rw[if_neg h,if_neg]
  rintro⟨rfl,rfl⟩;exact h ⟨rfl,B4.2 ⟨f.path,by simp⟩⟩
def qI (f:Fact) (c:Bool) {j:Nat} (hj:j<f.path.length) (a:Int) (p:List Int) (k:Kn):Ds f c (j+1) a p k=if a=f.arg/\p=f.path.take (j+1)then B2 (Ds f c j a p k) c else if a=f.arg/\p=f.path.take j then ni (Ds f c j a p k) (f.path.getD j 0)else Ds f c j a p k:=by
 unfold Ds;by_cases h:f.arg=a/\Bm f.path p=true
 .rw [if_pos h,if_pos h]
  obtain⟨h1,h2⟩:=h;rw[HO]at h2;obtain⟨h2,h3⟩:=h2;have l1:p=f.path.take (j+1)↔p.length=j+1:=⟨fun e=>by rw[e,Lq];omega,fun e=>by rw[e]at h3;exact h3⟩
  have l2:p=f.path.take j↔p.length=j:=⟨fun e=>by rw[e,Lq];omega,fun e=>by rw[e]at h3;exact h3⟩
  have n1:p.length≠j+1-> ¬(a=f.arg/\p=f.path.take (j+1)):=fun h h'=>h (l1.1 h'.2)
  have n2:p.length≠j-> ¬(a=f.arg/\p=f.path.take j):=fun h h'=>h (l2.1 h'.2)
  by_cases q1:p.length<j
  .rw[if_pos (show p.length<j+1 by omega),if_neg (n1 (by omega)),if_neg (n2 (by omega)),if_pos q1]
  .by_cases q2:p.length=j
   .rw[if_pos (show p.length<j+1 by omega),if_neg (n1 (by omega)),if_pos (show a=f.arg/\p=f.path.take j from⟨h1.symm,l2.2 q2⟩),if_neg q1,if_pos q2,q2]
   .by_cases q3:p.length=j+1
    .rw[if_neg (show¬p.length<j+1 by omega),if_pos q3,if_pos (show a=f.arg/\p=f.path.take (j+1) from⟨h1.symm,l1.2 q3⟩),if_neg q1,if_neg q2]
    .rw[if_neg (show¬p.length<j+1 by omega),if_neg q3,if_neg (n1 q3),if_neg (n2 q2),if_neg q1,if_neg q2]
 .rw[if_neg h,if_neg h,if_neg,if_neg]
  .rintro⟨rfl,rfl⟩
   exact h ⟨rfl,B4.2 ⟨f.path.drop j,by rw[List.take_append_drop]⟩⟩
  .rintro⟨rfl,rfl⟩
   exact h ⟨rfl,B4.2 ⟨f.path.drop (j+1),by rw[List.take_append_drop]⟩⟩
def uw (a : Int) (p:List Int) (k:Kn) (l:Fact):H6 a p k l=if a=(Ah l).1.arg/\p=(Ah l).1.path then B1 (Ds (Ah l).1 (Ah l).2 (Ah l).1.path.length a p k) (Ah l).1 (Ah l).2 else Ds (Ah l).1 (Ah l).2 (Ah l).1.path.length a p k:=by
 unfold H6 Ds;by_cases h:(Ah l).1.arg=a/\Bm (Ah l).1.path p=true
 .rw [if_pos h,if_pos h]
  obtain⟨h1,h2⟩:=h;rw[HO]at h2;obtain⟨h2,h3⟩:=h2;by_cases hp:(Ah l).1.path=p
  .rw[if_pos hp,if_pos ⟨h1.symm,hp.symm⟩,if_neg (by rw[hp];omega),if_pos (by rw[hp])]
  .have hne:p.length<(Ah l).1.path.length:=by
    rcases Nat.lt_or_ge p.length (Ah l).1.path.length with h'|h'
    .exact h'
    .rw[List.take_of_length_le h']at h3
     exact absurd h3.symm hp
   rw[if_neg hp,if_neg (fun h=>hp h.2.symm),if_pos hne]
 .rw[if_neg h,if_neg h,if_neg]
  rintro⟨rfl,rfl⟩;exact h ⟨rfl,J4 _⟩
def qA (ls:List Fact) (l:Fact) (a:Int) (p:List Int):kg (ls++[l]) a p=H6 a p (kg ls a p) l:=by
 rw[kg,List.foldl_append];rfl
def Xh (l:List Int) (s:Int):(UJ l s).length<=l.length+1:=by
 unfold UJ;split
 .omega
 .simp
def jZ (a:Int) (p:List Int): ∀(ls:List Fact) (k:Kn),(ls.foldl (H6 a p) k).no.length<=k.no.length+ls.length/\(ls.foldl (H6 a p) k).AH.length<=k.AH.length+ls.length
 | [],k=>⟨Ia _,Ia _⟩
 | l ::r,k=>by
   obtain⟨h1,h2⟩:=jZ a p r (H6 a p k l)
   have h3:(H6 a p k l).no.length<=k.no.length+1/\(H6 a p k l).AH.length<=k.AH.length+1:=by
    unfold H6
    repeat' split
    .have:=R3 (B2 k (Ah l).2) (Ah l).1 (Ah l).2
     rw[IZ];simp only[B2]at this ⊢;omega
    .have:=Xh k.AH ((Ah l).1.path.getD p.length 0)
     simp only[ni,B2]at this ⊢;omega
    .omega
   rw[List.foldl_cons,Lr];omega
def qB {n:Nat} {ls:List Fact} (h:Gz n ls) (a:Int) (p:List Int):(kg ls a p).BW<2 ^ n/\(kg ls a p).Dt<2 ^ n:=by
 obtain⟨-,-,-,c4,c5,-⟩:=KF (U4 ls a p);have hc2:Gz n (ls.filter (Km a p)):=fun l hl=>h l (JU.1 hl).1
 rw[c4,c5];exact⟨MH hc2,jQ hc2⟩
abbrev ke:AV:=(.seq [2,3] (.DH [⟨(some 2),.PF (.t 0),none⟩,
 ⟨(some 3),.PF (.t 1),none⟩,
 ⟨(some 4),.mv (.c .pn),none⟩])
 (.seq [2,3,5,6] (.DH [⟨(some 8),.F9 1 (.t 2),none⟩,
  ⟨(some 9),.load none (.t 8),none⟩,
  ⟨(some 10),.load (some 4) (.t 3),none⟩,
  ⟨(some 11),.lookup (.a [.i64,.i64,.i64,.i64]) .pn true (.t 9) (.t 10),none⟩,
  ⟨(some 7),.mv (.t 11),none⟩,
  ⟨(some 12),.extract 0 (.t 7),none⟩,
  ⟨(some 13),.extract 1 (.t 7),none⟩,
  ⟨(some 5),.mv (.t 12),none⟩,
  ⟨(some 6),.mv (.t 13),none⟩])
 (.seq [5] (.seq [2,3,5,15] (.DH [⟨(some 14),.mv (.t 6),none⟩,
  ⟨(some 15),.not (.t 14),none⟩])
 (.cond (.t 15)
 (.seq [2,3,5] (.DH [⟨(some 16),.build [(.i .u64 0),(.i .u64 0),(.i .i64 0),(.i .i64 0),(.l [] true),(.b false),(.b false),(.l [] true)] [(2,1,(.c (.i .i64 (-1000000000)))),(3,1,(.c (.i .i64 1000000000)))],none⟩,
  ⟨(some 17),.box (.t 16),none⟩,
  ⟨(some 5),.mv (.t 17),none⟩])
 (.DH [⟨(some 18),.F9 1 (.t 2),none⟩,
  ⟨(some 19),.load none (.t 18),none⟩,
  ⟨(some 20),.load (some 4) (.t 3),none⟩,
  ⟨(some 21),.mv (.t 5),none⟩,
  ⟨none,.Ed (.a [.i64,.i64,.i64,.i64]) (.t 19) (.t 20) (.t 21),none⟩]))
 .skip))
 (.seq [4] (.DH [⟨(some 22),.mv (.t 5),none⟩,
  ⟨(some 4),.mv (.t 22),none⟩])
 .ret))))
def oz:Tryz.f213.body.bind (res Tryz.prog Tryz.f213.ntmps [] [2,3])=some (erase ke):=by kernel_rfl
def qx {args:List V} (hn:args.length<=23) {Z:AE} {Q:R->AE->Prop} (h:W Tryz.prog ke (iF [4] Q) (A6 0 args) Z):Ar Tryz.prog 213 args Z Q:=
 Lg Tryz.func213 (by kernel_rfl) oz rfl hn (nv h)
end Go.Gl
namespace Go.Gl
open Go.Proofs
attribute [local irreducible] Ar Aj AZ AQ AL AX AP AR AJ AW AM AN Am Av Sat AT As Aa W
def rm (s c:Nat) (hs0:s<18446744073709551616) (hc:c<64):Pure zP 212 [eU s,eI c] (eU (s|||2 ^ c)):=by
 refine xj kZ ?_;have hs:=Sn
 conv=>whnf
 repeat'((first|clear U K|apply st|(apply zk;intro K U)|fail)<;>conv=>whnf)
 refine⟨Int.natCast_nonneg _,?_⟩;refine zv ?_;(repeat clear U K);repeat intro K U
 exact AG (by rw[HP,Uq hc,HG hs0 (Gc hc)])
def tK (s c:Nat) (hs0:s<18446744073709551616) (hc:c<64):Pure zP 159 [eU s,eI c] (.b (s.testBit c)):=by
 refine yQ kZ ?_;have hs:=Sn
 conv=>whnf
 repeat'((first|clear U K|apply st|(apply zk;intro K U)|fail)<;>conv=>whnf)
 refine⟨Int.natCast_nonneg _,?_⟩;refine zv ?_;(repeat clear U K);repeat intro K U
 refine AG ?_;rw[HP,Up hc];have h1:s >>> c<18446744073709551616:=by rw[Nat.shiftRight_eq_div_pow];exact Nat.lt_of_le_of_lt (Nat.div_le_self _ _) hs0
 have h2:bits .and .u64 ((s >>> c:Nat):Int) 1=((s >>> c&&&1:Nat):Int):=Fw h1 (show 1<_ by decide);rw[h2];simp only[Nat.testBit,Nat.and_comm 1];congr 1;rcases Nat.mod_two_eq_zero_or_one (s >>> c)with h|h<;>simp[Nat.and_one_is_mod,h]
def Nb (s:Nat) (c:Int) (hs0:s<18446744073709551616) (h0:0<=c) (hc:c<64):Pure zP 212 [eU s,eI c] (eU (s|||2 ^ c.toNat)):=by
 have:=rm s c.toNat hs0 (by omega);rw[Int.toNat_of_nonneg h0]at this;exact this
def aM (s:Nat) (c:Int) (hs0:s<18446744073709551616) (h0:0<=c) (hc:c<64):Pure zP 159 [eU s,eI c] (.b (s.testBit c.toNat)):=by
 have:=tK s c.toNat hs0 (by omega);rw[Int.toNat_of_nonneg h0]at this;exact this
abbrev gW (w:AF) (us:List Nat):List V:=[.l (En w.parents) false,.l (iL w.owner) false,.l (us.map fun u=>[eU u]) false]
abbrev gv (w:AF) (us:List Nat) (L:Nat):List V:=[.rp (gW w us),.m L]
abbrev iU (b:Nat) (vn vs:V) (k:Kn):List At:=[.box b [eU k.BW,eU k.Dt,eI k.low,eI k.high,vn,.b k.whole,.b k.Ac,vs],.own vn 1 (iL k.no),.own vs 1 (iL k.AH)]
abbrev WI (e:B6):List At:=iU e.b e.vn e.vs e.k
def Bs (L:Nat) (es:List B6):List At:= .map L (T4 es)::es.flatMap WI
def I8 (L:Nat) (es pre post:List B6):List At:= .map L (T4 es)::(pre++post).flatMap WI
def XE (L:Nat) (pre post:List B6) (e:B6):(Bs L (pre++e::post)).Perm (WI e++I8 L (pre++e::post) pre post):=by
 unfold Bs I8;rw[List.flatMap_append,List.flatMap_cons,List.flatMap_append];refine List.Perm.trans ?_ (List.perm_middle.symm);refine List.Perm.cons _ ?_;rw[<-Ps,<-Ps];exact List.Perm.append_right _ PL
def VH {L:Nat} {pre post:List B6} {e e':B6} (h1:e'.a=e.a) (h2:e'.p=e.p) (h3:e'.b=e.b):I8 L (pre++e'::post) pre post=I8 L (pre++e::post) pre post:=by
 rw[I8,I8,Rj h1 h2 h3]
def Jf {Z:AE} {X:List At} {L:Nat} {pre post:List B6} {e:B6} (h:Sat Z (X++Bs L (pre++e::post))):Sat Z (.box e.b [eU e.k.BW,eU e.k.Dt,eI e.k.low,eI e.k.high,e.vn,.b e.k.whole,.b e.k.Ac,e.vs]:: .own e.vn 1 (iL e.k.no):: .own e.vs 1 (iL e.k.AH)::(X++I8 L (pre++e::post) pre post)):=by
 have h2:Sat Z (WI e++(X++I8 L (pre++e::post) pre post)):=h.perm ((List.Perm.append_left X (XE L pre post e)).trans (by rw[<-Ps,<-Ps];exact PL.append_right _));exact h2
def Dp {Z:AE} {X:List At} {L:Nat} {pre post:List B6} {e e':B6} (h1:e'.a=e.a) (h2:e'.p=e.p) (h3:e'.b=e.b) (h:Sat Z (WI e'++(X++I8 L (pre++e::post) pre post))):Sat Z (X++Bs L (pre++e'::post)):=by
 rw[<-VH h1 h2 h3]at h;exact h.perm ((List.Perm.append_left X (XE L pre post e')).trans (by rw[<-Ps,<-Ps];exact PL.append_right _)).symm
def nf (w:AF) (us:List Nat) {kf:Int->List Int->Kn} {L:Nat} {es:List B6} (h:Bx kf es) {a:Int} {p:List Int} (hp:p.length<=2) :
    BS zP 213 [.a (gv w us L),CG a p] (Bs L es) fun r post=> ∃es' e,oP kf es es' a p e/\r= .ret (.p e.b 0)/\post=Bs L es':=by
 intro Z hs;refine qx kZ ?_;unfold Bs at hs;rcases iM a p es with hn|⟨pre,e,post,rfl,he,hpre⟩
 .have hf:=Qp hp h.len hn
  conv=>whnf
  repeat'((first|clear U K|apply st|(apply zk;intro K U)|refine zY ?_|refine Nk hs 0 rfl rfl (II _) hf ?_|refine Io hs 1 rfl rfl (II _) fun Z hs=>?_|refine zo fun nn hnn Z hs=>?_|fail)<;>conv=>whnf)
  simp only[List.set_cons_succ,List.set_cons_zero]at hs;change Sat Z (_:: .map L (Da (CG a p) (.p nn 0) (T4 es))::_)at hs;rw[Yn hp nn (.l [] true) (.l [] true) k0 h.len hn]at hs;have hs2:=Db (Db hs 1) 1;refine AI ⟨_,⟨es++[⟨a,p,nn,.l [] true,.l [] true,k0⟩],⟨a,p,nn,.l [] true,.l [] true,k0⟩,⟨h.add hp hn _ _ _,⟨_,rfl,by simp⟩,by simp,by simp[B6.is]⟩,rfl,rfl⟩,?_⟩;unfold Bs;rw[List.flatMap_append,List.flatMap_cons,List.flatMap_nil,FE];refine hs2.perm ((List.perm_middle (l₁:=[_,_,_])).trans (.cons _ (PL.trans (List.Perm.append_left _ (List.reverse_perm _).symm))))
 .have hf:=Qo hp he h.len hpre
  conv=>whnf
  repeat'((first|clear U K|apply st|(apply zk;intro K U)|refine zY ?_|refine Nk hs 0 rfl rfl (II _) hf ?_|fail)<;>conv=>whnf)
  exact AI ⟨_,⟨_,e,⟨h,.refl _,by simp,he⟩,rfl,rfl⟩,hs⟩
def MT (a:Int) (p:List Int) (s:Int) (hp:p.length<2):Pure zP 214 [CG a p,eI s] (CG a (p++[s])):=by
 refine Pure.of ?_;refine xi kZ ?_;have hs:=Sn
 match p,hp with
 | [],_=>
   conv=>whnf
   repeat'((first|clear U K|apply st|(apply zk;intro K U)|refine zY ?_|refine zs fun Z hs=>?_|refine za (fun hc=>?_) fun hc=>?_|refine zo fun nn hnn Z hs=>?_|fail)<;>conv=>whnf)
   all_goals first
    | exact AI rfl
    | (exfalso;simp at hc;done)
 | [x],_=>
   conv=>whnf
   repeat'((first|clear U K|apply st|(apply zk;intro K U)|refine zY ?_|refine zs fun Z hs=>?_|refine za (fun hc=>?_) fun hc=>?_|refine zo fun nn hnn Z hs=>?_|fail)<;>conv=>whnf)
   all_goals first
    | exact AI rfl
    | (exfalso;simp at hc;done)
def AAR {b:Nat} {vn vs:V} {k:Kn} (f:Fact) (c:Bool) (hl:f.op=2\/f.op=3\/f.op=4) (hc:f.op=2->0<=f.cls/\f.cls<64) (hm:k.BW<18446744073709551616) (hn:k.Dt<18446744073709551616) (hno:k.no.length<1000000) (hN: -1000000000<=f.n/\f.n<=1000000000) :
    BS zP 215 [.p b 0,.a (xF f++[.b c])] (iU b vn vs k) fun r post=>r= .ret (.t [])/\ ∃vn',post=iU b vn' vs (B1 k f c):=by
 intro Z hs;have hM:=Mx;refine xh kZ ?_;rw[show xF f++[V.b c]= [eI f.op,eI f.arg,.l (iL f.path) false,eI f.cls,eI f.n,.l (f.kids.map FN) false,.b c] from rfl];have hw:IntKind.i64.wrap (f.n - 1)=f.n - 1:=wrap64 (by omega) (by omega);cases c<;>rcases hl with h2|h3|h4
 .have hE:B1 k f false= {k with BW:=k.BW|||2 ^ f.cls.toNat}:=by rw[B1,if_pos h2,if_neg Bool.false_ne_true]
  rw[hE]
  conv=>whnf
  repeat'((first|clear U K|apply st|(apply zk;intro K U)|refine zY ?_|refine zs fun Z hs=>?_|refine Pure.use (Nb _ _ hm (by omega) (by omega)) ?_|(refine zb (fun hc=>?_) (fun hc=>?_)<;>try exact⟨⟩)|fail)<;>conv=>whnf)
  exact AI ⟨_,⟨rfl,vn,rfl⟩,hs⟩
 .have hE:B1 k f false= {k with high:=if f.n - 1<k.high then f.n - 1 else k.high,whole:=true}:=by rw[B1,if_neg (by omega),if_pos h3,if_neg Bool.false_ne_true]
  rw[hE]
  conv=>whnf
  repeat'((first|clear U K|apply st|(apply zk;intro K U)|refine zY ?_|refine zs fun Z hs=>?_|(refine zb (fun hc=>?_) (fun hc=>?_)<;>try exact⟨⟩)|fail)<;>conv=>whnf)
  rw[hw]at hs;exact AI ⟨_,⟨rfl,vn,rfl⟩,hs⟩
 .have hE:B1 k f false= {k with low:=if f.n > k.low then f.n else k.low,high:=if f.n<k.high then f.n else k.high,whole:=true}:=by rw[B1,if_neg (by omega),if_neg (by omega),if_neg Bool.false_ne_true]
  rw[hE]
  conv=>whnf
  repeat'((first|clear U K|apply st|(apply zk;intro K U)|refine zY ?_|refine zs fun Z hs=>?_|(refine zb (fun hc=>?_) (fun hc=>?_)<;>try exact⟨⟩)|fail)<;>conv=>whnf)
  exact AI ⟨_,⟨rfl,vn,rfl⟩,hs⟩
 .have hE:B1 k f true= {k with Dt:=k.Dt|||2 ^ f.cls.toNat}:=by rw[B1,if_pos h2,if_pos rfl]
  rw[hE]
  conv=>whnf
  repeat'((first|clear U K|apply st|(apply zk;intro K U)|refine zY ?_|refine zs fun Z hs=>?_|refine Pure.use (Nb _ _ hn (by omega) (by omega)) ?_|(refine zb (fun hc=>?_) (fun hc=>?_)<;>try exact⟨⟩)|fail)<;>conv=>whnf)
  exact AI ⟨_,⟨rfl,vn,rfl⟩,hs⟩
 .have hE:B1 k f true= {k with low:=if f.n > k.low then f.n else k.low}:=by rw[B1,if_neg (by omega),if_pos h3,if_pos rfl]
  rw[hE]
  conv=>whnf
  repeat'((first|clear U K|apply st|(apply zk;intro K U)|refine zY ?_|refine zs fun Z hs=>?_|(refine zb (fun hc=>?_) (fun hc=>?_)<;>try exact⟨⟩)|fail)<;>conv=>whnf)
  exact AI ⟨_,⟨rfl,vn,rfl⟩,hs⟩
 .have hE:B1 k f true= {k with no:=k.no++[f.n]}:=by rw[B1,if_neg (by omega),if_neg (by omega),if_pos rfl]
  rw[hE]
  conv=>whnf
  repeat'((first|clear U K|apply st|(apply zk;intro K U)|refine zY ?_|refine zs fun Z hs=>?_|refine aq fun v Z hs hsl=>?_|(refine zb (fun hc=>?_) (fun hc=>?_)<;>try exact⟨⟩)|fail)<;>conv=>whnf)
  exact AI ⟨_,⟨rfl,_,rfl⟩,hs⟩
end Go.Gl
namespace Go.Gl
open Go.Proofs
def Sat.flip {Z:AE} {X AB:List At} (h:Sat Z (X++AB)):Sat Z (AB++X):=h.perm PL
def qJ (f:Fact) (c:Bool) (j:Nat) (a:Int) (p:List Int) (k:Kn):(Ds f c j a p k).BW=k.BW:=by unfold Ds;(repeat' split)<;>rfl
def uv (f:Fact) (c:Bool) (j:Nat) (a:Int) (p:List Int) (k:Kn):(Ds f c j a p k).Dt=k.Dt:=by unfold Ds;(repeat' split)<;>rfl
def AA2 (f:Fact) (c:Bool) (j:Nat) (a:Int) (p:List Int) (k:Kn):(Ds f c j a p k).no=k.no:=by unfold Ds;(repeat' split)<;>rfl
def mS (f:Fact) (c:Bool) (j:Nat) (a:Int) (p:List Int) (k:Kn):(Ds f c j a p k).AH.length<=k.AH.length+1:=by
 unfold Ds
 repeat' split
 .exact Xh _ _
 all_goals simp[B2]
def AA1 {m:Nat} {k:Kn} (h:cr m k) (f:Fact) (c:Bool) (j:Nat) (a:Int) (p:List Int):cr (m+1) (Ds f c j a p k):=by
 obtain⟨h1,h2,h3,h4⟩:=h;refine⟨by rw[qJ];exact h1,by rw[uv];exact h2,by rw[AA2];omega,?_⟩;have:=mS f c j a p k;omega
def jY {ls:List Fact} (h:Nu ls) (a:Int) (p:List Int):cr ls.length (kg ls a p):=by
 have hc:Gz 64 ls:=fun l hl ho=>(h l hl).cls ho
 obtain⟨h1,h2⟩:=qB hc a p;obtain⟨h3,h4⟩:=jZ a p ls k0;exact⟨by simpa using h1,by simpa using h2,by simpa[kg,k0]using h3,by simpa[kg,k0]using h4⟩
def AAu:Bx (kg []) []:=⟨fun x hx=>(by cases hx),fun a p _=>rfl,.nil,fun x hx=>(by cases hx)⟩
attribute [local irreducible] Ar Aj AZ AQ AL AX AP AR AJ AW AM AN Am Av Sat AT As Aa W
abbrev JY (y:Fact×Bool):List V:=[eI y.1.op,eI y.1.arg,.l (iL y.1.path) false,eI y.1.cls,eI y.1.n,.l (y.1.kids.map FN) false,.b y.2]
def AAo (w:AF) (us:List Nat) (ls:List Fact) (ps:List (Fact×Bool)) (hps:ps=ls.map Ah) (b:Bool) (h:Nu ls) (hlen:ls.length<900) :
    BS zP 142 [.rp (gW w us),.l (ps.map JY) b] [] fun r post=> ∃L es,r= .ret (.a (gv w us L))/\Bx (kg ls) es/\post=Bs L es:=by
 intro Z hs;have hM:=Mx;have hpl:ps.length=ls.length:=by rw[hps,Ca]
 refine yb kZ ?_
 conv=>whnf
 repeat'((first|apply st|(apply sq;intro K U)|(apply si;intro A B hA hB)|(refine hA _ _ ?_;clear hB B hA A)|(apply U;clear U K)|refine snb fun Z hs=>?_|(intro nn hnn;generalize hg:B5 _ nn _=Z;refine alF hg fun hs=>?_;clear hg)|fail)<;>conv=>whnf)
 rename_i n4 _ _ _ L _ _ _ _ _;generalize nn=n5 at *;refine CZ ps.length (fun k (x:List B6)=>[(17,eI (BL k))]) (fun k x=> .box n5 (gv w us L):: .box n4 [.pn,.mn]::Bs L x) (fun k x=>Bx (kg (ls.take k)) x) [] rfl AAu (hs.perm (.cons _ (.swap _ _ _))) ?_;clear hs hnn;rintro k es Z hk hinv hs;rcases BF ps hk with⟨y,hy,hlt⟩|hke
 .obtain ⟨l,hlk⟩: ∃l,ls[k]? =some l:=⟨_,DC (by omega)⟩
  have hyl:y=Ah l:=by
   rw[hps,OR,hlk]at hy;exact(Option.some.inj hy).symm
  have hlm:l∈ls:=CY hlk;have htk:ls.take (k+1)=ls.take k++[l]:=AU hlk;have hbk: ∀a p,cr (ls.take k).length (kg (ls.take k) a p):=jY fun x hx=>h x (List.mem_of_mem_take hx)
  obtain⟨l1,l2,l3,l4⟩:=h l hlm;have hkl:(ls.take k).length<900:=by rw[Lq];omega
  have hend: ∀a p,kg (ls.take (k+1)) a p=if a=(Ah l).1.arg/\p=(Ah l).1.path then B1 (Ds (Ah l).1 (Ah l).2 (Ah l).1.path.length a p (kg (ls.take k) a p)) (Ah l).1 (Ah l).2 else Ds (Ah l).1 (Ah l).2 (Ah l).1.path.length a p (kg (ls.take k) a p):=fun a p=>by
   rw[htk,qA];exact uw a p (kg (ls.take k) a p) l
  generalize kg (ls.take k)=kf at *;rw[<-hyl]at l1 l2 l3 l4 hend;clear hyl;obtain⟨f,c⟩:=y;dsimp only at l1 l2 l3 l4 hend;generalize (ls.take k).length=m at *
  conv=>whnf
  repeat'((first|apply st|(apply sq;intro K U)|(apply si;intro A B hA hB)|(refine hA _ _ ?_;clear hB B hA A)|(apply U;clear U K)|refine⟨rfl,?_⟩|refine⟨kZ,?_⟩|refine ix ?_|refine ld ?_|refine snb fun Z hs=>?_|(refine fck (fun hc=>?_)<;>(try rw[hc])<;>clear hc)|(intro nn hnn;generalize hg:B5 _ nn _=Z;refine alF hg fun hs=>?_;clear hg)|fail)<;>conv=>whnf)
  rename_i n7 _ _ _ _ _ _ _;generalize nn=n8 at *;replace hs:Sat Z ([.box n8 (F0 f.arg []),.box n7 (JY (f,c)),.box n5 (gv w us L),.box n4 [.pn,.mn]]++Bs L es):=hs;refine(nf w us hinv (a:=f.arg) (p:=[]) (by simp)).use (rest:=[.box n8 (F0 f.arg []),.box n7 (JY (f,c)),.box n5 (gv w us L),.box n4 [.pn,.mn]]) hs.flip ?_;clear hs;rintro r post Z ⟨es1,e1,got,rfl,rfl⟩ hs;have hek:=got.k;obtain⟨hea,hep⟩:=Ge.1 got.is;obtain⟨pre,post,rfl⟩:=List.append_of_mem got.mem;replace hs:=Jf (X:=[.box n8 (F0 f.arg []),.box n7 (JY (f,c)),.box n5 (gv w us L),.box n4 [.pn,.mn]]) hs.flip;cases hnd:e1.k.Ac<;>rw[hnd]at hs
  all_goals
   conv=>whnf
   repeat'((first|apply st|(apply sq;intro K U)|(apply si;intro A B hA hB)|(refine hA _ _ ?_;clear hB B hA A)|(apply U;clear U K)|refine ld ?_|refine s1b fun Z hs=>?_|fail)<;>conv=>whnf)
   obtain⟨e2,es2,hP,hQ,hR⟩: ∃(e2:B6) (es2:List B6),(Bx (fun a p=>Ds f c 0 a p (kf a p)) es2/\e2∈es2/\e2.is f.arg (f.path.take 0)=true)/\e2.b=e1.b/\Sat Z ([.box n8 (F0 f.arg (f.path.take 0)),.box n7 (JY (f,c)),.box n5 (gv w us L),.box n4 [.pn,.mn]]++Bs L es2):=by
    refine⟨⟨e1.a,e1.p,e1.b,e1.vn,e1.vs,B2 e1.k c⟩,_,⟨(got.inv.change e1.b e1.vn e1.vs (B2 e1.k c)).congr fun a p=>?_,OQ _ (.head _),got.is⟩,rfl,?_⟩
    .rw[qH,NQ,hea,hep,hek]
     by_cases ha:a=f.arg/\p= []
     .rw[if_pos ha,if_pos ha,ha.1,ha.2]
     .rw[if_neg ha,if_neg ha]
    .refine Dp (X:=[.box n8 (F0 f.arg []),.box n7 (JY (f,c)),.box n5 (gv w us L),.box n4 [.pn,.mn]]) (e:=e1) rfl rfl rfl ?_
     first
      | (rw[KV c hnd];exact hs)
      | (rw[Iw c hnd];exact hs)
   rw[<-hQ];clear hs hnd got hek hea hep;refine CZ f.path.length (fun j (x:List B6×B6)=>[(44,eI (BL j)),(9,.p x.2.b 0)]) (fun j x=>[.box n8 (F0 f.arg (f.path.take j)),.box n7 (JY (f,c)),.box n5 (gv w us L),.box n4 [.pn,.mn]]++Bs L x.1) (fun j x=>Bx (fun a p=>Ds f c j a p (kf a p)) x.1/\x.2∈x.1/\x.2.is f.arg (f.path.take j)=true) (es2,e2) rfl hP hR ?_;clear hP hR;generalize e2.b=b0 at *;clear hQ e2 es2;rintro j ⟨es2,e2⟩ Z hj ⟨hinv2,hmem,his⟩ hs;simp only at hinv2 hmem his hs
   have hek:e2.k=Ds f c j f.arg (f.path.take j) (kf f.arg (f.path.take j)):=by
    have:=hinv2.val e2 hmem;obtain⟨h1,h2⟩:=Ge.1 his;rw[this,h1,h2]
   have hok:cr (m+1) e2.k:=by rw[hek];exact AA1 (hbk _ _) f c j _ _
   obtain⟨hea,hep⟩:=Ge.1 his;obtain⟨pre2,post2,rfl⟩:=List.append_of_mem hmem;replace hs:=Jf (X:=[.box n8 (F0 f.arg (f.path.take j)),.box n7 (JY (f,c)),.box n5 (gv w us L),.box n4 [.pn,.mn]]) hs;have hck:BL j=j:=Ag (by omega);rcases BF f.path hj with⟨s,hsj,hjlt⟩|hje
   .have hct:=fun b=>Cr e2.k.AH b s
    have hk4:=hok.2.2.2;have hsl0:ni e2.k s= {e2.k with AH:=UJ e2.k.AH s}:=rfl
    have hne:f.path.take j++[s]≠f.path.take j:=by
     intro e;have:=congrArg List.length e;simp at this
    have hgd:f.path.getD j 0=s:=by rw[C6,hsj];rfl
    have htk2:f.path.take (j+1)=f.path.take j++[s]:=AU hsj;cases hcB:e2.k.AH.contains s
    all_goals
     rw[hcB]at hct
     conv=>whnf
     repeat'((first|apply st|(apply sq;intro K U)|(apply si;intro A B hA hB)|(refine hA _ _ ?_;clear hB B hA A)|(apply U;clear U K)|refine⟨rfl,?_⟩|refine⟨kZ,?_⟩|refine ix ?_|refine ld ?_|refine s1b fun Z hs=>?_|refine snb fun Z hs=>?_|refine aq fun v Z hs hsl=>?_|refine cft ?_|refine cff ?_|(refine fck (fun hc=>?_)<;>(try rw[hc])<;>clear hc)|refine Pure.use (MT f.arg (f.path.take j) s (by rw[Lq];omega)) ?_|refine Pure.Vk (hct false) (.cons (hs.HQ 2 rfl) (.cons (.refl _) .nil)) rfl ?_|fail)<;>conv=>whnf)
    have hs3: ∃vs3,Sat Z ([.box n8 (F0 f.arg (f.path.take j++[s])),.box n7 (JY (f,c)),.box n5 (gv w us L),.box n4 [.pn,.mn]]++Bs L (pre2++⟨e2.a,e2.p,e2.b,e2.vn,vs3,ni e2.k s⟩::post2)):=⟨_,Dp (X:=[.box n8 (F0 f.arg (f.path.take j++[s])),.box n7 (JY (f,c)),.box n5 (gv w us L),.box n4 [.pn,.mn]]) (e:=e2) rfl rfl rfl (by rw[hsl0,UJ,if_neg (by rw[hcB];decide)];exact hs)⟩
    rotate_left
    have hs3: ∃vs3,Sat Z ([.box n8 (F0 f.arg (f.path.take j++[s])),.box n7 (JY (f,c)),.box n5 (gv w us L),.box n4 [.pn,.mn]]++Bs L (pre2++⟨e2.a,e2.p,e2.b,e2.vn,vs3,ni e2.k s⟩::post2)):=⟨e2.vs,Dp (X:=[.box n8 (F0 f.arg (f.path.take j++[s])),.box n7 (JY (f,c)),.box n5 (gv w us L),.box n4 [.pn,.mn]]) (e:=e2) rfl rfl rfl (by rw[hsl0,UJ,if_pos hcB];exact hs)⟩
    all_goals
     clear hs;obtain⟨vs3,hs⟩:=hs3;have hinv3:=hinv2.change e2.b e2.vn vs3 (ni e2.k s);refine(nf w us hinv3 (a:=f.arg) (p:=f.path.take j++[s]) (by rw[SB,Lq];simp;omega)).use (rest:=[.box n8 (F0 f.arg (f.path.take j++[s])),.box n7 (JY (f,c)),.box n5 (gv w us L),.box n4 [.pn,.mn]]) hs.flip ?_;clear hs;rintro r post Z ⟨es4,e4,got,rfl,rfl⟩ hs;have hek4:=got.k;obtain⟨hea4,hep4⟩:=Ge.1 got.is;obtain⟨pre4,post4,rfl⟩:=List.append_of_mem got.mem;replace hs:=Jf (X:=[.box n8 (F0 f.arg (f.path.take j++[s])),.box n7 (JY (f,c)),.box n5 (gv w us L),.box n4 [.pn,.mn]]) hs.flip;cases hnd:e4.k.Ac<;>rw[hnd]at hs
     all_goals
      conv=>whnf
      repeat'((first|apply st|(apply si;intro A B hA hB)|(refine hA _ _ ?_;clear hB B hA A)|(apply U;clear U K)|refine⟨rfl,?_⟩|refine ld ?_|refine s1b fun Z hs=>?_|clear U K)<;>conv=>whnf)
      refine⟨hjlt,(pre4++⟨e4.a,e4.p,e4.b,e4.vn,e4.vs,B2 e4.k c⟩::post4,⟨e4.a,e4.p,e4.b,e4.vn,e4.vs,B2 e4.k c⟩),rfl,⟨(got.inv.change e4.b e4.vn e4.vs (B2 e4.k c)).congr fun a p=>?_,OQ _ (.head _),by rw[htk2];exact got.is⟩,?_⟩
      .rw[qI f c hjlt,NQ,hea4,hep4,htk2,hgd]
       by_cases h1:a=f.arg/\p=f.path.take j++[s]
       .rw[if_pos h1,if_pos h1,hek4,NQ,hea,hep,if_neg (fun h=>hne h.2),h1.1,h1.2]
       .rw[if_neg h1,if_neg h1,NQ,hea,hep]
        by_cases h2:a=f.arg/\p=f.path.take j
        .rw[if_pos h2,if_pos h2,hek,h2.1,h2.2]
        .rw[if_neg h2,if_neg h2]
      .rw[htk2]
       refine Dp (X:=[.box n8 (F0 f.arg (f.path.take j++[s])),.box n7 (JY (f,c)),.box n5 (gv w us L),.box n4 [.pn,.mn]]) (e:=e4) rfl rfl rfl ?_
       first
        | (rw[KV c hnd];exact hs)
        | (rw[Iw c hnd];exact hs)
   .have etk:f.path.take j=f.path:=BC hje
    rw[etk]at his hs hek hep
    conv=>whnf
    repeat'((first|apply st|(apply sq;intro K U)|(apply si;intro A B hA hB)|(refine hA _ _ ?_;clear hB B hA A)|(apply U;clear U K)|refine⟨rfl,?_⟩|refine⟨kZ,?_⟩|refine ld ?_|(refine fcn (fun hc=>?_)<;>(try rw[hc])<;>clear hc)|clear U K)<;>conv=>whnf)
    refine(AAR f c l1 l3 hok.1 hok.2.1 (by have:=hok.2.2.1;omega) l4).use (rest:=[.box n8 (F0 f.arg f.path),.box n7 (JY (f,c)),.box n5 (gv w us L),.box n4 [.pn,.mn]]++I8 L (pre2++e2::post2) pre2 post2) hs ?_;clear hs;rintro r post Z ⟨rfl,vn',rfl⟩ hs;have hs2:=Dp (X:=[.box n8 (F0 f.arg f.path),.box n7 (JY (f,c)),.box n5 (gv w us L),.box n4 [.pn,.mn]]) (e:=e2) (e':=⟨e2.a,e2.p,e2.b,vn',e2.vs,B1 e2.k f c⟩) rfl rfl rfl hs;clear hs;have hs:=hs2;clear hs2
    conv=>whnf
    repeat'((first|(apply si;intro A B hA hB)|(refine hA _ _ ?_;clear hB B hA A)|(apply U;clear U K)|refine⟨rfl,?_⟩|clear U K)<;>conv=>whnf)
    refine⟨hlt,_,rfl,(hinv2.change e2.b vn' e2.vs (B1 e2.k f c)).congr fun a p=>?_,hs.less ((K7 _ _).trans (K7 _ _))⟩;rw[hend,NQ,hea,hep,hek,<-hje];by_cases h1:a=f.arg/\p=f.path
    .rw[if_pos h1,if_pos h1,h1.1,h1.2]
    .rw[if_neg h1,if_neg h1]
 .have etk:ls.take k=ls:=BC (by omega)
  rw[etk]at hinv
  conv=>whnf
  repeat'((first|apply st|(apply sq;intro K U)|(apply si;intro A B hA hB)|(refine hA _ _ ?_;clear hB B hA A)|(apply U;clear U K)|refine⟨rfl,?_⟩|refine⟨kZ,?_⟩|refine ld ?_|refine snb fun Z hs=>?_|(refine fcn (fun hc=>?_)<;>(try rw[hc])<;>clear hc)|clear U K)<;>conv=>whnf)
  exact AI ⟨Bs L es,⟨L,es,rfl,hinv,rfl⟩,hs.less ((K7 _ _).trans (K7 _ _))⟩
end Go.Gl
