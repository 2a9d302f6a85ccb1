import Derived.Test.YtcfkfhaedllcpaaGreatW14
import Derived.Test.YtcfkfhaedllcpaaGreatW15
import Derived.Test.YtcfkfhaedllcpaaGreatW18
import Derived.Test.YtcfkfhaedllcpaaGreatW19
import Derived.Test.YtcfkfhaedllcpaaGreatW21
import Derived.Test.YtcfkfhaedllcpaaGreatW22
import Derived.Test.YtcfkfhaedllcpaaGreatW25
set_option linter.all false
set_option linter.defProp false
set_option maxHeartbeats 8000000
noncomputable section
namespace Go.Gl
open Go.Proofs
attribute [local irreducible] A3 Aq Af AR AJ Ad AQ AT AK Ac AM AN Ax A5 Sat AX A4 Ah W
def iS {Z:AE}:A3 zP 198 [.b false] Z fun r Z'=>r= .Bb Dk/\Z'=Z:=by
 refine fw kZ ?_;refine zz ?_;(repeat clear U K);repeat intro K U
 exact DE ⟨rfl,rfl⟩
def Cj {x:Bool} {Z:AE} {k kp:V->AE->Prop} (h1:x=true->k (.t []) Z) (h2:x=false->kp Dk Z):A3 zP 198 [.b x] Z (qk k kp):=by
 cases x
 .refine A3.mono iS ?_
  rintro r Z' ⟨rfl,rfl⟩;exact h2 rfl
 .exact iR.use (h1 rfl)
def Ff:Int->List Qz->Bool
 | _,[]=>true
 | n,c::r=>decide (c.AG.length<=4)&&(LL n c.AG&&Ff (n+c.AG.length) r)
def PZ: ∀(cs:List Qz) (n:Int),Cg n cs=(Ff n cs&&cs.all fun c=>decide (c.parents.length<=3))
 | [],_=>rfl
 | c::r,n=>by
   simp only[Cg,Ff,LC];rw[PZ r];cases decide (c.AG.length<=4)<;>cases decide (c.parents.length<=3)<;>cases LL n c.AG<;>simp
def Ry: ∀(cs:List Qz) (n:Int),Ff n cs=true->Bj cs<=4*cs.length
 | [],_,_=>Io _
 | c::r,n,h=>by
   simp only[Ff,BD,CN]at h;have:=Ry r _ h.2.2;simp only[Bj,Ex,List.sum_cons,LF]at *;omega
def Vt {p:Prog} (h:Dd (Ay p)=true):(p.AH.all fun c=>decide (c.parents.length<=3))=true:=by
 rw[E3];intro c hc;obtain⟨i,hi⟩:=List.getElem?_of_mem hc;have:=(Dn h).2 i c.parents (by rw[Ay,Md,hi];rfl);exact decide_eq_true this.1
def Qj (p:Prog):A6 p=(decide (p.AH.length<=10)&&(Ff 0 p.AH&&((Bj p.AH:Int)==p.AG&&(Dd (Ay p)&&GA (AS p) (Bj p.AH) 0 p.AH)))):=by
 rw[A6,PZ];cases hg:Dd (Ay p)
 .simp
 .rw[Vt hg,Bool.and_true]
abbrev wW (p:Prog):R->AE->Prop:=fun r Z'=> ∃post:List At,(r=(if A6 p then R.ret (.t [])else R.Bb Dk)/\post= [])/\Sat Z' post
def XK {p:Prog} {Z:AE} (h:A6 p=false):Af Z Dk (wW p):=DE ⟨_,⟨by rw[h];rfl,rfl⟩,Sat.nil⟩
def clsT {p:Prog} {Z:AE} {l:List At} (hs:Sat Z l) (h:A6 p=true):Aq Z (.t []) (wW p):=Ak hs (KG _) (.refl _) fun Z' hs'=>⟨_,⟨by rw[h];rfl,rfl⟩,hs'⟩
def Yc (p : Prog):Bc zP 197 [.a (A9 p)] [] fun r post=>r=(if A6 p then R.ret (.t [])else R.Bb Dk)/\post= []:=by
 intro Z hs;refine A3.fit (by kernel_rfl) fun hf=>?_
 have hP:=Nw hf.1;have hcl:=hP.1;have hM:=Mx;refine uP kZ ?_;have hcb:=Qj p;by_cases h10:p.AH.length<=10
 rotate_left
 .conv=>whnf
  repeat'((first|clear U K|apply st|(apply zk;intro K U)|refine zY ?_|(refine Cj (fun hc=>?_) (fun hc=>?_)<;>(replace hc:=bp hc)<;>(try simp(disch:=omega) only[BU,wrap64,AO]at hc)<;>(try(exfalso;omega)))|fail)<;>conv=>whnf)
  all_goals try(exfalso;omega)
  exact XK (by rw[hcb];simp[h10])
 rw[decide_eq_true h10,G7]at hcb
 conv=>whnf
 repeat'((first|clear U K|apply st|(apply zk;intro K U)|refine zY ?_|(refine Cj (fun hc=>?_) (fun hc=>?_)<;>(replace hc:=bp hc)<;>(try simp(disch:=omega) only[BU,wrap64,AO]at hc)<;>(try(exfalso;omega)))|fail)<;>conv=>whnf)
 all_goals try(exfalso;omega)
 refine B0 p.AH.length (fun k (n:Int)=>[(2,eI n),(24,eI (A8 k))]) (fun _ _=>[]) (fun k n=>Ff 0 p.AH=Ff n (p.AH.drop k)/\0<=n/\n+Bj (p.AH.drop k)=Bj p.AH/\n<=4*k) 0 rfl (by simp) hs ?_;clear hs;rintro k n Z hk ⟨hn,hn0,hn1,hn2⟩ hs;rcases BC p.AH hk with⟨c,hc,hlt⟩|hke
 .have hcm:=(hP.2 c (B1 hc)).2.1
  have hms:n+(c.AG.length:Int)+Bj (p.AH.drop (k+1))=Bj p.AH:=by
   rw[drop_cons hc]at hn1;simp only[Bj,Ex,List.sum_cons]at hn1 ⊢;omega
  rw[drop_cons hc,Ff]at hn;by_cases h4:c.AG.length<=4
  .rw [decide_eq_true h4,G7]at hn
   conv=>whnf
   repeat'((first|clear U K|apply st|(apply zk;intro K U)|refine zY ?_|refine zs fun Z hs=>?_|(refine Cj (fun hc=>?_) (fun hc=>?_)<;>(replace hc:=bp hc)<;>(try simp(disch:=omega) only[BU,wrap64,AO]at hc)<;>(try(exfalso;omega)))|refine zo fun nn hnn Z hs=>?_|fail)<;>conv=>whnf)
   all_goals try(exfalso;omega)
   refine B0 c.AG.length (fun j (m:Int)=>[(2,eI m),(36,eI (A8 j))]) (fun _ _=>[]) (fun j m=>Ff 0 p.AH=(LL m (c.AG.drop j)&&Ff (n+c.AG.length) (p.AH.drop (k+1)))/\m=n+j) n rfl ⟨hn,by simp⟩ (hs.take 0) ?_;clear hs hn;rintro j m Z hj ⟨hm,he⟩ hs;rcases BC c.AG hj with⟨x,hx,hjlt⟩|hje
   .rw[drop_cons hx,LL]at hm
    conv=>whnf
    repeat'((first|clear U K|apply st|(apply zk;intro K U)|refine zY ?_|(refine Cj (fun hc=>?_) (fun hc=>?_)<;>(replace hc:=bp hc))|fail)<;>conv=>whnf)
    .rw[wrap64 (by omega) (by omega)]
     rw[hc,beq_self_eq_true,G7]at hm;exact⟨hjlt,_,rfl,⟨by rw[<-hc];rw[<-hc]at hm;exact hm,by omega⟩,hs⟩
    .exact XK (by rw[hcb,hm];simp[hc])
   .rw[Ao hje,LL,G7]at hm
    refine zz ?_;(repeat clear U K);repeat intro K U
    exact⟨hlt,m,rfl,⟨by rw[hm];congr 1;omega,by omega,by omega,by omega⟩,hs⟩
  .conv=>whnf
   repeat'((first|clear U K|apply st|(apply zk;intro K U)|refine zY ?_|refine zs fun Z hs=>?_|(refine Cj (fun hc=>?_) (fun hc=>?_)<;>(replace hc:=bp hc)<;>(try simp(disch:=omega) only[BU,wrap64,AO]at hc)<;>(try(exfalso;omega)))|refine zo fun nn hnn Z hs=>?_|fail)<;>conv=>whnf)
   all_goals try(exfalso;omega)
   exact XK (by rw[hcb,hn];simp[h4])
 .have hne:n=Bj p.AH:=by rw[Ao hke]at hn1;simpa[Bj]using hn1
  rw[Ao hke]at hn;have hsp:Ff 0 p.AH=true:=hn;have hml:=Ry _ _ hsp;rw[hsp,G7,<-hne]at hcb;cases hgd:Dd (Ay p)
  .rw[hgd]at hcb
   have hck:=V8 (Ay p) false;rw[hgd,if_neg (by decide)]at hck;have hcF:A6 p=false:=by rw[hcb];simp
   conv=>whnf
   repeat'((first|clear U K|apply st|(apply zk;intro K U)|refine zY ?_|(refine Cj (fun hc=>?_) (fun hc=>?_)<;>(replace hc:=bp hc)<;>(try simp(disch:=omega) only[BU,wrap64,AO]at hc)<;>(try(exfalso;omega))<;>(try(cases hc;done)))|refine Pure.use (MB _ (by omega)) ?_|refine Pure.use (by assumption) ?_|refine za (fun hc=>?_) fun hc=>?_|fail)<;>conv=>whnf)
   all_goals exact XK hcF
  .have hck:=V8 (Ay p) false
   rw[hgd,if_pos rfl]at hck;rw[hgd,G7]at hcb;by_cases hps:n=p.AG
   .rw [hps,beq_self_eq_true,G7,<-hps]at hcb
    have hslB:Cg 0 p.AH=true:=by rw[PZ,hsp,Vt hgd];rfl
    have hG:=Dn hgd;have ho:=NW hG;have hgl:(Ay p).length=p.AH.length:=by simp[Ay]
    conv=>whnf
    repeat'((first|clear U K|apply st|(apply zk;intro K U)|refine zY ?_|(refine Cj (fun hc=>?_) (fun hc=>?_)<;>(replace hc:=bp hc)<;>(try simp(disch:=omega) only[BU,wrap64,AO]at hc)<;>(try(exfalso;omega)))|refine Pure.use (MB _ (by omega)) ?_|refine Pure.use (by assumption) ?_|(refine zb (fun hc=>?_) (fun hc=>?_)<;>try exact⟨⟩)|fail)<;>conv=>whnf)
    refine B0 p.AH.length (fun k (_:Unit)=>[(63,eI (A8 k))]) (fun _ _=>[]) (fun k _=>A6 p=GA (AS p) n k (p.AH.drop k)) () rfl hcb hs ?_;clear hs;rintro i - Z hi hn' hs;rcases BC p.AH hi with⟨c,hc,hilt⟩|hie
    .rw [drop_cons hc,GA]at hn'
     have hci:A8 i=i:=AO (by omega);have hw3:IntKind.i64.wrap (A8 i+3)=(i:Int)+3:=by rw[hci,wrap64 (by omega) (by omega)]
     have hlin:=q9 (Ay p) false ((i:Int)+3) hgd (by omega) (by omega);have hinl:=(hP.2 c (B1 hc)).2.2;have hlb:kN (AS p).parents ((i:Int)+3)= !((Bz (Ay p)).getD ((i:Int)+3).toNat []).isEmpty:=rfl;cases hem:((Bz (Ay p)).getD ((i:Int)+3).toNat []).isEmpty
     .rw [hem]at hlb
      rw[hlb,Bool.not_false,G7]at hn';rw[hem,if_neg (by decide),<-hw3]at hlin;have hhas:=rL p (i+3) h10 hslB hgd (by omega) (by omega);have hmh:=iT hslB ho (show 3<=i+3 by omega) (show i+3<3+p.AH.length by omega);have ei3:((i+3:Nat):Int)=(i:Int)+3:=by omega
      rw[ei3,<-hw3]at hhas;rw[ei3]at hmh;generalize (D1 p (i+3) (i+3 - 2)).mergeSort G8=mine at *
      conv=>whnf
      repeat'((first|clear U K|apply st|(apply zk;intro K U)|refine zY ?_|refine zs fun Z hs=>?_|(refine Cj (fun hc=>?_) (fun hc=>?_)<;>(replace hc:=bp hc)<;>(try simp(disch:=omega) only[BU,wrap64,AO]at hc)<;>(try(exfalso;omega)))|refine Pure.use (by assumption) ?_|refine zo fun nn hnn Z hs=>?_|fail)<;>conv=>whnf)
      generalize nn=mm at *;replace hs:Sat Z [.map mm (S4 [])]:=hs.take 1;refine B0 c.inits.length (fun j (_:List Int)=>[(86,eI (A8 j))]) (fun _ M=>[.map mm (S4 M)]) (fun j M=>A6 p=(D2 (AS p) ((i:Int)+3) n (c.inits.take j) (c.inits.drop j)&&GA (AS p) n (i+1) (p.AH.drop (i+1)))/\ ∀s,M.contains s=(c.inits.take j).any fun y=>y.1==s) [] rfl ⟨hn',fun s=>rfl⟩ hs ?_;clear hs;rintro j M Z hj ⟨hm,hMs⟩ hs;rcases BC c.inits hj with⟨x,hx,hjlt⟩|hje
      .have hpa:((c.inits.take j).all fun y=>y.1 != x.1)= !M.contains x.1:=by
        rw[hMs,List.all_eq_not_any_not];congr 2;funext y;simp[bne]
       have hst:A6 p=((mine.contains x.1&&(!M.contains x.1&&TI x.2))&&(D2 (AS p) ((i:Int)+3) n (c.inits.take (j+1)) (c.inits.drop (j+1))&&GA (AS p) n (i+1) (p.AH.drop (i+1)))):=by
        rw[hm,drop_cons hx,D2,hpa,hmh,<-hne,AL hx];cases decide (0<=x.1)<;>cases decide (x.1<n)<;>cases hasB (AS p) ((i:Int)+3) x.1<;>cases TI x.2<;>cases M.contains x.1<;>simp
       have hMs': ∀s,(O2 M x.1).contains s=(c.inits.take (j+1)).any fun y=>y.1==s:=fun s=>by
        rw[Vd,hMs,AL hx,List.any_append];simp only[Q1,List.any_nil,Bool.or_false];congr 1;rw[J1];simp;exact eq_comm
       have hct:=Dp mine false x.1;have hbt:=Qm x.2;clear hmh hpa hMs hm;cases eA:mine.contains x.1<;>cases eB:M.contains x.1<;>cases eD:TI x.2<;>rw[eA]at hct<;>rw[eD]at hbt<;>rw[eA,eB,eD]at hst
       all_goals
        conv=>whnf
        repeat'((first|clear U K|apply st|(apply zk;intro K U)|refine zY ?_|refine zs fun Z hs=>?_|(refine Cj (fun hc=>?_) (fun hc=>?_)<;>(replace hc:=bp hc)<;>(try simp(disch:=omega) only[BU,wrap64,AO]at hc)<;>(try(cases hc;done)))|refine pf eB ?_|refine yK (fun Z hs=>?_)|refine Pure.use (by assumption) ?_|refine zo fun nn hnn Z hs=>?_|fail)<;>conv=>whnf)
       all_goals first
        | exact⟨hjlt,_,rfl,⟨hst,hMs'⟩,hs.less (Mc _ _)⟩
        | exact XK (by rw[hst];rfl)
      .rw[Ao hje,D2,G7]at hm
       refine zz ?_;(repeat clear U K);repeat intro K U
       exact⟨hilt,(),rfl,hm,hs.take 0⟩
     .rw[hem]at hlb
      rw[hem,if_pos rfl,<-hw3]at hlin;have hcF:A6 p=false:=by rw[hn',hlb];rfl
      conv=>whnf
      repeat'((first|clear U K|apply st|(apply zk;intro K U)|refine zY ?_|refine zs fun Z hs=>?_|(refine Cj (fun hc=>?_) (fun hc=>?_)<;>(replace hc:=bp hc)<;>(try(exfalso;omega)))|refine Pure.use (by assumption) ?_|refine zo fun nn hnn Z hs=>?_|fail)<;>conv=>whnf)
      all_goals exact XK hcF
    .refine zz ?_;(repeat clear U K);repeat intro K U
     exact clsT hs (by rw[hn',Ao hie];rfl)
   .have hcF:A6 p=false:=by rw[hcb];simp[hps]
    conv=>whnf
    repeat'((first|clear U K|apply st|(apply zk;intro K U)|refine zY ?_|(refine Cj (fun hc=>?_) (fun hc=>?_)<;>(replace hc:=bp hc)<;>(try simp(disch:=omega) only[BU,wrap64,AO]at hc)<;>(try(cases hc;done)))|refine Pure.use (MB _ (by omega)) ?_|(refine zb (fun hc=>?_) (fun hc=>?_)<;>try exact⟨⟩)|fail)<;>conv=>whnf)
    all_goals exact XK hcF
def bQ (f : Fact):Ri f=true->Pure zP 205 [.a (xF f)] (eI (GC f)):=by
 induction f using Fact.ind with
 | h f ih=>
   intro ha;refine Pure.fit (by kernel_rfl) fun hf=>?_
   have⟨h2,h3,h4⟩:=J8 hf.1;have hM:=Mx;rw[Pz]at ha;simp only[BD,CN,List.all_map,E3]at ha;refine uI kZ ?_;have hs:=Sn;by_cases hlf:B7 f=true
   .have hlo:=Fq hlf
    have hw:IntKind.i64.wrap (f.arg+1)=f.arg+1:=wrap64 (by omega) (by omega)
    conv=>whnf
    repeat'((first|clear U K|apply st|(apply zk;intro K U)|refine zY ?_|(refine zb (fun hc=>?_) (fun hc=>?_)<;>try exact⟨⟩)|fail)<;>conv=>whnf)
    all_goals try(exfalso;omega)
    all_goals
     refine B0 f.kids.length (fun k (_:Unit)=>[(3,eI (((f.kids.take k).map GC).foldl Jz (if B7 f then f.arg+1 else 0))),(25,eI (A8 k))]) (fun _ _=>[]) (fun _ _=>True) () (by rw[hw,if_pos hlf];rfl) trivial hs ?_;clear hs;rintro k - Z hk - hs;rcases BC f.kids hk with⟨x,hx,hlt⟩|hke
     .have hxs:=ih x (B1 hx) (ha.2 x (B1 hx))
      conv=>whnf
      repeat'((first|clear U K|apply st|(apply zk;intro K U)|refine zY ?_|refine zs fun Z hs=>?_|refine zC ?_|refine zo fun nn hnn Z hs=>?_|fail)<;>conv=>whnf)
      exact⟨hlt,(),by rw[GI _ _ _ hx];rfl,trivial,hs.take 0⟩
     .refine zz ?_;(repeat clear U K);repeat intro K U
      exact AF (by rw[Au hke,<-Jm])
   .have hlo:f.op≠2/\f.op≠3/\f.op≠4:=by
     simp only[B7,Fl,EU]at hlf;omega
    conv=>whnf
    repeat'((first|clear U K|apply st|(apply zk;intro K U)|refine zY ?_|(refine zb (fun hc=>?_) (fun hc=>?_)<;>try exact⟨⟩)|fail)<;>conv=>whnf)
    all_goals try(exfalso;omega)
    all_goals
     refine B0 f.kids.length (fun k (_:Unit)=>[(3,eI (((f.kids.take k).map GC).foldl Jz (if B7 f then f.arg+1 else 0))),(25,eI (A8 k))]) (fun _ _=>[]) (fun _ _=>True) () (by rw[if_neg hlf];rfl) trivial hs ?_;clear hs;rintro k - Z hk - hs;rcases BC f.kids hk with⟨x,hx,hlt⟩|hke
     .have hxs:=ih x (B1 hx) (ha.2 x (B1 hx))
      conv=>whnf
      repeat'((first|clear U K|apply st|(apply zk;intro K U)|refine zY ?_|refine zs fun Z hs=>?_|refine zC ?_|refine zo fun nn hnn Z hs=>?_|fail)<;>conv=>whnf)
      exact⟨hlt,(),by rw[GI _ _ _ hx];rfl,trivial,hs.take 0⟩
     .refine zz ?_;(repeat clear U K);repeat intro K U
      exact AF (by rw[Au hke,<-Jm])
def bo (p:Prog) (x:Node) (size:Int):Pure zP 201 [.a (A9 p),.a (Ig x),eI size] (.b (Mk p x size)):=by
 refine Pure.fit (by kernel_rfl) fun hf=>?_
 have⟨p1,p2,p3,p4⟩:=Fk hf.1;have hM:=Mx;have hw:IntKind.i64.wrap (3+((p.AH.map Q6).length:Nat))=3+(p.AH.length:Int):=by rw[BU,wrap64 (by omega) (by omega)]
 refine uM kZ ?_;have hs:=Sn
 conv=>whnf
 repeat'((first|clear U K|apply st|(apply zk;intro K U)|refine zY ?_|refine Pure.use (Qm _) ?_|refine za (fun hc=>?_) fun hc=>?_|fail)<;>conv=>whnf)
 all_goals first
  | (refine AF ?_;simp[Mk, *];done)
  | (refine AF ?_;simp[Mk, *];omega)
  | (refine AF ?_;rw[hw];simp[Mk, *];done)
  | (refine AF ?_;congr 1;rw[J1];simp[Mk, *];omega)
def qv (n:Nat) (hn:n<=120):Pure zP 227 [.i .u64 1,eU n] (.t [.i .u64 0,eU n]):=by
 refine uE kZ ?_;have hs:=Sn
 conv=>whnf
 repeat'((first|clear U K|apply st|(apply zk;intro K U)|refine zY ?_|refine⟨(by decide:(0:Int)<=_),?_⟩|fail)<;>conv=>whnf)
 have ea: ∀m:Nat,m<=120->bits .and .u64 (m:Int) 4294967295=(m:Int):=fun m hm=>by
  have:=ME (a:=m) (b:=4294967295) (by omega) (by decide)
  have e:m&&&4294967295=m:=by
   have:=Nat.and_two_pow_sub_one_eq_mod m 32;rw[show 2 ^ 32 - 1=4294967295 from rfl]at this;rw[this];omega
  rw[e]at this;exact this
 have e0:=ea 0 (by omega);have e1:=ea 1 (by omega);have en:=ea n hn
 have ef: ∀m:Nat,m<=120->(m:Int).fdiv (2 ^ min (Int.toNat 32) IntKind.u64.bits)=0:=fun m hm=>by
  have:=ZC (a:=m) (c:=32) (by decide);rw[show(Int.toNat 32)=32 from rfl,this,Nat.shiftRight_eq_div_pow];have:m / 2 ^ 32=0:=Nat.div_eq_of_lt (by omega);rw[this];rfl
 have f0:=ef 0 (by omega);have f1:=ef 1 (by omega);have fn:=ef n hn;have w0:IntKind.u64.wrap 0=0:=rfl;have wn:IntKind.u64.wrap (n:Int)=n:=HO (by omega);simp only[Int.natCast_zero,Int.natCast_one,Int.cast_ofNat_Int]at e0 e1 f0 f1;simp only[e0,e1,en,f0,f1,fn,w0,wn,Int.zero_mul,Int.mul_zero,Int.zero_add,Int.add_zero,Int.one_mul];exact AF rfl
def qw (n:Nat) (hn:n<=120):Pure zP 159 [.i .u64 1,eU n] (.t [.i .u64 0,eU n]):=by
 refine um kZ ?_;have hs:=Sn
 conv=>whnf
 repeat'((first|clear U K|apply st|(apply zk;intro K U)|refine Pure.use (qv n hn) ?_|fail)<;>conv=>whnf)
 all_goals exact AF rfl
def Re (op:Int):V:=
 if op=5 then .Ey 272 (.a [])else
 if op=1\/op=2\/op=3\/op=6\/op=18 then .Ey 271 (eI 0)else
 if op=4\/op=8\/op=17 then .Ey 271 (eI 1)else
 if op=7\/op=9\/op=11\/op=12\/op=13\/op=14\/op=15\/op=16 then .Ey 271 (eI 2)else
 if op=10 then .Ey 271 (eI 3)else .DZ
def cC (op:Int):Pure zP 202 [eI op] (Re op):=by
 refine uL kZ ?_;have hs:=Sn
 conv=>whnf
 repeat'((first|clear U K|apply st|(apply zk;intro K U)|refine zY ?_|refine za (fun hc=>?_) fun hc=>?_|fail)<;>conv=>whnf)
 all_goals exact AF (by simp[Re, *])
def wg (n:Int) (p:Prog) (x:Node):Pure zP 431 [eI n,.a (A9 p),.a (Ig x)] (eI n):=by
 refine ri kZ ?_;have hs:=Sn;exact zW
def nY (p:Prog) (x:Node) (h0:0<=x.n) (h1:x.n<p.Br.length):Pure zP 432 [.a [],.a (A9 p),.a (Ig x)] (eI (p.Br.getD x.n.toNat 0)):=by
 refine Pure.fit (by kernel_rfl) fun hf=>?_
 have⟨p1,p2,p3,p4⟩:=Fk hf.2.1
 have hx:p.Br[x.n.toNat]? =some (p.Br.getD x.n.toNat 0):=by
  rw[DH,Cy (by omega)];rfl
 refine rh kZ ?_;have hs:=Sn;exact zW
def FC (p:Prog) (next:Bool) (n size depth:Int) (s:List Int):Option (List Int):=
 if n<0\/(p.nodes.length:Int)<=n\/0<=s.getD n.toNat 0\/12<depth then none else
 match p.nodes[n.toNat]? with
 | none=>none
 | some x=>if D0 p next size x then some (s.set n.toNat size)else none
def dq {S:Type}:Option S->Rd S
 | some s=> .go s
 | none=> .Bb Dk
abbrev yO (y:Int×Int×Int):List V:=[eI y.1,.a [eI y.2.1,eI y.2.2]]
abbrev hOut (nO:Nat) (v:V) (s:List Int):List At:=[.box nO [v],.own v 1 (iL s)]
abbrev dP (p:Prog) (y:Int×Int×Int) (s:List Int):Prop:=0<=y.2.1/\y.2.1<=100/\1<=y.2.2/\y.2.2<=13/\s.length=p.nodes.length
abbrev XM (p:Prog) (L nW:Nat):V:= .f (.func 265) [] [.rp [.f (.yield L) [] []],.rp (A9 p),.p nW 0]
def Xo {p:Prog} {next:Bool} {n size depth:Int} {s s':List Int} (h:FC p next n size depth s=some s'):0<=n/\n<(p.nodes.length:Int)/\s.getD n.toNat 0<0/\depth<=12/\ ∃x,p.nodes[n.toNat]? =some x/\D0 p next size x=true/\s'=s.set n.toNat size:=by
 unfold FC at h;split at h
 .cases h
 .rename_i hc
  split at h
  .cases h
  .rename_i x hx
   split at h
   .rename_i hok
    simp only[Hl]at h;exact⟨by omega,by omega,by omega,by omega,x,hx,hok,h.symm⟩
   .cases h
def Xn {p:Prog} {next:Bool} {d:Nat} {n size depth:Int} {s:List Int} (hd:depth=13 - (d+1:Nat)) (hd1:1<=depth):CI p next (d+1) n size s=match FC p next n size depth s with
    | none=>none
    | some s'=>match p.nodes[n.toNat]? with
      | none=>none
      | some x=>FY (CI p next d) x.op size 0 x.kids s':=by
 unfold FC;simp only[CI];by_cases h:n<0\/(p.nodes.length:Int)<=n\/0<=s.getD n.toNat 0
 .rw[if_pos h,if_pos (by omega)]
 .rw[if_neg h,if_neg (by omega)]
  cases hx:p.nodes[n.toNat]? with
  | none=>rfl
  | some x=>
    simp only;split
    .rfl
    .rfl
def Xp {p:Prog} {next:Bool} {n size depth:Int} {s:List Int} (hd:12<depth):FC p next n size depth s=none:=by
 unfold FC;rw[if_pos (by omega)]
def SM {f:Int->Int->List Int->Option (List Int)} (hf: ∀ {a b s s'},f a b s=some s'->s'.length=s.length) {op size:Int}: ∀(i:Nat) (l:List Int) {s s':List Int},FY f op size i l s=some s'->s'.length=s.length
 | _,[],s,s',h=>by cases h;rfl
 | i,k::r,s,s',h=>by
   simp only[FY]at h;split at h
   .cases h
   .rename_i s1 h1
    exact(SM hf (i+1) r h).trans (hf h1)
def Jk {p:Prog} {next:Bool}: ∀(d:Nat) {n size:Int} {s s':List Int},CI p next d n size s=some s'->s'.length=s.length
 | 0,_,_,_,_,h=>by cases h
 | d + 1,n,size,s,s',h=>by
   simp only[CI]at h;split at h
   .cases h
   .split at h
    .cases h
    .split at h
     .exact(SM (fun h=>Jk d h) 0 _ h).trans (by simp)
     .cases h
def ko (p : Prog) (next:Bool) {L:Nat} {E:Env} {ok:FuncId->Array Tmp->Code->Code->Nat->Prop} {v:V} {nO:Nat}
    (hY:M9 zP L E ok yO (hOut nO v) (fun s=>s.length=p.nodes.length) (fun y s=>dq (FC p next y.1 y.2.1 y.2.2 s)) (dP p)) :
    ∀ d : Nat,d<=12-> ∀(n size depth:Int) (s:List Int),depth=13 - d->0<=size->size+d<=100->s.length=p.nodes.length-> ∀(nW:Nat) (rest:List At) (Z:AE),
      Sat Z (.obj L (.loop .ready E ok)::(hOut nO v s++(.box nW [XM p L nW]::rest)))->
      A3 zP 265 [eI n,.a [eI size,eI depth],.rp [.f (.yield L) [] []],.rp (A9 p),.p nW 0] Z
       (kE L E ok (hOut nO v) (fun s=>s.length=p.nodes.length) (.box nW [XM p L nW]::rest) (.b true) (.b false) (dq (CI p next d n size s))):=by
 intro d
 induction d with
 | zero=>
   intro _ n size depth s hd h0 h1 hl nW rest Z hs;refine ft kZ ?_;refine zz ?_;(repeat clear U K);repeat intro K U
   refine hY.use (y:=(n,size,depth)) (s:=s) ⟨h0,(by dsimp only;omega),(by dsimp only;omega),(by dsimp only;omega),hl⟩ hs ?_;rw[Xp (by dsimp only;omega)];rintro r Z' ⟨rfl,s',hj,hs'⟩
   conv=>whnf
   repeat'((first|clear U K|apply st|fail)<;>conv=>whnf)
   exact DE ⟨rfl,s',hj,hs'⟩
 | succ d ih =>
   intro hd12 n size depth s hd h0 h1 hl nW rest Z hs;refine A3.fit (by kernel_rfl) fun hf=>?_
   have hM:=Mx
   have hfp:E0 (.a (A9 p)):=by
    have:=hf.2.2.2.1;simp only[T9]at this;simpa only[Gy]using this
   have⟨p1,p2,p3,p4⟩:=Fk hfp;refine ft kZ ?_;refine zz ?_;(repeat clear U K);repeat intro K U
   refine hY.use (y:=(n,size,depth)) (s:=s) ⟨h0,(by dsimp only;omega),(by dsimp only;omega),(by dsimp only;omega),hl⟩ hs ?_;have hw:=Xn (p:=p) (next:=next) (n:=n) (size:=size) (s:=s) hd (by omega);cases hv:FC p next n size depth s with
   | none=>
     rw[hv]at hw;rintro r Z' ⟨rfl,s',hj,hs'⟩
     conv=>whnf
     repeat'((first|clear U K|apply st|fail)<;>conv=>whnf)
     refine DE ?_;rw[hw];exact⟨rfl,s',hj,hs'⟩
   | some s1 =>
     obtain⟨g0,g1,g2,g3,x,hx,hok,hs1⟩:=Xo hv;rw[hv]at hw;simp only[hx]at hw;have hl1:s1.length=p.nodes.length:=by rw[hs1];simpa using hl
     have hkm:=fg hfp (B1 hx);clear hv hs1;rintro r Z1 ⟨rfl,hs⟩;refine zz ?_;(repeat clear U K);repeat intro K U
     refine B0 x.kids.length (fun k (_:List Int)=>[(23,eI (A8 k))]) (fun _ s'=> .obj L (.loop .ready E ok)::(hOut nO v s'++(.box nW [XM p L nW]::rest))) (fun k s'=>s'.length=p.nodes.length/\CI p next (d+1) n size s=FY (CI p next d) x.op size k (x.kids.drop k) s') s1 rfl ⟨hl1,by simpa using hw⟩ hs ?_;clear hs hw;rintro k s' Z hk ⟨hl',hkids⟩ hs;rcases BC x.kids hk with⟨kid,hkid,hlt⟩|hke
     .have hck:A8 k=k:=AO (by omega)
      rw[drop_cons hkid,FY]at hkids;have e0:IntKind.i64.wrap (depth+1)=depth+1:=wrap64 (by omega) (by omega);have e1:IntKind.i64.wrap (size+1)=size+1:=wrap64 (by omega) (by omega)
      have hrec: ∀(sz:Int) (Z:AE) (l:List At),0<=sz->sz+d<=100->Sat Z (l++(.obj L (.loop .ready E ok)::(hOut nO v s'++(.box nW [XM p L nW]::rest))))->Ax zP (XM p L nW) [eI kid,.a [eI sz,eI (depth+1)]] Z
       (kE L E ok (hOut nO v) (fun s=>s.length=p.nodes.length) (.box nW [XM p L nW]::rest) (.b true) (.b false) (dq (CI p next d kid sz s'))):=fun sz Z l h0 h1 hs=>
       By (ih (by omega) kid sz (depth+1) s' (by omega) h0 h1 hl' nW rest Z (hs.less (List.sublist_append_right _ _)))
      conv=>whnf
      repeat'((first|clear U K|apply st|(apply zk;intro K U)|refine zY ?_|refine zs fun Z hs=>?_|(refine zd (fun hc=>?_) (fun hc=>?_)<;>try exact⟨⟩)|refine zo fun nn hnn Z hs=>?_|fail)<;>conv=>whnf)
      all_goals
       simp only[e0,e1]
       first
        | rw[if_pos (by omega)]at hkids
          refine(hrec (size+1) _ [_] (by omega) (by omega) hs).mono ?_
        | rw[if_neg (by omega)]at hkids
          refine(hrec size _ [_] (by omega) (by omega) hs).mono ?_
       cases hw:CI p next d kid _ s' with
       | none=>
         rw[hw]at hkids;rintro r Z' ⟨rfl,s',hj,hs'⟩
         conv=>whnf
         repeat'((first|clear U K|apply st|fail)<;>conv=>whnf)
         refine DE ?_;rw[hkids];exact⟨rfl,s',hj,hs'⟩
       | some s2=>
         rw[hw]at hkids;rintro r Z' ⟨rfl,hs'⟩;refine zz ?_;(repeat clear U K);repeat intro K U
         exact⟨hlt,s2,rfl,⟨(Jk _ hw).trans hl',hkids⟩,hs'⟩
     .rw[Ao hke,FY]at hkids
      refine zz ?_;(repeat clear U K);repeat intro K U
      refine AU ?_;rw[hkids];exact⟨rfl,hs⟩
def pS {a b:Nat} {A B:Prop} (e:a=b) (h:A):(a=b->A)/\(a≠b->B):=⟨fun _=>h,fun n=>absurd e n⟩
def yW {a b:Nat} {A B:Prop} (e:a≠b) (h:B):(a=b->A)/\(a≠b->B):=⟨fun n=>absurd n e,fun _=>h⟩
def gb {P:Program} {Z:AE} {tab:List (TypeId×FuncId)} {t:TypeId} {f:FuncId} {v:V} {args:List V} {Q:R->AE->Prop} (h:look t tab=some f) (hc:A3 P f (v::args) Z Q):A5 P tab (.Ey t v) args Z Q:=by
 unfold A5;simp only[h];exact hc
def jf (p:Prog) (n size depth:Int):Pure zP 200 [.a (A9 p),eI n,.a [eI size,eI depth]] (.f (.func 264) [] [.rp (A9 p),.rp [eI n],.rp [eI size,eI depth]]):=by
 refine uN kZ ?_;have hs:=Sn;exact zW
def rR (p:Prog) (next:Bool) {L:Nat} {E:Env} {ok:FuncId->Array Tmp->Code->Code->Nat->Prop} {v:V} {nO:Nat}
    (hY:M9 zP L E ok yO (hOut nO v) (fun s=>s.length=p.nodes.length) (fun y s=>dq (FC p next y.1 y.2.1 y.2.2 s)) (dP p)) (n size:Int) (s:List Int) (h0:0<=size) (h1:size<=20) (hl:s.length=p.nodes.length) (rest:List At) (Z:AE)
    (hs : Sat Z (.obj L (.loop .ready E ok)::(hOut nO v s++rest))) :
     A3 zP 264 [.f (.yield L) [] [],.rp (A9 p),.rp [eI n],.rp [eI size,eI 1]] Z
      (kE L E ok (hOut nO v) (fun s=>s.length=p.nodes.length) rest (.t []) (.t []) (dq (CI p next 12 n size s))):=by
 refine tf kZ ?_
 conv=>whnf
 repeat'((first|clear U K|apply st|(apply zk;intro K U)|refine zY ?_|refine zs fun Z hs=>?_|refine zo fun nn hnn Z hs=>?_|fail)<;>conv=>whnf)
 have hp:Sat Z (.obj L (.loop .ready E ok)::(hOut nO v s++(.box nn [XM p L nn]::rest))):=hs.perm (by
  refine(List.Perm.swap _ _ _).trans (.cons _ ?_)
  exact(List.perm_middle (l₁:=hOut nO v s)).symm)
 refine By ((ko p next hY 12 (Io _) n size 1 s rfl h0 (by omega) hl nn rest Z hp).mono ?_);cases hw:CI p next 12 n size s with
 | none=>
   rintro r Z' ⟨rfl,s',hj,hs'⟩
   conv=>whnf
   repeat'((first|clear U K|apply st|fail)<;>conv=>whnf)
   refine DE ?_;rw[hw];exact⟨rfl,s',hj,hs'.less (List.Sublist.append_left (Mc _ _) _)⟩
 | some s2=>
   rintro r Z' ⟨rfl,hs'⟩
   conv=>whnf
   repeat'((first|clear U K|apply st|fail)<;>conv=>whnf)
   refine AU ?_;rw[hw];exact⟨rfl,hs'.less (.cons₂ _ (List.Sublist.append_left (Mc _ _) _))⟩
def Wf (p:Prog) (x:Node):(x.op=5/\Re x.op= .Ey 272 (.a []))\/(x.op≠5/\ ∃m:Int,Re x.op= .Ey 271 (eI m)/\I6 p x=m)\/(Re x.op= .DZ/\I6 p x= -1):=by
 unfold Re I6;by_cases h5:x.op=5
 .exact .inl ⟨h5,by rw[if_pos h5]⟩
 .rw[if_neg h5]
  split
  .exact .inr (.inl ⟨h5,_,rfl,rfl⟩)
  split
  .exact .inr (.inl ⟨h5,_,rfl,rfl⟩)
  split
  .exact .inr (.inl ⟨h5,_,rfl,rfl⟩)
  split
  .exact .inr (.inl ⟨h5,_,rfl,rfl⟩)
  .exact .inr (.inr ⟨rfl,by rw[if_neg (by rintro⟨h,_⟩;exact h5 h)]⟩)
def T3 {p:Prog} {x:Node} (h:x.op=5) {size:Int} (hn:Mk p x size=true):0<=x.n/\x.n<p.Br.length/\I6 p x=p.Br.getD x.n.toNat 0:=by
 have h2:0<=x.n/\x.n<p.Br.length:=by
  simp only[Mk,h]at hn;simpa using hn
 refine⟨h2.1,h2.2,?_⟩;unfold I6;rw[h,if_neg (by decide),if_neg (by decide),if_neg (by decide),if_neg (by decide),if_pos ⟨rfl,h2.1,h2.2⟩]
def gk {p:Prog} {next:Bool} {n size depth:Int} {s:List Int} (h:n<0\/(p.nodes.length:Int)<=n\/0<=s.getD n.toNat 0\/12<depth):FC p next n size depth s=none:=by
 unfold FC;rw[if_pos h]
def gl {p:Prog} {next:Bool} {n size depth:Int} {s:List Int} {y:Int} {x:Node} (h0:0<=n) (h1:n<(p.nodes.length:Int)) (hy:s[n.toNat]? =some y) (hy0:y<0) (hd:depth<=12) (hx:p.nodes[n.toNat]? =some x):FC p next n size depth s=if D0 p next size x then some (s.set n.toNat size)else none:=by
 have e:s.getD n.toNat 0=y:=by rw[DH,hy];rfl
 unfold FC;rw[if_neg (by rw[e];omega),hx]
def xg (p:Prog) (nO:Nat) (v:V) (rest:List At) (o:Option (List Int)) (r:R) (Z:AE):Prop:=
 match o with
 | some s=>r= .ret (.t [])/\Sat Z (hOut nO v s++rest)
 | none=>r= .Bb Dk/\ ∃s:List Int,s.length=p.nodes.length/\Sat Z (hOut nO v s++rest)
def UE (p:Prog) (next:Bool) {v:V} {nO:Nat} (hv:(Be v).isSome=true) (n size:Int) (s:List Int) (h0:0<=size) (h1:size<=20) (hl:s.length=p.nodes.length) (rest:List At) (Z:AE) (hs:Sat Z (hOut nO v s++rest)) :
    A3 zP 199 [eI n,eI size,.b next,.rp (A9 p),.p nO 0] Z (xg p nO v rest (CI p next 12 n size s)):=by
 refine A3.fit (by kernel_rfl) fun hf=>?_
 have hM:=Mx
 have hfp:E0 (.a (A9 p)):=by
  have:=hf.2.2.2.1;simp only[T9]at this;simpa only[Gy]using this
 have⟨p1,p2,p3,p4⟩:=Fk hfp;refine uO kZ ?_
 conv=>whnf
 repeat'((first|clear U K|apply st|(apply zk;intro K U)|refine zY ?_|refine Pure.use (jf _ _ _ _) ?_|refine zo fun nn hnn Z hs=>?_|fail)<;>conv=>whnf)
 refine A3.mono (rR p next (L:=nn) (v:=v) (nO:=nO) ?_ n size s h0 h1 hl rest Z hs) ?_
 .refine N4 (fun y=>rfl) ?_
  clear hs hnn hl h0 h1;rintro⟨k,sz,dp⟩ s ⟨d0,d1,d2,d3,hl⟩ rest Z hs;dsimp only at d0 d1 d2 d3 hl;dsimp only;rw[show yO (k,sz,dp)= [eI k,.a [eI sz,eI dp]] from rfl]
  conv=>whnf
  repeat'((first|apply st|(apply sq;intro K U)|(apply si;intro A B hA hB)|(refine hA _ _ ?_;clear hB B hA A)|(refine hB _ _ _ ?_;clear hB B hA A)|(refine hB _ _ fun Z hsub=>?_;clear hB B hA A)|(apply U;clear U K)|apply dr|refine rk ?_ ?_|exact fun s e=>by cases e;rfl|refine⟨rfl,?_⟩|refine⟨kZ,?_⟩|refine iq fun x hx=>?_|refine ld ?_|refine Ug fun Z hs=>?_|refine oi ?_|refine ol fun x hx=>?_|refine oset fun Z hs=>?_|refine df ?_|refine Ox ?_|(refine Cj (fun hc=>?_) (fun hc=>?_)<;>(replace hc:=bp hc)<;>(try simp(disch:=omega) only[BU,wrap64,AO]at hc)<;>(try(cases hc;done)))|refine Pure.use (bo _ _ _) ?_|refine Pure.use (cC _) ?_|(rcases Wf p (by assumption)with⟨e5,ek⟩|⟨e5,m,ek,hm⟩|⟨ek,hm⟩<;>rw[ek]<;>clear ek)|refine pS rfl ?_|refine yW (by decide) ?_|refine gb rfl (Pure.use (wg _ _ _) ?_)|refine gb rfl (Pure.use (nY _ _ (T3 (by assumption) (by assumption)).1 (T3 (by assumption) (by assumption)).2.1) ?_)|(constructor<;>intro hc<;>(try rw[hc])<;>(replace hc:=bp hc)<;>(try simp(disch:=omega) only[BU,wrap64,AO]at hc))|(intro nn hnn;generalize hg:Bd _ nn _=Z;refine RX hg fun hs=>?_;clear hg)|clear U K)<;>conv=>whnf)
  all_goals first
   | (intro hn;refine R2 (s:=s) (by rw[gk (by first|omega|(rw[DH,‹s[k.toNat]? =some _›];simp only[Option.getD_some];omega))];rfl) hl (hs.less (by repeat first|exact List.Sublist.refl _|apply List.Sublist.cons)) hn)
   | skip
  all_goals
   have hva:=gl (next:=next) (size:=sz) (depth:=dp) (show 0<=k by omega) (show k<(p.nodes.length:Int) by omega) ‹s[k.toNat]? =some _› (by assumption) (by omega) ‹p.nodes[k.toNat]? =some _›
   rename Node=>x
   have hk5:x.op=5->Mk p x sz=true->I6 p x=p.Br.getD x.n.toNat 0:=fun h hn=>(T3 h hn).2.2
   intro hn
  all_goals first
   | (rw[if_neg (by first|(intro h;rw[D0,hk5 (by assumption) (by assumption)]at h;simp only[BD,EU]at h;exact absurd h.1 (by assumption))|(simp[D0, *];done)|(simp[D0, *];omega)|(rw[D0,hk5 (by assumption) (by assumption)];simp[*];done)|(simp[D0, *];intros;omega))]at hva
      refine R2 (s:=s.set k.toNat sz) (by rw[hva];rfl) (by simpa using hl) ?_ hn
      first
       | exact hs.less (by repeat first|exact List.Sublist.refl _|apply List.Sublist.cons)
       | exact(hs.less (by repeat first|exact List.Sublist.refl _|apply List.Sublist.cons)).up (by assumption))
   | (rw[if_pos (by first|(simp[D0, *];done)|(rw[D0,hk5 (by assumption) (by assumption)];simp[*];done))]at hva
      exact Vb (s:=s.set k.toNat sz) (by rw[hva];rfl) (hs.less (by repeat first|exact List.Sublist.refl _|apply List.Sublist.cons)) hn)
 .cases hw:CI p next 12 n size s with
  | none=>
    rintro r Z' ⟨rfl,s',hj,hs'⟩
    conv=>whnf
    exact DE ⟨rfl,s',hj,hs'⟩
  | some s2=>
    rintro r Z' ⟨rfl,hs'⟩;refine Pb hs' fun Z2 hs2=>?_
    conv=>whnf
    exact AU ⟨rfl,hs2⟩
end Go.Gl
