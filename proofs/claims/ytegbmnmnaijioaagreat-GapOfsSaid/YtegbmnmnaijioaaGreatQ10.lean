import Derived.Test.YtegbmnmnaijioaaGreatQ6
import Derived.Test.YtegbmnmnaijioaaGreatQ9
set_option linter.all false
set_option linter.defProp false
set_option maxHeartbeats 8000000
noncomputable section
namespace Go.Gl
open Go.Proofs
attribute [local irreducible] Au Am Ab AR AK AY AQ AS AJ AX AN AP Ao Az Sat AU Ax Ad W
def lL {Z:AE}:Au zP 283 [.b false] Z fun r Z'=>r= .Bj D5/\Z'=Z:=by
 refine jO kZ ?_;refine zz ?_;(repeat clear U K);repeat intro K U
 exact DS ⟨rfl,rfl⟩
def Cw {x:Bool} {Z:AE} {k kp:V->AE->Prop} (h1:x=true->k (.t []) Z) (h2:x=false->kp D5 Z):Au zP 283 [.b x] Z (qk k kp):=by
 cases x
 .refine Au.mono lL ?_
  rintro r Z' ⟨rfl,rfl⟩;exact h2 rfl
 .exact lK.use (h1 rfl)
def GG:Int->List SW->Bool
 | _,[]=>true
 | n,c::r=>decide (c.AG.length<=4)&&(L5 n c.AG&&GG (n+c.AG.length) r)
def Qo: ∀(cs:List SW) (n:Int),Ct n cs=(GG n cs&&cs.all fun c=>decide (c.parents.length<=3))
 | [],_=>rfl
 | c::r,n=>by
   simp only[Ct,GG,KE];rw[Qo r];cases decide (c.AG.length<=4)<;>cases decide (c.parents.length<=3)<;>cases L5 n c.AG<;>simp
def TG: ∀(cs:List SW) (n:Int),GG n cs=true->Bq cs<=4*cs.length
 | [],_,_=>IW _
 | c::r,n,h=>by
   simp only[GG,A9,Cc]at h;have:=TG r _ h.2.2;simp only[Bq,E3,List.sum_cons,Ky]at *;omega
def XB {p:Prog} (h:Dy (A3 p)=true):(p.AM.all fun c=>decide (c.parents.length<=3))=true:=by
 rw[EB];intro c hc;obtain⟨i,hi⟩:=List.getElem?_of_mem hc;have:=(D7 h).2 i c.parents (by rw[A3,Je,hi];rfl);exact decide_eq_true this.1
def R9 (p:Prog):BC p=(decide (p.AM.length<=10)&&(GG 0 p.AM&&((Bq p.AM:Int)==p.AG&&(Dy (A3 p)&&Gj (AL p) (Bq p.AM) 0 p.AM)))):=by
 rw[BC,Qo];cases hg:Dy (A3 p)
 .simp
 .rw[XB hg,Bool.and_true]
abbrev AAD (p:Prog):R->AE->Prop:=fun r Z'=> ∃post:List At,(r=(if BC p then R.ret (.t [])else R.Bj D5)/\post= [])/\Sat Z' post
def YW {p:Prog} {Z:AE} (h:BC p=false):Ab Z D5 (AAD p):=DS ⟨_,⟨by rw[h];rfl,rfl⟩,Sat.nil⟩
def clsT {p:Prog} {Z:AE} {l:List At} (hs:Sat Z l) (h:BC p=true):Am Z (.t []) (AAD p):=As hs (JW _) (.refl _) fun Z' hs'=>⟨_,⟨by rw[h];rfl,rfl⟩,hs'⟩
def Zp (p : Prog):BT zP 282 [.a (BG p)] [] fun r post=>r=(if BC p then R.ret (.t [])else R.Bj D5)/\post= []:=by
 intro Z hs;refine Au.fit (by kernel_rfl) fun hf=>?_
 have hP:=Ju hf.1;have hcl:=hP.1;have hM:=Mx;refine we kZ ?_;have hcb:=R9 p;by_cases h10:p.AM.length<=10
 rotate_left
 .conv=>whnf
  repeat'((first|clear U K|apply st|(apply zk;intro K U)|refine zY ?_|(refine Cw (fun hc=>?_) (fun hc=>?_)<;>(replace hc:=bp hc)<;>(try simp(disch:=omega) only[B2,wrap64,Ae]at hc)<;>(try(exfalso;omega)))|fail)<;>conv=>whnf)
  all_goals try(exfalso;omega)
  exact YW (by rw[hcb];simp[h10])
 rw[decide_eq_true h10,EA]at hcb
 conv=>whnf
 repeat'((first|clear U K|apply st|(apply zk;intro K U)|refine zY ?_|(refine Cw (fun hc=>?_) (fun hc=>?_)<;>(replace hc:=bp hc)<;>(try simp(disch:=omega) only[B2,wrap64,Ae]at hc)<;>(try(exfalso;omega)))|fail)<;>conv=>whnf)
 all_goals try(exfalso;omega)
 refine Bw p.AM.length (fun k (n:Int)=>[(2,eI n),(24,eI (A6 k))]) (fun _ _=>[]) (fun k n=>GG 0 p.AM=GG n (p.AM.drop k)/\0<=n/\n+Bq (p.AM.drop k)=Bq p.AM/\n<=4*k) 0 rfl (by simp) hs ?_;clear hs;rintro k n Z hk ⟨hn,hn0,hn1,hn2⟩ hs;rcases A7 p.AM hk with⟨c,hc,hlt⟩|hke
 .have hcm:=(hP.2 c (Bo hc)).2.1
  have hms:n+(c.AG.length:Int)+Bq (p.AM.drop (k+1))=Bq p.AM:=by
   rw[drop_cons hc]at hn1;simp only[Bq,E3,List.sum_cons]at hn1 ⊢;omega
  rw[drop_cons hc,GG]at hn;by_cases h4:c.AG.length<=4
  .rw [decide_eq_true h4,EA]at hn
   conv=>whnf
   repeat'((first|clear U K|apply st|(apply zk;intro K U)|refine zY ?_|refine zs fun Z hs=>?_|(refine Cw (fun hc=>?_) (fun hc=>?_)<;>(replace hc:=bp hc)<;>(try simp(disch:=omega) only[B2,wrap64,Ae]at hc)<;>(try(exfalso;omega)))|refine zo fun nn hnn Z hs=>?_|fail)<;>conv=>whnf)
   all_goals try(exfalso;omega)
   refine Bw c.AG.length (fun j (m:Int)=>[(2,eI m),(36,eI (A6 j))]) (fun _ _=>[]) (fun j m=>GG 0 p.AM=(L5 m (c.AG.drop j)&&GG (n+c.AG.length) (p.AM.drop (k+1)))/\m=n+j) n rfl ⟨hn,by simp⟩ (hs.take 0) ?_;clear hs hn;rintro j m Z hj ⟨hm,he⟩ hs;rcases A7 c.AG hj with⟨x,hx,hjlt⟩|hje
   .rw[drop_cons hx,L5]at hm
    conv=>whnf
    repeat'((first|clear U K|apply st|(apply zk;intro K U)|refine zY ?_|(refine Cw (fun hc=>?_) (fun hc=>?_)<;>(replace hc:=bp hc))|fail)<;>conv=>whnf)
    .rw[wrap64 (by omega) (by omega)]
     rw[hc,beq_self_eq_true,EA]at hm;exact⟨hjlt,_,rfl,⟨by rw[<-hc];rw[<-hc]at hm;exact hm,by omega⟩,hs⟩
    .exact YW (by rw[hcb,hm];simp[hc])
   .rw[Ai hje,L5,EA]at hm
    refine zz ?_;(repeat clear U K);repeat intro K U
    exact⟨hlt,m,rfl,⟨by rw[hm];congr 1;omega,by omega,by omega,by omega⟩,hs⟩
  .conv=>whnf
   repeat'((first|clear U K|apply st|(apply zk;intro K U)|refine zY ?_|refine zs fun Z hs=>?_|(refine Cw (fun hc=>?_) (fun hc=>?_)<;>(replace hc:=bp hc)<;>(try simp(disch:=omega) only[B2,wrap64,Ae]at hc)<;>(try(exfalso;omega)))|refine zo fun nn hnn Z hs=>?_|fail)<;>conv=>whnf)
   all_goals try(exfalso;omega)
   exact YW (by rw[hcb,hn];simp[h4])
 .have hne:n=Bq p.AM:=by rw[Ai hke]at hn1;simpa[Bq]using hn1
  rw[Ai hke]at hn;have hsp:GG 0 p.AM=true:=hn;have hml:=TG _ _ hsp;rw[hsp,EA,<-hne]at hcb;cases hgd:Dy (A3 p)
  .rw[hgd]at hcb
   have hck:=XQ (A3 p) false;rw[hgd,if_neg (by decide)]at hck;have hcF:BC p=false:=by rw[hcb];simp
   conv=>whnf
   repeat'((first|clear U K|apply st|(apply zk;intro K U)|refine zY ?_|(refine Cw (fun hc=>?_) (fun hc=>?_)<;>(replace hc:=bp hc)<;>(try simp(disch:=omega) only[B2,wrap64,Ae]at hc)<;>(try(exfalso;omega))<;>(try(cases hc;done)))|refine Pure.use (M1 _ (by omega)) ?_|refine Pure.use (by assumption) ?_|refine za (fun hc=>?_) fun hc=>?_|fail)<;>conv=>whnf)
   all_goals exact YW hcF
  .have hck:=XQ (A3 p) false
   rw[hgd,if_pos rfl]at hck;rw[hgd,EA]at hcb;by_cases hps:n=p.AG
   .rw [hps,beq_self_eq_true,EA,<-hps]at hcb
    have hslB:Ct 0 p.AM=true:=by rw[Qo,hsp,XB hgd];rfl
    have hG:=D7 hgd;have ho:=Km hG;have hgl:(A3 p).length=p.AM.length:=by simp[A3]
    conv=>whnf
    repeat'((first|clear U K|apply st|(apply zk;intro K U)|refine zY ?_|(refine Cw (fun hc=>?_) (fun hc=>?_)<;>(replace hc:=bp hc)<;>(try simp(disch:=omega) only[B2,wrap64,Ae]at hc)<;>(try(exfalso;omega)))|refine Pure.use (M1 _ (by omega)) ?_|refine Pure.use (by assumption) ?_|(refine zb (fun hc=>?_) (fun hc=>?_)<;>try exact⟨⟩)|fail)<;>conv=>whnf)
    refine Bw p.AM.length (fun k (_:Unit)=>[(63,eI (A6 k))]) (fun _ _=>[]) (fun k _=>BC p=Gj (AL p) n k (p.AM.drop k)) () rfl hcb hs ?_;clear hs;rintro i - Z hi hn' hs;rcases A7 p.AM hi with⟨c,hc,hilt⟩|hie
    .rw [drop_cons hc,Gj]at hn'
     have hci:A6 i=i:=Ae (by omega);have hw3:IntKind.i64.wrap (A6 i+3)=(i:Int)+3:=by rw[hci,wrap64 (by omega) (by omega)]
     have hlin:=uI (A3 p) false ((i:Int)+3) hgd (by omega) (by omega);have hinl:=(hP.2 c (Bo hc)).2.2;have hlb:nV (AL p).parents ((i:Int)+3)= !((CD (A3 p)).getD ((i:Int)+3).toNat []).isEmpty:=rfl;cases hem:((CD (A3 p)).getD ((i:Int)+3).toNat []).isEmpty
     .rw [hem]at hlb
      rw[hlb,Bool.not_false,EA]at hn';rw[hem,if_neg (by decide),<-hw3]at hlin;have hhas:=uV p (i+3) h10 hslB hgd (by omega) (by omega);have hmh:=lM hslB ho (show 3<=i+3 by omega) (show i+3<3+p.AM.length by omega);have ei3:((i+3:Nat):Int)=(i:Int)+3:=by omega
      rw[ei3,<-hw3]at hhas;rw[ei3]at hmh;generalize (EP p (i+3) (i+3 - 2)).mergeSort Hn=mine at *
      conv=>whnf
      repeat'((first|clear U K|apply st|(apply zk;intro K U)|refine zY ?_|refine zs fun Z hs=>?_|(refine Cw (fun hc=>?_) (fun hc=>?_)<;>(replace hc:=bp hc)<;>(try simp(disch:=omega) only[B2,wrap64,Ae]at hc)<;>(try(exfalso;omega)))|refine Pure.use (by assumption) ?_|refine zo fun nn hnn Z hs=>?_|fail)<;>conv=>whnf)
      generalize nn=mm at *;replace hs:Sat Z [.map mm (UD [])]:=hs.take 1;refine Bw c.inits.length (fun j (_:List Int)=>[(86,eI (A6 j))]) (fun _ M=>[.map mm (UD M)]) (fun j M=>BC p=(ER (AL p) ((i:Int)+3) n (c.inits.take j) (c.inits.drop j)&&Gj (AL p) n (i+1) (p.AM.drop (i+1)))/\ ∀s,M.contains s=(c.inits.take j).any fun y=>y.1==s) [] rfl ⟨hn',fun s=>rfl⟩ hs ?_;clear hs;rintro j M Z hj ⟨hm,hMs⟩ hs;rcases A7 c.inits hj with⟨x,hx,hjlt⟩|hje
      .have hpa:((c.inits.take j).all fun y=>y.1 != x.1)= !M.contains x.1:=by
        rw[hMs,List.all_eq_not_any_not];congr 2;funext y;simp[bne]
       have hst:BC p=((mine.contains x.1&&(!M.contains x.1&&UR x.2))&&(ER (AL p) ((i:Int)+3) n (c.inits.take (j+1)) (c.inits.drop (j+1))&&Gj (AL p) n (i+1) (p.AM.drop (i+1)))):=by
        rw[hm,drop_cons hx,ER,hpa,hmh,<-hne,AO hx];cases decide (0<=x.1)<;>cases decide (x.1<n)<;>cases hasB (AL p) ((i:Int)+3) x.1<;>cases UR x.2<;>cases M.contains x.1<;>simp
       have hMs': ∀s,(P9 M x.1).contains s=(c.inits.take (j+1)).any fun y=>y.1==s:=fun s=>by
        rw[Wx,hMs,AO hx,List.any_append];simp only[PV,List.any_nil,Bool.or_false];congr 1;rw[IZ];simp;exact eq_comm
       have hct:=C1 mine false x.1;have hbt:=SF x.2;clear hmh hpa hMs hm;cases eA:mine.contains x.1<;>cases eB:M.contains x.1<;>cases eD:UR x.2<;>rw[eA]at hct<;>rw[eD]at hbt<;>rw[eA,eB,eD]at hst
       all_goals
        conv=>whnf
        repeat'((first|clear U K|apply st|(apply zk;intro K U)|refine zY ?_|refine zs fun Z hs=>?_|(refine Cw (fun hc=>?_) (fun hc=>?_)<;>(replace hc:=bp hc)<;>(try simp(disch:=omega) only[B2,wrap64,Ae]at hc)<;>(try(cases hc;done)))|refine ss eB ?_|refine msK (fun Z hs=>?_)|refine Pure.use (by assumption) ?_|refine zo fun nn hnn Z hs=>?_|fail)<;>conv=>whnf)
       all_goals first
        | exact⟨hjlt,_,rfl,⟨hst,hMs'⟩,hs.less (Ku _ _)⟩
        | exact YW (by rw[hst];rfl)
      .rw[Ai hje,ER,EA]at hm
       refine zz ?_;(repeat clear U K);repeat intro K U
       exact⟨hilt,(),rfl,hm,hs.take 0⟩
     .rw[hem]at hlb
      rw[hem,if_pos rfl,<-hw3]at hlin;have hcF:BC p=false:=by rw[hn',hlb];rfl
      conv=>whnf
      repeat'((first|clear U K|apply st|(apply zk;intro K U)|refine zY ?_|refine zs fun Z hs=>?_|(refine Cw (fun hc=>?_) (fun hc=>?_)<;>(replace hc:=bp hc)<;>(try(exfalso;omega)))|refine Pure.use (by assumption) ?_|refine zo fun nn hnn Z hs=>?_|fail)<;>conv=>whnf)
      all_goals exact YW hcF
    .refine zz ?_;(repeat clear U K);repeat intro K U
     exact clsT hs (by rw[hn',Ai hie];rfl)
   .have hcF:BC p=false:=by rw[hcb];simp[hps]
    conv=>whnf
    repeat'((first|clear U K|apply st|(apply zk;intro K U)|refine zY ?_|(refine Cw (fun hc=>?_) (fun hc=>?_)<;>(replace hc:=bp hc)<;>(try simp(disch:=omega) only[B2,wrap64,Ae]at hc)<;>(try(cases hc;done)))|refine Pure.use (M1 _ (by omega)) ?_|(refine zb (fun hc=>?_) (fun hc=>?_)<;>try exact⟨⟩)|fail)<;>conv=>whnf)
    all_goals exact YW hcF
def dN (f : Fact):S2 f=true->Pure zP 288 [.a (xF f)] (eI (Gk f)):=by
 induction f using Fact.ind with
 | h f ih=>
   intro ha;refine Pure.fit (by kernel_rfl) fun hf=>?_
   have⟨h2,h3,h4⟩:=K8 hf.1;have hM:=Mx;rw[RH]at ha;simp only[A9,Cc,List.all_map,EB]at ha;refine wY kZ ?_;have hs:=Sn;by_cases hlf:CI f=true
   .have hlo:=Ft hlf
    have hw:IntKind.i64.wrap (f.arg+1)=f.arg+1:=wrap64 (by omega) (by omega)
    conv=>whnf
    repeat'((first|clear U K|apply st|(apply zk;intro K U)|refine zY ?_|(refine zb (fun hc=>?_) (fun hc=>?_)<;>try exact⟨⟩)|fail)<;>conv=>whnf)
    all_goals try(exfalso;omega)
    all_goals
     refine Bw f.kids.length (fun k (_:Unit)=>[(3,eI (((f.kids.take k).map Gk).foldl Kx (if CI f then f.arg+1 else 0))),(25,eI (A6 k))]) (fun _ _=>[]) (fun _ _=>True) () (by rw[hw,if_pos hlf];rfl) trivial hs ?_;clear hs;rintro k - Z hk - hs;rcases A7 f.kids hk with⟨x,hx,hlt⟩|hke
     .have hxs:=ih x (Bo hx) (ha.2 x (Bo hx))
      conv=>whnf
      repeat'((first|clear U K|apply st|(apply zk;intro K U)|refine zY ?_|refine zs fun Z hs=>?_|refine zC ?_|refine zo fun nn hnn Z hs=>?_|fail)<;>conv=>whnf)
      exact⟨hlt,(),by rw[Gs _ _ _ hx];rfl,trivial,hs.take 0⟩
     .refine zz ?_;(repeat clear U K);repeat intro K U
      exact AF (by rw[Aq hke,<-Ke])
   .have hlo:f.op≠2/\f.op≠3/\f.op≠4:=by
     simp only[CI,Fm,DD]at hlf;omega
    conv=>whnf
    repeat'((first|clear U K|apply st|(apply zk;intro K U)|refine zY ?_|(refine zb (fun hc=>?_) (fun hc=>?_)<;>try exact⟨⟩)|fail)<;>conv=>whnf)
    all_goals try(exfalso;omega)
    all_goals
     refine Bw f.kids.length (fun k (_:Unit)=>[(3,eI (((f.kids.take k).map Gk).foldl Kx (if CI f then f.arg+1 else 0))),(25,eI (A6 k))]) (fun _ _=>[]) (fun _ _=>True) () (by rw[if_neg hlf];rfl) trivial hs ?_;clear hs;rintro k - Z hk - hs;rcases A7 f.kids hk with⟨x,hx,hlt⟩|hke
     .have hxs:=ih x (Bo hx) (ha.2 x (Bo hx))
      conv=>whnf
      repeat'((first|clear U K|apply st|(apply zk;intro K U)|refine zY ?_|refine zs fun Z hs=>?_|refine zC ?_|refine zo fun nn hnn Z hs=>?_|fail)<;>conv=>whnf)
      exact⟨hlt,(),by rw[Gs _ _ _ hx];rfl,trivial,hs.take 0⟩
     .refine zz ?_;(repeat clear U K);repeat intro K U
      exact AF (by rw[Aq hke,<-Ke])
def dh (p:Prog) (x:Node) (size:Int):Pure zP 286 [.a (BG p),.a (Jw x),eI size] (.b (Nb p x size)):=by
 refine Pure.fit (by kernel_rfl) fun hf=>?_
 have⟨p1,p2,p3,p4⟩:=Gi hf.1;have hM:=Mx;have hw:IntKind.i64.wrap (3+((p.AM.map Se).length:Nat))=3+(p.AM.length:Int):=by rw[B2,wrap64 (by omega) (by omega)]
 refine wa kZ ?_;have hs:=Sn
 conv=>whnf
 repeat'((first|clear U K|apply st|(apply zk;intro K U)|refine zY ?_|refine Pure.use (SF _) ?_|refine za (fun hc=>?_) fun hc=>?_|fail)<;>conv=>whnf)
 all_goals first
  | (refine AF ?_;simp[Nb, *];done)
  | (refine AF ?_;simp[Nb, *];omega)
  | (refine AF ?_;rw[hw];simp[Nb, *];done)
  | (refine AF ?_;congr 1;rw[IZ];simp[Nb, *];omega)
def uD (n:Nat) (hn:n<=120):Pure zP 239 [.i .u64 1,eU n] (.t [.i .u64 0,eU n]):=by
 refine xO kZ ?_;have hs:=Sn
 conv=>whnf
 repeat'((first|clear U K|apply st|(apply zk;intro K U)|refine zY ?_|refine⟨(by decide:(0:Int)<=_),?_⟩|fail)<;>conv=>whnf)
 have ea: ∀m:Nat,m<=120->bits .and .u64 (m:Int) 4294967295=(m:Int):=fun m hm=>by
  have:=F7 (a:=m) (b:=4294967295) (by omega) (by decide)
  have e:m&&&4294967295=m:=by
   have:=Nat.and_two_pow_sub_one_eq_mod m 32;rw[show 2 ^ 32 - 1=4294967295 from rfl]at this;rw[this];omega
  rw[e]at this;exact this
 have e0:=ea 0 (by omega);have e1:=ea 1 (by omega);have en:=ea n hn
 have ef: ∀m:Nat,m<=120->(m:Int).fdiv (2 ^ min (Int.toNat 32) IntKind.u64.bits)=0:=fun m hm=>by
  have:=U0 (a:=m) (c:=32) (by decide);rw[show(Int.toNat 32)=32 from rfl,this,Nat.shiftRight_eq_div_pow];have:m / 2 ^ 32=0:=Nat.div_eq_of_lt (by omega);rw[this];rfl
 have f0:=ef 0 (by omega);have f1:=ef 1 (by omega);have fn:=ef n hn;have w0:IntKind.u64.wrap 0=0:=rfl;have wn:IntKind.u64.wrap (n:Int)=n:=H7 (by omega);simp only[Int.natCast_zero,Int.natCast_one,Int.cast_ofNat_Int]at e0 e1 f0 f1;simp only[e0,e1,en,f0,f1,fn,w0,wn,Int.zero_mul,Int.mul_zero,Int.zero_add,Int.add_zero,Int.one_mul];exact AF rfl
def uE (n:Nat) (hn:n<=120):Pure zP 160 [.i .u64 1,eU n] (.t [.i .u64 0,eU n]):=by
 refine yF kZ ?_;have hs:=Sn
 conv=>whnf
 repeat'((first|clear U K|apply st|(apply zk;intro K U)|refine Pure.use (uD n hn) ?_|fail)<;>conv=>whnf)
 all_goals exact AF rfl
end Go.Gl
namespace Go.Gl
variable {P:Program} {Z:AE}
def gE {n sz len cap:Nat} {ki:IntKind} {j:Int} {K:V->AE->Prop} (h:K (.sv n sz j.toNat ((len:Int) - j).toNat) Z) (h0:0<=j:=by omega) (h1:j<=(len:Int):=by omega):AQ Z sz (.sl n len cap) (some (.i ki j)) none none K:=by
 unfold AQ;simp only[Of];exact⟨h0,h1,Int.le_refl _,h⟩
def sf {n sz len cap:Nat} {ki:IntKind} {j:Int} {K:V->AE->Prop} (h:K (.sv n sz 0 j.toNat) Z) (h0:0<=j:=by omega) (h1:j<=(len:Int):=by omega):AQ Z sz (.sl n len cap) none (some (.i ki j)) none K:=by
 unfold AQ;simp only[Of];refine⟨Int.le_refl _,h0,h1,?_⟩;simpa using h
def AAo {l:List At} (h:Sat Z l) (i:Nat) {n len cap sz:Nat} {es ys:List (List V)} {f:Bool} {K:V->AE->Prop} (hi:l[i]? =some (.own (.sl n len cap) sz es)) (hle:ys.length<=es.length) (hys: ∀e∈ys,e.length=sz) (ho: ∀e∈ys,∀v∈e,CO v=true)
    (hk: ∀Z',Sat Z' (l.set i (.own (.sl n len cap) sz (ys++es.drop ys.length)))->K (.i .i64 (ys.length:Nat)) Z'):AX Z sz (.sl n len cap) (.l ys f) K:=by
 rcases h.get hi with⟨h1,_⟩|⟨n',cap',h1,hn⟩
 .cases h1
 cases h1;unfold AX;refine⟨hys,ho,?_⟩;simp only[QA,hn];have hm:min ys.length es.length=ys.length:=Nat.min_eq_left hle;refine⟨trivial,by omega,?_⟩;rw[hm];refine hk _ ?_;simp only[List.take_zero,List.nil_append,List.take_length,G8];refine h.change hi (fun b hb ha=>FU hb fun m hm=>?_) (fun b hb ha m hm=>ha m hm) (.inr ⟨n,cap,by simp;omega,by simp[B3]⟩);rw[Cm];intro e;subst e;exact ha m rfl hm
def AAn {l:List At} (h:Sat Z l) (i:Nat) {n len cap sz a b c:Nat} {es:List (List V)} {K:V->AE->Prop} (hi:l[i]? =some (.own (.sl n len cap) sz es)) (hbc:a+b<=es.length) (hc:c<=es.length) (hys: ∀e∈es,e.length=sz) (ho: ∀e∈es,∀v∈e,CO v=true)
    (hk: ∀Z',Sat Z' (l.set i (.own (.sl n len cap) sz (es.take a++((es.take c).take (min c b)++es.drop (a+min c b)))))->K (.i .i64 (min c b:Nat)) Z'):AX Z sz (.sv n sz a b) (.sv n sz 0 c) K:=by
 rcases h.get hi with⟨h1,_⟩|⟨n',cap',h1,hn⟩
 .cases h1
 cases h1;unfold AX;simp only[rowsOf,hn];have hl:((es.drop 0).take c).length=c:=by simp;omega
 refine⟨trivial,trivial,by omega,fun e he v hv=>ho e (List.mem_of_mem_take (by simpa using he)) v hv,trivial,?_⟩;simp only[QA,hn,List.drop_zero];refine⟨trivial,by omega,?_⟩;have hl2:(es.take c).length=c:=by simp;omega
 rw[hl2];refine hk _ ?_;refine h.change hi (fun b hb ha=>FU hb fun m hm=>?_) (fun b hb ha m hm=>ha m hm) (.inr ⟨n,cap,by simp;omega,by simp[B3]⟩);rw[Cm];intro e;subst e;exact ha m rfl hm
end Go.Gl
namespace Go.Gl
open Go.Proofs
attribute [local irreducible] Au Am Ab AR AK AY AQ AS AJ AX AN AP Ao Az Sat AU Ax Ad W
def repeatA (a:Int) (n:Nat) (h1:1<=n) (hn:n<=120):BT zP 102 [.l [[eI a]] true,eI n] [] fun r post=> ∃v,r= .ret v/\post= [.own v 1 (iL (List.replicate n a))]/\(B7 v).isSome=true:=by
 intro Z hs;have hM:=Mx;have hw1:IntKind.u64.wrap 1=1:=rfl;have hwn:IntKind.u64.wrap (n:Int)=n:=H7 (by omega);have hwi:IntKind.i64.wrap (n:Int)=n:=wrap64 (by omega) (by omega);refine yi kZ ?_
 conv=>whnf
 repeat'((first|clear U K|apply st|(apply zk;intro K U)|refine zY ?_|(refine zb (fun hc=>?_) (fun hc=>?_)<;>try exact⟨⟩)|fail)<;>conv=>whnf)
 rw[show IntKind.u64.wrap (([[eI a]]:List (List V)).length:Nat)=1 from rfl,hwn];refine(uE n hn).use ?_
 conv=>whnf
 repeat'((first|clear U K|apply st|(apply zk;intro K U)|refine zY ?_|(refine zb (fun hc=>?_) (fun hc=>?_)<;>try exact⟨⟩)|fail)<;>conv=>whnf)
 all_goals try(exfalso;omega)
 rw[hwi];refine nX hs (IW n) (by omega) fun v Z hs hv=>?_
 obtain⟨id,rfl⟩:=hv
 conv=>whnf
 repeat'((first|clear U K|apply st|(apply zk;intro K U)|fail)<;>conv=>whnf)
 refine AAo hs 0 (ys:=[[eI a]]) rfl (by simp;omega) (fun e he=>by simp at he;subst he;rfl) (fun e he v hv=>by simp at he;subst he;simp at hv;subst hv;rfl) fun Z hs=>?_
 have hst:([[eI a]]:List (List V))++(List.replicate n [V.i .i64 0]).drop ([[eI a]]:List (List V)).length=List.replicate 1 [eI a]++List.replicate (n - 1) [eI 0]:=by simp[List.drop_replicate]
 rw[hst]at hs;refine zz ?_;(repeat clear U K);repeat intro K U
 refine D1 (fun m:Nat=>n - m) (fun m=>[(8,eI m)]) (fun m=>[.own (.sl id n n) 1 (List.replicate m [eI a]++List.replicate (n - m) [eI 0])]) (fun m=>1<=m/\m<=n) 1 rfl ⟨by omega,h1⟩ hs ?_;clear hs hst;rintro m Z ⟨hm1,hmn⟩ hs
 have hgl: ∀e∈(List.replicate m [eI a]++List.replicate (n - m) [eI 0]:List (List V)),e.length=1/\ ∀v∈e,CO v=true:=fun e he=>by
  rcases Du.1 he with he|he
  .rw[(List.mem_replicate.1 he).2];exact⟨rfl,fun v hv=>by simp at hv;subst hv;rfl⟩
  .rw[(List.mem_replicate.1 he).2];exact⟨rfl,fun v hv=>by simp at hv;subst hv;rfl⟩
 have hlen:(List.replicate m [eI a]++List.replicate (n - m) [eI 0]:List (List V)).length=n:=by simp;omega
 rcases Nat.lt_or_ge m n with hlt|hge
 .have hcpy:(List.replicate m [eI a]++List.replicate (n - m) [eI 0]:List (List V)).take m++(((List.replicate m [eI a]++List.replicate (n - m) [eI 0]:List (List V)).take m).take (min m (n - m))++(List.replicate m [eI a]++List.replicate (n - m) [eI 0]:List (List V)).drop (m+min m (n - m)))=List.replicate (m+min m (n - m)) [eI a]++List.replicate (n - (m+min m (n - m))) [eI 0]:=by
   have e1:(List.replicate m [eI a]++List.replicate (n - m) [eI 0]:List (List V)).take m=List.replicate m [eI a]:=by
    rw[List.take_append_of_le_length (by simp)];simp
   rw[e1,List.take_replicate,List.drop_append,List.drop_replicate,List.drop_replicate,List.length_replicate,<-PD,List.replicate_append_replicate];have e2:m - (m+min m (n - m))=0:=by omega
   have e3:n - m - (m+min m (n - m) - m)=n - (m+min m (n - m)):=by omega
   rw[e2,e3,List.replicate_zero,List.nil_append];congr 2;omega
  conv=>whnf
  repeat'((first|clear U K|apply st|(apply zk;intro K U)|refine zY ?_|(refine zb (fun hc=>?_) (fun hc=>?_)<;>try exact⟨⟩)|fail)<;>conv=>whnf)
  all_goals try(exfalso;omega)
  refine gE ?_;refine zz ?_;(repeat clear U K);repeat intro K U
  refine sf ?_;refine zz ?_;(repeat clear U K);repeat intro K U
  rw[GB,show((n:Int) - m).toNat=n - m by omega];refine AAn hs 0 rfl (by rw[hlen];omega) (by rw[hlen];omega) (fun e he=>(hgl e he).1) (fun e he=>(hgl e he).2) fun Z hs=>?_
  rw[hcpy]at hs;refine zz ?_;(repeat clear U K);repeat intro K U
  refine⟨m+min m (n - m),by omega,?_,⟨by omega,by omega⟩,hs⟩;rw[wrap64 (by omega) (by omega)];rfl
 .have hme:m=n:=by omega
  subst hme
  conv=>whnf
  repeat'((first|clear U K|apply st|(apply zk;intro K U)|refine zY ?_|(refine zb (fun hc=>?_) (fun hc=>?_)<;>try exact⟨⟩)|fail)<;>conv=>whnf)
  all_goals try(exfalso;omega)
  refine As hs (List.Sublist.refl _) (.refl _) fun Z' hs'=>⟨_,⟨_,rfl,?_,rfl⟩,hs'⟩
  simp[iL]
def dW (n:Nat) (h1:1<=n) (hn:n<=120):BT zP 102 [.l [[eI (-1)]] true,eI n] [] fun r post=> ∃v,r= .ret v/\post= [.own v 1 (iL (List.replicate n (-1)))]/\(B7 v).isSome=true:=repeatA (-1) n h1 hn
def Sy (op:Int):V:=
 if op=5 then .FO 360 (.a [])else
 if op=1\/op=2\/op=3\/op=6\/op=18 then .FO 359 (eI 0)else
 if op=4\/op=8\/op=17 then .FO 359 (eI 1)else
 if op=7\/op=9\/op=11\/op=12\/op=13\/op=14\/op=15\/op=16 then .FO 359 (eI 2)else
 if op=10 then .FO 359 (eI 3)else .Dv
def dx (op:Int):Pure zP 287 [eI op] (Sy op):=by
 refine wZ kZ ?_;have hs:=Sn
 conv=>whnf
 repeat'((first|clear U K|apply st|(apply zk;intro K U)|refine zY ?_|refine za (fun hc=>?_) fun hc=>?_|fail)<;>conv=>whnf)
 all_goals exact AF (by simp[Sy, *])
def AAN (n:Int) (p:Prog) (x:Node):Pure zP 399 [eI n,.a (BG p),.a (Jw x)] (eI n):=by
 refine uo kZ ?_;have hs:=Sn;exact zW
def qo (p:Prog) (x:Node) (h0:0<=x.n) (h1:x.n<p.Cs.length):Pure zP 400 [.a [],.a (BG p),.a (Jw x)] (eI (p.Cs.getD x.n.toNat 0)):=by
 refine Pure.fit (by kernel_rfl) fun hf=>?_
 have⟨p1,p2,p3,p4⟩:=Gi hf.2.1
 have hx:p.Cs[x.n.toNat]? =some (p.Cs.getD x.n.toNat 0):=by
  rw[C4,Cr (by omega)];rfl
 refine um kZ ?_;have hs:=Sn;exact zW
end Go.Gl
namespace Go.Gl
variable {P:Program} {Z:AE}
def Sat.up {Z':AE} {l:List At} (h:Sat Z l) (hs:Sub Z Z'):Sat Z' l:=by
 refine⟨fun a ha=>?_,h.2⟩;have:=h.1 a ha;cases a with
 | obj n o=>exact hs n o this
 | own v sz es=>
   rcases this with h|⟨n,cap,e,hn⟩
   .exact .inl h
   .exact .inr ⟨n,cap,e,hs n _ hn⟩
def Sat.del {l:List At} {n:Nat} {o:O} (h:Sat Z (.obj n o::l)):Sat (del Z n) l:=by
 refine⟨fun b hb=>FU (h.1 b (.tail _ hb)) fun m hm=>?_,(List.pairwise_cons.1 h.2).2⟩;rw[He];intro e;subst e;exact(List.pairwise_cons.1 h.2).1 b hb m rfl hm
def Sat.ni {l:List At} {n:Nat} {o:O} (h:Sat Z l) (hn:Z n=none):Sat (B3 Z n o) (.obj n o::l):=(gQ h hn).zR
def Sat.new {l:List At} {n:Nat} {o o':O} (h:Sat Z (.obj n o::l)):Sat (B3 Z n o') (.obj n o'::l):=s5 (i:=0) h rfl o'
def AI {v:V} {Q:R->AE->Prop} (h:Q (.ret v) Z):Am Z v Q:=⟨v,Z,fun _ _ h=>h,.refl v,h⟩
inductive Rd (S:Type) where
 | go (s:S)
 | stop (st:sX) (s:S)
 | Bj (v:V)
def nG {S:Type} (L:Nat) (E:Env) (ok:FuncId->Array Tmp->Code->Code->Nat->Prop) (H:S->List At) (J:S->Prop) (rest:List At) (yes no:V):Rd S->R->AE->Prop
 | .go s,r,Z=>r= .ret yes/\Sat Z (.obj L (.loop .ready E ok)::(H s++rest))
 | .stop st s,r,Z=>r= .ret no/\Sat Z (.obj L (.loop st E ok)::(H s++rest))
 | .Bj v,r,Z=>r= .Bj v/\ ∃s,J s/\Sat (del Z L) (H s++rest)
def N2 {α S:Type} (P:Program) (L:Nat) (E:Env) (ok:FuncId->Array Tmp->Code->Code->Nat->Prop) (ea:α->List V) (H:S->List At) (J:S->Prop) (stp:α->S->Rd S) (D:α->S->Prop):Prop:=
 ∀y s,D y s-> ∀(rest:List At) (Z:AE),Sat Z (.obj L (.loop .ready E ok)::(H s++rest))->Nj P L (ea y) Z (nG L E ok H J rest (.b true) (.b false) (stp y s))
def N2.use {α S:Type} {L:Nat} {E:Env} {ok:FuncId->Array Tmp->Code->Code->Nat->Prop} {ea:α->List V} {H:S->List At} {J:S->Prop} {stp:α->S->Rd S} {D:α->S->Prop} (h:N2 P L E ok ea H J stp D) {y:α} {s:S} (hd:D y s) {rest:List At} (hs:Sat Z (.obj L (.loop .ready E ok)::(H s++rest)))
    {Q:R->AE->Prop} (hk: ∀r Z',nG L E ok H J rest (.b true) (.b false) (stp y s) r Z'->Q r Z'):Ao P (.f (.yield L) [] []) (ea y) Z Q:=(h y s hd rest Z hs).mono hk
def Lu {L:Nat} {env:Env} {ps:List Nat} {a b:AV} (hσ:Z L=some (.loop .ready env (Bk P ps a b))) {args:List V} (hl:args.length=ps.length) {Q:R->AE->Prop}
    (h:W P a (Cb (W P b fun ex env' Z'=>Z' L=none->Qi L env (Bk P ps a b) Q ex env' Z')) (El ps args env) (del Z L)):Nj P L args Z Q:=
 R5 hσ hl (Yz h (LD fun _ _ h=>nE h))
def Oz {α S:Type} {L:Nat} {E:Env} {ps:List Nat} {a b:AV} {ea:α->List V} {H:S->List At} {J:S->Prop} {stp:α->S->Rd S} {D:α->S->Prop} (hl: ∀y,(ea y).length=ps.length)
    (h: ∀y s,D y s-> ∀(rest:List At) (Z:AE),Sat Z (H s++rest)->W P a (Cb (W P b fun ex env' Z'=>Z' L=none->Qi L E (Bk P ps a b) (nG L E (Bk P ps a b) H J rest (.b true) (.b false) (stp y s)) ex env' Z')) (El ps (ea y) E) Z):N2 P L E (Bk P ps a b) ea H J stp D:=
 fun y s hd rest Z hs=>Lu (hs.get (i:=0) rfl) (hl y) (h y s hd rest _ hs.del)
def Wv {S:Type} {L:Nat} {E:Env} {ok:FuncId->Array Tmp->Code->Code->Nat->Prop} {H:S->List At} {J:S->Prop} {rest:List At} {o:Rd S} {s:S} (h:o= .go s) (hs:Sat Z (H s++rest)) (hn:Z L=none) :
    nG L E ok H J rest (.b true) (.b false) o (.ret (.b true)) (B3 Z L (.loop .ready E ok)):=by
 subst h;exact⟨rfl,hs.ni hn⟩
def Y8 {S:Type} {L:Nat} {E:Env} {ok:FuncId->Array Tmp->Code->Code->Nat->Prop} {H:S->List At} {J:S->Prop} {rest:List At} {o:Rd S} {s:S} {st:sX} (h:o= .stop st s) (hs:Sat Z (H s++rest)) (hn:Z L=none) :
    nG L E ok H J rest (.b true) (.b false) o (.ret (.b false)) (B3 Z L (.loop st E ok)):=by
 subst h;exact⟨rfl,hs.ni hn⟩
def TK {S:Type} {L:Nat} {E:Env} {ok:FuncId->Array Tmp->Code->Code->Nat->Prop} {H:S->List At} {J:S->Prop} {rest:List At} {o:Rd S} {s:S} {v:V} (h:o= .Bj v) (hj:J s) (hs:Sat Z (H s++rest)) (hn:Z L=none) :
    nG L E ok H J rest (.b true) (.b false) o (.Bj v) Z:=by
 subst h;refine⟨rfl,s,hj,fun a ha=>FU (hs.1 a ha) fun n hd=>?_,hs.2⟩;obtain⟨o,ho⟩:=C0 (hs.1 a ha) hd;rw[He];intro e;subst e;rw[hn]at ho;cases ho
def Mo {L:Nat} {E env:Env} {ok:FuncId->Array Tmp->Code->Code->Nat->Prop} {Q:Ac->Env->AE->Prop} {l:List At} {v:V} (hs:Sat Z (.obj L (.loop .ready E ok)::l)) (hk: ∀Z',Sat Z' l->Q .normal env Z'):Le L Q env (.ret v) Z:=
 ⟨_,_,_,hs.get (i:=0) rfl,hk _ hs.del⟩
def ZB {L id:Nat} {E env:Env} {ok:FuncId->Array Tmp->Code->Code->Nat->Prop} {Q:Ac->Env->AE->Prop} {l:List At} {v:V} (hs:Sat Z (.obj L (.loop (.exit id) E ok)::l)) (hk: ∀Z',Sat Z' l->Q (.exit id) env Z'):Le L Q env (.ret v) Z:=
 ⟨_,_,_,hs.get (i:=0) rfl,hk _ hs.del⟩
end Go.Gl
namespace Go.Gl
open Go.Proofs
attribute [local irreducible] Au Am Ab AR AK AY AQ AS AJ AX AN AP Ao Az Sat AU Ax Ad W
def FZ (p:Prog) (next:Bool) (n size depth:Int) (s:List Int):Option (List Int):=
 if n<0\/(p.nodes.length:Int)<=n\/0<=s.getD n.toNat 0\/12<depth then none else
 match p.nodes[n.toNat]? with
 | none=>none
 | some x=>if EN p next size x then some (s.set n.toNat size)else none
def gL {S:Type}:Option S->Rd S
 | some s=> .go s
 | none=> .Bj D5
abbrev eaP (y:Int×Int×Int):List V:=[eI y.1,.a [eI y.2.1,eI y.2.2]]
abbrev hOut (nO:Nat) (v:V) (s:List Int):List At:=[.box nO [v],.own v 1 (iL s)]
abbrev dP (p:Prog) (y:Int×Int×Int) (s:List Int):Prop:=0<=y.2.1/\y.2.1<=100/\1<=y.2.2/\y.2.2<=13/\s.length=p.nodes.length
abbrev YZ (p:Prog) (L nW:Nat):V:= .f (.func 328) [] [.rp [.f (.yield L) [] []],.rp (BG p),.p nW 0]
def Y1 {p:Prog} {next:Bool} {n size depth:Int} {s s':List Int} (h:FZ p next n size depth s=some s'):0<=n/\n<(p.nodes.length:Int)/\s.getD n.toNat 0<0/\depth<=12/\ ∃x,p.nodes[n.toNat]? =some x/\EN p next size x=true/\s'=s.set n.toNat size:=by
 unfold FZ at h;split at h
 .cases h
 .rename_i hc
  split at h
  .cases h
  .rename_i x hx
   split at h
   .rename_i hok
    simp only[JD]at h;exact⟨by omega,by omega,by omega,by omega,x,hx,hok,h.symm⟩
   .cases h
def Y0 {p:Prog} {next:Bool} {d:Nat} {n size depth:Int} {s:List Int} (hd:depth=13 - (d+1:Nat)) (hd1:1<=depth):CX p next (d+1) n size s=match FZ p next n size depth s with
    | none=>none
    | some s'=>match p.nodes[n.toNat]? with
      | none=>none
      | some x=>F0 (CX p next d) x.op size 0 x.kids s':=by
 unfold FZ;simp only[CX];by_cases h:n<0\/(p.nodes.length:Int)<=n\/0<=s.getD n.toNat 0
 .rw[if_pos h,if_pos (by omega)]
 .rw[if_neg h,if_neg (by omega)]
  cases hx:p.nodes[n.toNat]? with
  | none=>rfl
  | some x=>
    simp only;split
    .rfl
    .rfl
def Y2 {p:Prog} {next:Bool} {n size depth:Int} {s:List Int} (hd:12<depth):FZ p next n size depth s=none:=by
 unfold FZ;rw[if_pos (by omega)]
def TZ {f:Int->Int->List Int->Option (List Int)} (hf: ∀ {a b s s'},f a b s=some s'->s'.length=s.length) {op size:Int}: ∀(i:Nat) (l:List Int) {s s':List Int},F0 f op size i l s=some s'->s'.length=s.length
 | _,[],s,s',h=>by cases h;rfl
 | i,k::r,s,s',h=>by
   simp only[F0]at h;split at h
   .cases h
   .rename_i s1 h1
    exact(TZ hf (i+1) r h).trans (hf h1)
def Kb {p:Prog} {next:Bool}: ∀(d:Nat) {n size:Int} {s s':List Int},CX p next d n size s=some s'->s'.length=s.length
 | 0,_,_,_,_,h=>by cases h
 | d + 1,n,size,s,s',h=>by
   simp only[CX]at h;split at h
   .cases h
   .split at h
    .cases h
    .split at h
     .exact(TZ (fun h=>Kb d h) 0 _ h).trans (by simp)
     .cases h
def nr (p : Prog) (next:Bool) {L:Nat} {E:Env} {ok:FuncId->Array Tmp->Code->Code->Nat->Prop} {v:V} {nO:Nat}
    (hY:N2 zP L E ok eaP (hOut nO v) (fun s=>s.length=p.nodes.length) (fun y s=>gL (FZ p next y.1 y.2.1 y.2.2 s)) (dP p)) :
    ∀ d : Nat,d<=12-> ∀(n size depth:Int) (s:List Int),depth=13 - d->0<=size->size+d<=100->s.length=p.nodes.length-> ∀(nW:Nat) (rest:List At) (Z:AE),
      Sat Z (.obj L (.loop .ready E ok)::(hOut nO v s++(.box nW [YZ p L nW]::rest)))->
      Au zP 328 [eI n,.a [eI size,eI depth],.rp [.f (.yield L) [] []],.rp (BG p),.p nW 0] Z
       (nG L E ok (hOut nO v) (fun s=>s.length=p.nodes.length) (.box nW [YZ p L nW]::rest) (.b true) (.b false) (gL (CX p next d n size s))):=by
 intro d
 induction d with
 | zero=>
   intro _ n size depth s hd h0 h1 hl nW rest Z hs;refine jJ kZ ?_;refine zz ?_;(repeat clear U K);repeat intro K U
   refine hY.use (y:=(n,size,depth)) (s:=s) ⟨h0,(by dsimp only;omega),(by dsimp only;omega),(by dsimp only;omega),hl⟩ hs ?_;rw[Y2 (by dsimp only;omega)];rintro r Z' ⟨rfl,s',hj,hs'⟩
   conv=>whnf
   repeat'((first|clear U K|apply st|fail)<;>conv=>whnf)
   exact DS ⟨rfl,s',hj,hs'⟩
 | succ d ih =>
   intro hd12 n size depth s hd h0 h1 hl nW rest Z hs;refine Au.fit (by kernel_rfl) fun hf=>?_
   have hM:=Mx
   have hfp:FP (.a (BG p)):=by
    have:=hf.2.2.2.1;simp only[VK]at this;simpa only[Hb]using this
   have⟨p1,p2,p3,p4⟩:=Gi hfp;refine jJ kZ ?_;refine zz ?_;(repeat clear U K);repeat intro K U
   refine hY.use (y:=(n,size,depth)) (s:=s) ⟨h0,(by dsimp only;omega),(by dsimp only;omega),(by dsimp only;omega),hl⟩ hs ?_;have hw:=Y0 (p:=p) (next:=next) (n:=n) (size:=size) (s:=s) hd (by omega);cases hv:FZ p next n size depth s with
   | none=>
     rw[hv]at hw;rintro r Z' ⟨rfl,s',hj,hs'⟩
     conv=>whnf
     repeat'((first|clear U K|apply st|fail)<;>conv=>whnf)
     refine DS ?_;rw[hw];exact⟨rfl,s',hj,hs'⟩
   | some s1 =>
     obtain⟨g0,g1,g2,g3,x,hx,hok,hs1⟩:=Y1 hv;rw[hv]at hw;simp only[hx]at hw;have hl1:s1.length=p.nodes.length:=by rw[hs1];simpa using hl
     have hkm:=jC hfp (Bo hx);clear hv hs1;rintro r Z1 ⟨rfl,hs⟩;refine zz ?_;(repeat clear U K);repeat intro K U
     refine Bw x.kids.length (fun k (_:List Int)=>[(23,eI (A6 k))]) (fun _ s'=> .obj L (.loop .ready E ok)::(hOut nO v s'++(.box nW [YZ p L nW]::rest))) (fun k s'=>s'.length=p.nodes.length/\CX p next (d+1) n size s=F0 (CX p next d) x.op size k (x.kids.drop k) s') s1 rfl ⟨hl1,by simpa using hw⟩ hs ?_;clear hs hw;rintro k s' Z hk ⟨hl',hkids⟩ hs;rcases A7 x.kids hk with⟨kid,hkid,hlt⟩|hke
     .have hck:A6 k=k:=Ae (by omega)
      rw[drop_cons hkid,F0]at hkids;have e0:IntKind.i64.wrap (depth+1)=depth+1:=wrap64 (by omega) (by omega);have e1:IntKind.i64.wrap (size+1)=size+1:=wrap64 (by omega) (by omega)
      have hrec: ∀(sz:Int) (Z:AE) (l:List At),0<=sz->sz+d<=100->Sat Z (l++(.obj L (.loop .ready E ok)::(hOut nO v s'++(.box nW [YZ p L nW]::rest))))->Ao zP (YZ p L nW) [eI kid,.a [eI sz,eI (depth+1)]] Z
       (nG L E ok (hOut nO v) (fun s=>s.length=p.nodes.length) (.box nW [YZ p L nW]::rest) (.b true) (.b false) (gL (CX p next d kid sz s'))):=fun sz Z l h0 h1 hs=>
       BN (ih (by omega) kid sz (depth+1) s' (by omega) h0 h1 hl' nW rest Z (hs.less (List.sublist_append_right _ _)))
      conv=>whnf
      repeat'((first|clear U K|apply st|(apply zk;intro K U)|refine zY ?_|refine zs fun Z hs=>?_|(refine zd (fun hc=>?_) (fun hc=>?_)<;>try exact⟨⟩)|refine zo fun nn hnn Z hs=>?_|fail)<;>conv=>whnf)
      all_goals
       simp only[e0,e1]
       first
        | rw[if_pos (by omega)]at hkids
          refine(hrec (size+1) _ [_] (by omega) (by omega) hs).mono ?_
        | rw[if_neg (by omega)]at hkids
          refine(hrec size _ [_] (by omega) (by omega) hs).mono ?_
       cases hw:CX p next d kid _ s' with
       | none=>
         rw[hw]at hkids;rintro r Z' ⟨rfl,s',hj,hs'⟩
         conv=>whnf
         repeat'((first|clear U K|apply st|fail)<;>conv=>whnf)
         refine DS ?_;rw[hkids];exact⟨rfl,s',hj,hs'⟩
       | some s2=>
         rw[hw]at hkids;rintro r Z' ⟨rfl,hs'⟩;refine zz ?_;(repeat clear U K);repeat intro K U
         exact⟨hlt,s2,rfl,⟨(Kb _ hw).trans hl',hkids⟩,hs'⟩
     .rw[Ai hke,F0]at hkids
      refine zz ?_;(repeat clear U K);repeat intro K U
      refine AI ?_;rw[hkids];exact⟨rfl,hs⟩
def sZ {a b:Nat} {A B:Prop} (e:a=b) (h:A):(a=b->A)/\(a≠b->B):=⟨fun _=>h,fun n=>absurd e n⟩
def tasN {a b:Nat} {A B:Prop} (e:a≠b) (h:B):(a=b->A)/\(a≠b->B):=⟨fun n=>absurd n e,fun _=>h⟩
def kA {P:Program} {Z:AE} {tab:List (TypeId×FuncId)} {t:TypeId} {f:FuncId} {v:V} {args:List V} {Q:R->AE->Prop} (h:look t tab=some f) (hc:Au P f (v::args) Z Q):Az P tab (.FO t v) args Z Q:=by
 unfold Az;simp only[h];exact hc
def mW (p:Prog) (n size depth:Int):Pure zP 285 [.a (BG p),eI n,.a [eI size,eI depth]] (.f (.func 327) [] [.rp (BG p),.rp [eI n],.rp [eI size,eI depth]]):=by
 refine wb kZ ?_;have hs:=Sn;exact zW
def ud (p:Prog) (next:Bool) {L:Nat} {E:Env} {ok:FuncId->Array Tmp->Code->Code->Nat->Prop} {v:V} {nO:Nat}
    (hY:N2 zP L E ok eaP (hOut nO v) (fun s=>s.length=p.nodes.length) (fun y s=>gL (FZ p next y.1 y.2.1 y.2.2 s)) (dP p)) (n size:Int) (s:List Int) (h0:0<=size) (h1:size<=20) (hl:s.length=p.nodes.length) (rest:List At) (Z:AE)
    (hs : Sat Z (.obj L (.loop .ready E ok)::(hOut nO v s++rest))) :
     Au zP 327 [.f (.yield L) [] [],.rp (BG p),.rp [eI n],.rp [eI size,eI 1]] Z
      (nG L E ok (hOut nO v) (fun s=>s.length=p.nodes.length) rest (.t []) (.t []) (gL (CX p next 12 n size s))):=by
 refine ve kZ ?_
 conv=>whnf
 repeat'((first|clear U K|apply st|(apply zk;intro K U)|refine zY ?_|refine zs fun Z hs=>?_|refine zo fun nn hnn Z hs=>?_|fail)<;>conv=>whnf)
 have hp:Sat Z (.obj L (.loop .ready E ok)::(hOut nO v s++(.box nn [YZ p L nn]::rest))):=hs.perm (by
  refine(List.Perm.swap _ _ _).trans (.cons _ ?_)
  exact(List.perm_middle (l₁:=hOut nO v s)).symm)
 refine BN ((nr p next hY 12 (IW _) n size 1 s rfl h0 (by omega) hl nn rest Z hp).mono ?_);cases hw:CX p next 12 n size s with
 | none=>
   rintro r Z' ⟨rfl,s',hj,hs'⟩
   conv=>whnf
   repeat'((first|clear U K|apply st|fail)<;>conv=>whnf)
   refine DS ?_;rw[hw];exact⟨rfl,s',hj,hs'.less (List.Sublist.append_left (Ku _ _) _)⟩
 | some s2=>
   rintro r Z' ⟨rfl,hs'⟩
   conv=>whnf
   repeat'((first|clear U K|apply st|fail)<;>conv=>whnf)
   refine AI ?_;rw[hw];exact⟨rfl,hs'.less (.cons₂ _ (List.Sublist.append_left (Ku _ _) _))⟩
def Xw (p:Prog) (x:Node):(x.op=5/\Sy x.op= .FO 360 (.a []))\/(x.op≠5/\ ∃m:Int,Sy x.op= .FO 359 (eI m)/\Jt p x=m)\/(Sy x.op= .Dv/\Jt p x= -1):=by
 unfold Sy Jt;by_cases h5:x.op=5
 .exact .inl ⟨h5,by rw[if_pos h5]⟩
 .rw[if_neg h5]
  split
  .exact .inr (.inl ⟨h5,_,rfl,rfl⟩)
  split
  .exact .inr (.inl ⟨h5,_,rfl,rfl⟩)
  split
  .exact .inr (.inl ⟨h5,_,rfl,rfl⟩)
  split
  .exact .inr (.inl ⟨h5,_,rfl,rfl⟩)
  .exact .inr (.inr ⟨rfl,by rw[if_neg (by rintro⟨h,_⟩;exact h5 h)]⟩)
def VE {p:Prog} {x:Node} (h:x.op=5) {size:Int} (hn:Nb p x size=true):0<=x.n/\x.n<p.Cs.length/\Jt p x=p.Cs.getD x.n.toNat 0:=by
 have h2:0<=x.n/\x.n<p.Cs.length:=by
  simp only[Nb,h]at hn;simpa using hn
 refine⟨h2.1,h2.2,?_⟩;unfold Jt;rw[h,if_neg (by decide),if_neg (by decide),if_neg (by decide),if_neg (by decide),if_pos ⟨rfl,h2.1,h2.2⟩]
def kJ {p:Prog} {next:Bool} {n size depth:Int} {s:List Int} (h:n<0\/(p.nodes.length:Int)<=n\/0<=s.getD n.toNat 0\/12<depth):FZ p next n size depth s=none:=by
 unfold FZ;rw[if_pos h]
def kK {p:Prog} {next:Bool} {n size depth:Int} {s:List Int} {y:Int} {x:Node} (h0:0<=n) (h1:n<(p.nodes.length:Int)) (hy:s[n.toNat]? =some y) (hy0:y<0) (hd:depth<=12) (hx:p.nodes[n.toNat]? =some x):FZ p next n size depth s=if EN p next size x then some (s.set n.toNat size)else none:=by
 have e:s.getD n.toNat 0=y:=by rw[C4,hy];rfl
 unfold FZ;rw[if_neg (by rw[e];omega),hx]
def ABM (p:Prog) (nO:Nat) (v:V) (rest:List At) (o:Option (List Int)) (r:R) (Z:AE):Prop:=
 match o with
 | some s=>r= .ret (.t [])/\Sat Z (hOut nO v s++rest)
 | none=>r= .Bj D5/\ ∃s:List Int,s.length=p.nodes.length/\Sat Z (hOut nO v s++rest)
def VP (p:Prog) (next:Bool) {v:V} {nO:Nat} (hv:(B7 v).isSome=true) (n size:Int) (s:List Int) (h0:0<=size) (h1:size<=20) (hl:s.length=p.nodes.length) (rest:List At) (Z:AE) (hs:Sat Z (hOut nO v s++rest)) :
    Au zP 284 [eI n,eI size,.b next,.rp (BG p),.p nO 0] Z (ABM p nO v rest (CX p next 12 n size s)):=by
 refine Au.fit (by kernel_rfl) fun hf=>?_
 have hM:=Mx
 have hfp:FP (.a (BG p)):=by
  have:=hf.2.2.2.1;simp only[VK]at this;simpa only[Hb]using this
 have⟨p1,p2,p3,p4⟩:=Gi hfp;refine wc kZ ?_
 conv=>whnf
 repeat'((first|clear U K|apply st|(apply zk;intro K U)|refine zY ?_|refine Pure.use (mW _ _ _ _) ?_|refine zo fun nn hnn Z hs=>?_|fail)<;>conv=>whnf)
 refine Au.mono (ud p next (L:=nn) (v:=v) (nO:=nO) ?_ n size s h0 h1 hl rest Z hs) ?_
 .refine Oz (fun y=>rfl) ?_
  clear hs hnn hl h0 h1;rintro⟨k,sz,dp⟩ s ⟨d0,d1,d2,d3,hl⟩ rest Z hs;dsimp only at d0 d1 d2 d3 hl;dsimp only;rw[show eaP (k,sz,dp)= [eI k,.a [eI sz,eI dp]] from rfl]
  conv=>whnf
  repeat'((first|apply st|(apply sq;intro K U)|(apply si;intro A B hA hB)|(refine hA _ _ ?_;clear hB B hA A)|(refine hB _ _ _ ?_;clear hB B hA A)|(refine hB _ _ fun Z hsub=>?_;clear hB B hA A)|(apply U;clear U K)|apply dr|refine rk ?_ ?_|exact fun s e=>by cases e;rfl|refine⟨rfl,?_⟩|refine⟨kZ,?_⟩|refine iq fun x hx=>?_|refine ld ?_|refine snb fun Z hs=>?_|refine oi ?_|refine ol fun x hx=>?_|refine oset fun Z hs=>?_|refine cft ?_|refine cff ?_|(refine Cw (fun hc=>?_) (fun hc=>?_)<;>(replace hc:=bp hc)<;>(try simp(disch:=omega) only[B2,wrap64,Ae]at hc)<;>(try(cases hc;done)))|refine Pure.use (dh _ _ _) ?_|refine Pure.use (dx _) ?_|(rcases Xw p (by assumption)with⟨e5,ek⟩|⟨e5,m,ek,hm⟩|⟨ek,hm⟩<;>rw[ek]<;>clear ek)|refine sZ rfl ?_|refine tasN (by decide) ?_|refine kA rfl (Pure.use (AAN _ _ _) ?_)|refine kA rfl (Pure.use (qo _ _ (VE (by assumption) (by assumption)).1 (VE (by assumption) (by assumption)).2.1) ?_)|(constructor<;>intro hc<;>(try rw[hc])<;>(replace hc:=bp hc)<;>(try simp(disch:=omega) only[B2,wrap64,Ae]at hc))|(intro nn hnn;generalize hg:B3 _ nn _=Z;refine alF hg fun hs=>?_;clear hg)|clear U K)<;>conv=>whnf)
  all_goals first
   | (intro hn;refine TK (s:=s) (by rw[kJ (by first|omega|(rw[C4,‹s[k.toNat]? =some _›];simp only[Option.getD_some];omega))];rfl) hl (hs.less (by repeat first|exact List.Sublist.refl _|apply List.Sublist.cons)) hn)
   | skip
  all_goals
   have hva:=kK (next:=next) (size:=sz) (depth:=dp) (show 0<=k by omega) (show k<(p.nodes.length:Int) by omega) ‹s[k.toNat]? =some _› (by assumption) (by omega) ‹p.nodes[k.toNat]? =some _›
   rename Node=>x
   have hk5:x.op=5->Nb p x sz=true->Jt p x=p.Cs.getD x.n.toNat 0:=fun h hn=>(VE h hn).2.2
   intro hn
  all_goals first
   | (rw[if_neg (by first|(intro h;rw[EN,hk5 (by assumption) (by assumption)]at h;simp only[A9,DD]at h;exact absurd h.1 (by assumption))|(simp[EN, *];done)|(simp[EN, *];omega)|(rw[EN,hk5 (by assumption) (by assumption)];simp[*];done)|(simp[EN, *];intros;omega))]at hva
      refine TK (s:=s.set k.toNat sz) (by rw[hva];rfl) (by simpa using hl) ?_ hn
      first
       | exact hs.less (by repeat first|exact List.Sublist.refl _|apply List.Sublist.cons)
       | exact(hs.less (by repeat first|exact List.Sublist.refl _|apply List.Sublist.cons)).up (by assumption))
   | (rw[if_pos (by first|(simp[EN, *];done)|(rw[EN,hk5 (by assumption) (by assumption)];simp[*];done))]at hva
      exact Wv (s:=s.set k.toNat sz) (by rw[hva];rfl) (hs.less (by repeat first|exact List.Sublist.refl _|apply List.Sublist.cons)) hn)
 .cases hw:CX p next 12 n size s with
  | none=>
    rintro r Z' ⟨rfl,s',hj,hs'⟩
    conv=>whnf
    exact DS ⟨rfl,s',hj,hs'⟩
  | some s2=>
    rintro r Z' ⟨rfl,hs'⟩;refine Mo hs' fun Z2 hs2=>?_
    conv=>whnf
    exact AI ⟨rfl,hs2⟩
def DB (w:AH):Prop:=JM w.parents/\w.owner.length<=40/\ ∀o∈w.owner,(3:Int)<=o/\o<3+(w.parents.length:Int)
def UH (us:List Nat) (l:List Int) (s:Nat):Nat:=l.foldl (fun s c=>s|||us.getD c.toNat 0) s
def Bp (g:List (List Int)):Nat->List Nat
 | 0=>[1,3,5]
 | k+1=>Bp g k++[UH (Bp g k) (g.getD k []) (1|||2 ^ (3+k))]
def CJ (g:List (List Int)):List Nat:=Bp g g.length
def nU (us:List Nat):List V:=us.map eU++List.replicate (63 - us.length) (eU 0)
def wC (w:AH) (us:List Nat):List V:=A0 w++nU us
def EG (g:List (List Int)): ∀k,(Bp g k).length=3+k
 | 0=>rfl
 | k+1=>by simp[Bp,EG g k];omega
def iG (w:AH) {us:List Nat} (h:us.length<=63):(wC w us).length=65:=by
 simp only[wC,A0,nU,NW,Ky,List.length_nil,B2,List.length_replicate];omega
def iF (w:AH) (us:List Nat) (s:Nat) (h:us.length<63):(wC w us).set (2+us.length) (eU s)=wC w (us++[s]):=by
 simp only[wC,nU];rw[List.set_append_right _ _ (by simp[A0])];congr 1;have e:2+us.length - (A0 w).length=us.length:=by simp[A0]
 rw[e,List.set_append_right _ _ (by simp)];rw[B2,Nat.sub_self,SN,PD];congr 1;rw[show 63 - us.length=(63 - (us++[s]).length)+1 by simp;omega,List.replicate_succ];rfl
def rJ (w:AH) (us:List Nat) {i:Nat} (h:i<us.length):(wC w us)[2+i]? =some (eU (us.getD i 0)):=by
 simp only[wC,nU];rw[List.getElem?_append_right (by simp[A0]),show 2+i - (A0 w).length=i by simp[A0],cQ (by simpa using h),Je,Cr h,C4,Cr h];rfl
def zB (us:List Nat):Prop:= ∀u∈us,u<18446744073709551616
def UZ {us:List Nat} (h:zB us) (i:Nat):us.getD i 0<18446744073709551616:=by
 rw[C4];cases hx:us[i]? with
 | none=>simp
 | some x=>exact h x (Bo hx)
def Pa {us:List Nat} (h:zB us): ∀(l:List Int) (s:Nat),s<18446744073709551616->UH us l s<18446744073709551616
 | [],_,hs=>hs
 | c::r,s,hs=>Pa h r _ (K3 hs (UZ h _))
def H6 (g:List (List Int)): ∀k,k<=60->zB (Bp g k)
 | 0,_=>by intro u hu;simp[Bp]at hu;omega
 | k+1,hk=>by
   intro u hu;simp only[Bp,Du,KF]at hu;rcases hu with hu|rfl
   .exact H6 g k (by omega) u hu
   .exact Pa (H6 g k (by omega)) _ _ (K3 (by decide) (Ie (by omega)))
def tj (w:AH) (us:List Nat) (c:Int) {n:Nat} (hM:w.parents.length<=60):BT zP 247 [.p n 0,eI c] [.box n (wC w us)] fun r post=>r= .ret (.b (decide (3<=c)&&decide (c<3+(w.parents.length:Int))))/\post= [.box n (wC w us)]:=by
 intro Z hs;have hw:IntKind.i64.wrap (3+((EK w.parents).length:Nat))=3+(w.parents.length:Int):=by rw[B2,wrap64 (by omega) (by omega)]
 refine xL kZ ?_
 conv=>whnf
 repeat'((first|clear U K|apply st|(apply zk;intro K U)|refine zY ?_|refine za (fun hc=>?_) fun hc=>?_|fail)<;>conv=>whnf)
 .refine AI ⟨_,⟨?_,rfl⟩,hs⟩
  rw[hw,decide_eq_true (show 3<=c by omega)];rfl
 .refine AI ⟨_,⟨?_,rfl⟩,hs⟩
  rw[decide_eq_false (show¬3<=c by omega)];rfl
def mL (w:AH) (us:List Nat) (c:Int) (hM:w.parents.length<=60):Pure zP 305 [.rp (wC w us),eI c] (.b (Sf w c)):=by
 have hw:IntKind.i64.wrap (3+((EK w.parents).length:Nat))=3+(w.parents.length:Int):=by rw[B2,wrap64 (by omega) (by omega)]
 refine wL kZ ?_;have hs:=Sn
 conv=>whnf
 repeat'((first|clear U K|apply st|(apply zk;intro K U)|refine zY ?_|refine za (fun hc=>?_) fun hc=>?_|fail)<;>conv=>whnf)
 .refine AF ?_
  rw[hw,Sf,decide_eq_true (show 0<=c by omega)];rfl
 .refine AF ?_
  rw[Sf,decide_eq_false (show¬0<=c by omega)];rfl
def oC (w:AH) (us:List Nat) (c:Int) (hM:w.owner.length<=60):Pure zP 336 [.rp (wC w us),eI c] (.b (JH w c)):=by
 refine vT kZ ?_;have hs:=Sn
 conv=>whnf
 repeat'((first|clear U K|apply st|(apply zk;intro K U)|refine zY ?_|refine za (fun hc=>?_) fun hc=>?_|fail)<;>conv=>whnf)
 .refine AF ?_
  rw[JH,decide_eq_true (show 0<=c by omega),B2];rfl
 .refine AF ?_
  rw[JH,decide_eq_false (show¬0<=c by omega)];rfl
def oZ (w:AH) (us:List Nat) (l:List Int) (f:Bool) (hM:w.owner.length<=60):Pure zP 304 [.rp (wC w us),.l (iL l) f] (.b (FT w l)):=by
 have hall:=qv (g:=336) (fi:=[.rp (wC w us)]) (ca:=[]) (f:=JH w) (xs:=l) f (fun y _=>oC w us y hM);refine wM kZ ?_;have hs:=Sn
 conv=>whnf
 repeat'((first|clear U K|apply st|(apply zk;intro K U)|refine zY ?_|refine zC ?_|(refine zd (fun hc=>?_) (fun hc=>?_)<;>try exact⟨⟩)|fail)<;>conv=>whnf)
 .refine AF ?_
  rw[FT,decide_eq_true (show l.length<=2 by omega),Bool.and_true];rfl
 .refine AF ?_
  rw[FT,decide_eq_false (show¬l.length<=2 by omega),Bool.and_false];rfl
def H5 (s:Nat) (c:Int) (hs0:s<18446744073709551616) (h0:0<=c) (hc:c<64):Pure zP 245 [eU s,eI c] (eU (s|||2 ^ c.toNat)):=by
 have:=aJ s c.toNat hs0 (by omega);rw[Int.toNat_of_nonneg h0]at this;exact this
def up3 {k:Nat} (h:k<3):([1,3,5]:List Nat).take k++[1|||2 ^ k]= [1,3,5].take (k+1):=by
 rcases k with _|_|_|k
 .rfl
 .rfl
 .rfl
 .omega
def om (w : AH) (hw:DB w):Pure zP 174 [.a (A0 w)] (.t [.rp (wC w (CJ w.parents)),.b true]):=by
 obtain⟨⟨hl,hrow⟩,ho,how⟩:=hw;have hM:=Mx;refine Pure.of ?_;refine yC kZ ?_;have hs:=Sn;have hi1:((EK w.parents).length:Int)<=60:=by rw[B2];omega
 have hi2:((iL w.owner).length:Int)<=40:=by rw[B2];omega
 conv=>whnf
 repeat'((first|clear U K|apply st|(apply zk;intro K U)|refine zY ?_|(refine zb (fun hc=>?_) (fun hc=>?_)<;>try exact⟨⟩)|refine zo fun nn hnn Z hs=>?_|fail)<;>conv=>whnf)
 generalize nn=n0 at *;refine Bw 3 (fun k (_:Unit)=>[(24,eI (A6 k))]) (fun k _=>[.box n0 (wC w ([1,3,5].take k))]) (fun k _=>True) () rfl trivial hs ?_;clear hs;rintro k - Z hk - hs;have hck:A6 k=k:=Ae (by omega);have hlen:(([1,3,5]:List Nat).take k).length=k:=by simp;omega
 by_cases hlt:k<3
 .have hst:=iF w ([1,3,5].take k) (1|||2 ^ k) (by omega)
  rw[hlen,up3 hlt]at hst
  conv=>whnf
  repeat'((first|clear U K|apply st|(apply zk;intro K U)|refine zY ?_|refine Pure.use (H5 1 _ (by decide) (by omega) (by omega)) ?_|(refine zb (fun hc=>?_) (fun hc=>?_)<;>try exact⟨⟩)|fail)<;>conv=>whnf)
  refine MV hs 0 rfl rfl (by rw[iG w (by omega)];omega) fun Z hs=>?_
  refine zz ?_;(repeat clear U K);repeat intro K U
  refine⟨hlt,(),rfl,trivial,?_⟩;rw[hck,GB,Nat.mul_one,G8]at hs;simp only[List.set_cons_zero]at hs;rw[hst]at hs;exact hs
 .have hke:k=3:=by omega
  subst hke;clear hk hck hlen hlt
  conv=>whnf
  repeat'((first|clear U K|apply st|(apply zk;intro K U)|refine zY ?_|(refine zb (fun hc=>?_) (fun hc=>?_)<;>try exact⟨⟩)|fail)<;>conv=>whnf)
  refine Bw w.parents.length (fun k (_:Unit)=>[(38,eI (A6 k))]) (fun k _=>[.box n0 (wC w (Bp w.parents k))]) (fun k _=>True) () rfl trivial hs ?_;clear hs;rintro k - Z hk - hs;have hck:A6 k=k:=Ae (by omega);have hul:=EG w.parents k;have huo:=H6 w.parents k (by omega);have hw3:IntKind.i64.wrap (3+(k:Int))=3+(k:Int):=wrap64 (by omega) (by omega);rcases A7 w.parents hk with⟨row,hr,hlt⟩|hke
  .obtain⟨r1,r2,r3⟩:=hrow k row hr
   rw[<-hck]at hw3
   conv=>whnf
   repeat'((first|clear U K|apply st|(apply zk;intro K U)|refine zY ?_|refine Pure.use (H5 1 _ (by decide) (by omega) (by omega)) ?_|fail)<;>conv=>whnf)
   have hbig:zB (Bp w.parents k):=huo;have hst0:IntKind.i64.wrap (3+A6 k)=3+(k:Int):=by rw[hck];exact wrap64 (by omega) (by omega)
   have hs0lt:1|||2 ^ (3+k)<18446744073709551616:=K3 (by decide) (Ie (by omega))
   have hs0e:1|||2 ^ (IntKind.i64.wrap (3+A6 k)).toNat=1|||2 ^ (3+k):=by rw[hst0,show(3+(k:Int)).toNat=3+k by omega]
   rw[hs0e];refine Bw row.length (fun j (s:Nat)=>[(48,eI (A6 j)),(8,eU s)]) (fun _ _=>[.box n0 (wC w (Bp w.parents k))]) (fun j s=>s=UH (Bp w.parents k) (row.take j) (1|||2 ^ (3+k))) (1|||2 ^ (3+k)) rfl rfl hs ?_;clear hs;rintro j s Z hj hse hs;rcases A7 row hj with⟨c,hcj,hjlt⟩|hje
   .obtain⟨q1,q2⟩:=r3 c (Bo hcj)
    have hload:(wC w (Bp w.parents k))[0+2+c.toNat*1]? =some (eU ((Bp w.parents k).getD c.toNat 0)):=by
     have:=rJ w (Bp w.parents k) (i:=c.toNat) (by omega);rw[<-this];congr 1;omega
    have hnc:(row.take j).contains c=false:=by
     rw[<-Bool.not_eq_true,List.contains_iff_mem];intro hm;obtain⟨i,hi,he⟩:=List.mem_iff_getElem.1 hm;have hi':i<j:=by rw[Jd]at hi;omega
     rw[List.getElem_take]at he;have hcj':=(JC.1 hcj).2;exact absurd ((List.getElem_inj r2).1 (he.trans hcj'.symm)) (by omega)
    have hct: ∀b,Pure zP 34 [.l (iL (row.take j)) b,eI c] (.b false):=fun b=>by
     have:=C1 (row.take j) b c
     rwa [hnc]at this
    conv=>whnf
    repeat'((first|clear U K|apply st|(apply zk;intro K U)|refine zY ?_|refine Pure.use (hct _) ?_|(rw[hload])|(refine zb (fun hc=>?_) (fun hc=>?_)<;>try exact⟨⟩)|fail)<;>conv=>whnf)
    refine⟨hjlt,s|||(Bp w.parents k).getD c.toNat 0,?_,?_,hs⟩
    .have hsl:s<18446744073709551616:=by rw[hse];exact Pa huo _ _ hs0lt
     rw[It hsl (UZ huo _)];rfl
    .rw[hse,AO hcj]
     simp only[UH,List.foldl_append];rfl
   .refine zz ?_;(repeat clear U K);repeat intro K U
    refine MV hs 0 rfl rfl (by rw[iG w (by omega),hst0];omega) fun Z hs=>?_
    refine zz ?_;(repeat clear U K);repeat intro K U
    refine⟨hlt,(),rfl,trivial,?_⟩
    have e:Bp w.parents (k+1)=Bp w.parents k++[s]:=by
     rw[hse,Bp,C4,hr,hje,List.take_length];rfl
    have hst:=iF w (Bp w.parents k) s (by omega);rw[e,<-hst];have e2:0+2+(IntKind.i64.wrap (3+A6 k)).toNat*1=2+(Bp w.parents k).length:=by rw[hst0,hul];omega
    rw[e2]at hs;exact hs
  .have hown:=ji 247 [.p n0 0] [] (fun _=>[.box n0 (wC w (Bp w.parents k))]) (WE fun c=>decide (3<=c)&&decide (c<3+(w.parents.length:Int))) (fun _ _=>True) (fun y s _ Z hs=>BN (Au.mono (tj w (Bp w.parents k) y (by omega) Z hs) (by
    rintro r Z' ⟨post,⟨h1,h2⟩,h3⟩;subst h2
    exact⟨h1,h3⟩))) w.owner false () (HZ fun _ _ _=>trivial)
   rw[Ks]at hown
   have hall:(w.owner.all fun c=>decide (3<=c)&&decide (c<3+(w.parents.length:Int)))=true:=by
    rw[EB];intro o hoo;have:=how o hoo;simp only[A9,Cc];exact this
   rw[hall]at hown;refine zz ?_;(repeat clear U K);repeat intro K U
   refine hown.use (rest:=[]) hs ?_;rintro r post Z ⟨rfl,rfl⟩ hs;refine zz ?_;(repeat clear U K);repeat intro K U
   rw[hke]at hs;exact HN (Z2:=emp) (fun n o ho=>by cases ho) (.t (.cons (hs.s9 0 rfl (.refl _ _ _)) (.cons (.refl _) .nil))) rfl
def Nq (w:AH) (f:Fact):Bool:=decide (0<=f.arg)&&(decide (f.arg<3)&&(FT w f.path&&(if f.op=2 then f.n==0&&Sf w f.cls else f.cls==0&&(decide (-1000000000<=f.n)&&decide (f.n<=1000000000)))))
def Ev (w:AH) (f:Fact):Int->Int->Bool×Int:=f.Hu fun f l left deep=>
 if IntKind.i64.wrap (left - 1)<0\/deep=0\/f.op<1\/7<f.op\/f.kids.length≠Ch f.op then(false,IntKind.i64.wrap (left - 1))else
 if CI f then(Nq w f,IntKind.i64.wrap (left - 1))else
 if f.arg≠0\/0<f.path.length\/f.cls≠0\/f.n≠0 then(false,IntKind.i64.wrap (left - 1))else
 CQ (fun(k:Int->Int->Bool×Int) s=>k s (deep - 1)) l (IntKind.i64.wrap (left - 1))
def NA {α β S:Type} (g:α->β) (stp:β->S->Bool×S): ∀(l:List α) (s:S),CQ stp (l.map g) s=CQ (fun a s=>stp (g a) s) l s
 | [],_=>rfl
 | a::r,s=>by simp only[E3,CQ,NA g stp r]
def H8 (w:AH) (f:Fact) (left deep:Int):Ev w f left deep =
    if IntKind.i64.wrap (left - 1)<0\/deep=0\/f.op<1\/7<f.op\/f.kids.length≠Ch f.op then(false,IntKind.i64.wrap (left - 1))else
    if CI f then(Nq w f,IntKind.i64.wrap (left - 1))else
    if f.arg≠0\/0<f.path.length\/f.cls≠0\/f.n≠0 then(false,IntKind.i64.wrap (left - 1))else
    CQ (fun k s=>Ev w k s (deep - 1)) f.kids (IntKind.i64.wrap (left - 1)):=by
 rw[Ev,Fact.Ds,NA];rfl
def Z3 {w:AH} {f:Fact} {left deep L1:Int} {b:Bool} {nL:Nat} {Z:AE} (hs:Sat Z [.box nL [eI L1]]) (h:Ev w f left deep=(b,L1)):Am Z (.b b) fun r Z'=> ∃post:List At,(r=R.ret (.b (Ev w f left deep).1)/\post= [.box nL [eI (Ev w f left deep).2]])/\Sat Z' post:=by
 rw[h];exact AI ⟨_,⟨rfl,rfl⟩,hs⟩
def oy (w:AH) (us:List Nat) (hw1:w.parents.length<=60) (hw2:w.owner.length<=60) (nL:Nat) (f:Fact): ∀(left deep:Int),0<=deep->deep<=12->
    BT zP 250 [.rp (wC w us),.a (xF f),.p nL 0,eI deep] [.box nL [eI left]] fun r post=>r= .ret (.b (Ev w f left deep).1)/\post= [.box nL [eI (Ev w f left deep).2]]:=by
 induction f using Fact.ind with
 | h f ih=>
   intro left deep hd0 hd1 Z hs;refine Au.fit (by kernel_rfl) fun hf=>?_
   have⟨h2,h3,h4⟩:=K8 hf.2.1;have hM:=Mx;have hdw:IntKind.i64.wrap (deep - 1)=deep - 1:=wrap64 (by omega) (by omega);refine xI kZ ?_
   have hstep:DG zP (.f (.func 306) [] [.rp [.rp (wC w us)],.rp [.p nL 0],.rp [eI deep]]) (fun y=> .a (xF y)) (fun s=>[.box nL [eI s]]) (fun k s=>Ev w k s (deep - 1)) (fun y _=>y∈f.kids/\deep≠0):=by
    rintro y s ⟨hy,hdn⟩ Z hs;refine BN ?_;show Au zP 306 ([]++[.a (xF y)]++[.rp [.rp (wC w us)],.rp [.p nL 0],.rp [eI deep]]) Z _;refine wK kZ ?_;refine zz ?_;(repeat clear U K);repeat intro K U
    rw[hdw];refine(ih y hy s (deep - 1) (by omega) (by omega)).use (rest:=[]) hs ?_;rintro r post Z ⟨rfl,rfl⟩ hs;refine zz ?_;(repeat clear U K);repeat intro K U
    exact AI ⟨rfl,hs⟩
   conv=>whnf
   repeat'((first|clear U K|apply st|(apply zk;intro K U)|refine zY ?_|refine rk ?_ ?_|exact fun s e=>by cases e;rfl|refine zs fun Z hs=>?_|refine Pure.use (VA _) ?_|refine Pure.use (pO _) ?_|refine Pure.use (mL w us _ hw1) ?_|refine Pure.use (oZ w us _ _ hw2) ?_|(refine zd (fun hc=>?_) (fun hc=>?_)<;>try exact⟨⟩)|fail)<;>conv=>whnf)
   all_goals first
    | (refine Z3 hs ?_;rw[H8,if_pos (by omega)];done)
    | (refine Z3 hs ?_;rw[H8,if_neg (by omega),if_pos (by assumption)];simp[Nq, *];done)
    | (refine Z3 hs ?_;rw[H8,if_neg (by omega),if_pos (by assumption)];simp[Nq, *];intros;omega)
    | (refine Z3 hs ?_;rw[H8,if_neg (by omega),if_neg (by simp[*]),if_pos (by omega)];done)
    | skip
   refine(jh 306 [] _ _ _ _ hstep f.kids false (IntKind.i64.wrap (left - 1)) h2 (HZ fun y hy _=>⟨hy,by omega⟩)).use (rest:=[]) hs ?_;have hE:=H8 w f left deep;rw[if_neg (by omega),if_neg (by simp[*]),if_neg (by omega)]at hE;rw[<-hE];rintro r post Z ⟨rfl,rfl⟩ hs;refine zz ?_;(repeat clear U K);repeat intro K U
   exact AI ⟨_,⟨rfl,rfl⟩,hs⟩
def MG (w:AH) (f:Fact):Bool:=(Ev w f 24 12).1
def eT (w:AH) (us:List Nat) (hw1:w.parents.length<=60) (hw2:w.owner.length<=60) (f:Fact):Pure zP 249 [.a (xF f),.rp [.rp (wC w us)]] (.b (MG w f)):=by
 refine Pure.of ?_;refine xJ kZ ?_;have hs:=Sn
 conv=>whnf
 repeat'((first|clear U K|apply st|(apply zk;intro K U)|refine zY ?_|refine zs fun Z hs=>?_|refine zo fun nn hnn Z hs=>?_|fail)<;>conv=>whnf)
 refine(oy w us hw1 hw2 _ f 24 12 (by omega) (by omega)).use (rest:=[]) hs ?_;rintro r post Z ⟨rfl,rfl⟩ hs;refine zz ?_;(repeat clear U K);repeat intro K U
 exact AI rfl
def qu {g:FuncId} {fi ca:List V} {f:Fact->Bool} {xs:List Fact} (b:Bool) (hl:xs.length<=AZ) (h: ∀y∈xs,Pure zP g (fi++[.a (xF y)]++ca) (.b (f y))):Pure zP 248 [.l (facts xs) b,.f (.func g) fi ca] (.b (xs.all f)):=by
 have:=jh g fi ca (fun _=>[]) (fun y (_:Unit)=>(f y,())) (fun y _=>y∈xs) (fun y s hy Z hs=>BN (Au.mono ((h y hy).use (k:=fun v Z'=>v= .b (f y)/\Sat Z' []) (kp:=fun _ _=>False) ⟨rfl,Sat.nil⟩) (by
  rintro(v|v) Z' hq
  .obtain⟨rfl,h⟩:=hq
   exact⟨rfl,h⟩
  .exact hq.elim))) xs b () hl (HZ fun y hy _=>hy)
 rw[Ks]at this;exact Pure.of (Au.mono (this emp Sat.nil) fun r Z' ⟨post,⟨h1,h2⟩,h3⟩=>h1)
def eW (w:AH) (us:List Nat) (hw1:w.parents.length<=60) (hw2:w.owner.length<=60) (l:List Fact) (b:Bool) (hl:l.length<=60):Pure zP 175 [.rp (wC w us),.l (facts l) b] (.b (l.all (MG w))):=by
 have hall:=qu (g:=249) (fi:=[]) (ca:=[.rp [.rp (wC w us)]]) (f:=MG w) (xs:=l) b (by simp only[AZ];omega) fun y _=>eT w us hw1 hw2 y
 refine yB kZ ?_;have hs:=Sn;exact zW
def aX (w:AH) (hw:DB w) (l:List Fact) (b:Bool) (hl:l.length<=60):Pure zP 118 [.a (A0 w),.l (facts l) b] (.t [.rp (wC w (CJ w.parents)),.b (l.all (MG w))]):=by
 have hfo:=eW w (CJ w.parents) (by have:=hw.1.1;omega) (by have:=hw.2.1;omega) l b hl;refine yf kZ ?_;have hs:=Sn
 conv=>whnf
 repeat'((first|clear U K|apply st|(apply zk;intro K U)|refine zY ?_|refine Pure.use (om w hw) ?_|refine hfo.use ?_|fail)<;>conv=>whnf)
 all_goals exact AF rfl
def fZ (w:AH) (hw:DB w) (f:Fact):Pure zP 146 [.a (A0 w),.a (xF f)] (eI (if MG w f then 0 else 2)):=by
 have hfo: ∀b,Pure zP 118 [.a (A0 w),.l [FY f] b] (.t [.rp (wC w (CJ w.parents)),.b (MG w f)]):=fun b=>by
  have:=aX w hw [f] b (by simp);simpa using this
 refine yO kZ ?_;have hs:=Sn;refine zz ?_;(repeat clear U K);repeat intro K U
 rw[Bg]at hfo;refine(hfo _).use ?_
 conv=>whnf
 repeat'((first|clear U K|apply st|(apply zk;intro K U)|refine Pure.use (ZA _) ?_|fail)<;>conv=>whnf)
 exact AF rfl
end Go.Gl
namespace Go.Gl
def NH {most:Int}: ∀(l:List Fact) (n:Int),(∀k∈l,∀m:Int,(NU k:Int)<=m->Cg k m=NU k)->n+(l.map NU).sum<=most->Dk (l.map Cg) n most=n+(l.map NU).sum
 | [],n,_,_=>by simp[Dk]
 | k::r,n,h,h1=>by
   simp only[E3,List.sum_cons,Dk]at *;rw[if_pos (by omega),h k (.head _) (most - n) (by omega),NH r _ (fun k' hk'=>h k' (.tail _ hk')) (by omega)];omega
def VW (f:Fact): ∀m:Int,(NU f:Int)<=m->Cg f m=NU f:=by
 induction f using Fact.ind with
 | h f ih=>
   intro m hm;rw[Kj];rw[La]at *;rw[NH f.kids 1 ih (by omega)];omega
def dj (f:Fact) {m:Int} (h0:0<=m):Cg f m<=m↔(NU f:Int)<=m:=
 ⟨fun h=>by rw[<-Ln f m h0 h];exact h,fun h=>by rw[VW f m h];exact h⟩
def qb (f:Fact):1<=NU f:=by rw[La];omega
def G0 {m:Int}: ∀(l:List Int) (a:Int),l.foldl Kx a<=m↔a<=m/\ ∀x∈l,x<=m
 | [],a=>by simp
 | x ::r,a=>by
   rw[List.foldl_cons,G0 r];unfold Kx;constructor
   .rintro⟨h1,h2⟩
    refine⟨by split at h1<;>omega,fun y hy=>?_⟩;rcases GR.1 hy with rfl|hy
    .split at h1<;>omega
    .exact h2 y hy
   .rintro⟨h1,h2⟩
    have hx:=h2 x (.head _);exact⟨by split<;>omega,fun y hy=>h2 y (.tail _ hy)⟩
def mF (f:Fact) {m:Int}:ES f<=m↔1<=m/\ ∀k∈f.kids,ES k<=m - 1:=by
 rw[IQ];constructor
 .intro h
  have:=(G0 (m:=m - 1) (f.kids.map ES) 0).1 (by omega);exact⟨by omega,fun k hk=>this.2 _ (List.mem_map_of_mem hk)⟩
 .rintro⟨h1,h2⟩
  have:=(G0 (m:=m - 1) (f.kids.map ES) 0).2 ⟨by omega,fun x hx=>by
   obtain⟨k,hk,rfl⟩:=IX.1 hx
   exact h2 k hk⟩
  omega
def gm (w:AH) (f:Fact) (left deep:Int):Prop:=(NU f:Int)<=left/\ES f<=deep/\Bb w f=true
def T6 (w:AH) {deep:Int}: ∀(l:List Fact) (left:Int),0<=left->left<=24->(∀k∈l,∀left:Int,0<=left->left<=24->((Ev w k left deep).1=true↔gm w k left deep)/\((Ev w k left deep).1=true->(Ev w k left deep).2=left - NU k))->
    ((CQ (fun k s=>Ev w k s deep) l left).1=true↔((l.map NU).sum:Int)<=left/\ ∀k∈l,ES k<=deep/\Bb w k=true)/\((CQ (fun k s=>Ev w k s deep) l left).1=true->(CQ (fun k s=>Ev w k s deep) l left).2=left - ((l.map NU).sum:Nat))
 | [],left,h0,h1,_=>by simp[CQ];exact h0
 | k ::r,left,h0,h1,h=>by
   obtain⟨ha,hb⟩:=h k (.head _) left h0 h1;simp only[CQ,E3,List.sum_cons];cases hk:(Ev w k left deep).1
   .simp only[L2,if_false,false_iff,false_implies,and_true]
    rintro⟨h2,h3⟩;have:=ha.2 ⟨by omega,(h3 k (.head _)).1,(h3 k (.head _)).2⟩;rw[hk]at this;cases this
   .obtain⟨g1,g2,g3⟩:=ha.1 hk
    have hc:=qb k;rw[if_pos rfl,hb hk];obtain⟨i1,i2⟩:=T6 w r (left - NU k) (by omega) (by omega) fun k' hk'=>h k' (.tail _ hk')
    refine⟨i1.trans ⟨fun⟨e1,e2⟩=>⟨by omega,fun x hx=>?_⟩,fun⟨e1,e2⟩=>⟨by omega,fun x hx=>e2 x (.tail _ hx)⟩⟩,fun h=>by rw[i2 h];omega⟩;rcases GR.1 hx with rfl|hx
    .exact⟨g2,g3⟩
    .exact e2 x hx
def ox (w : AH) (f:Fact): ∀left deep:Int,0<=left->left<=24->0<=deep->((Ev w f left deep).1=true↔gm w f left deep)/\((Ev w f left deep).1=true->(Ev w f left deep).2=left - NU f):=by
 induction f using Fact.ind with
 | h f ih=>
   intro left deep h0 h1 hd;have hw:IntKind.i64.wrap (left - 1)=left - 1:=wrap64 (by omega) (by omega);rw[H8,hw];have hc:=La f;have hn:=CM w f;have hdl:=mF f (m:=deep)
   have hko:DE w f=true->f.kids.length=Ch f.op:=fun h=>by
    simp only[DE,A9,DD]at h;exact h.2.1
   have hop:DE w f=true->1<=f.op/\f.op<=7:=fun h=>by
    simp only[DE,A9]at h;have h1:=h.1;unfold YF at h1;split at h1
    .omega
    split at h1
    .omega
    simp at h1;omega
   by_cases hbad:left - 1<0\/deep=0\/f.op<1\/7<f.op\/f.kids.length≠Ch f.op
   .rw[if_pos hbad]
    simp only[L2,false_iff,false_implies,and_true];rintro⟨g1,g2,g3⟩;rw[hn,A9]at g3;have g4:=hko g3.1;have g5:=hop g3.1;have g6:=(hdl.1 g2).1;omega
   rw[if_neg hbad];by_cases hl:CI f=true
   .rw [if_pos hl]
    have hl':f.op=2\/f.op=3\/f.op=4:=by
     simp only[CI,Fm,DD]at hl;omega
    have hk0:f.kids= []:=by
     have:f.kids.length=Ch f.op:=by omega
     rw[Ch,if_neg (by omega),if_neg (by omega)]at this;exact YE.1 this
    have hd1:ES f=1:=by rw[IQ,hk0];rfl
    have hc1:NU f=1:=by rw[hc,hk0];rfl
    have hh:DE w f=Nq w f:=by
     unfold DE YF Nq;rw[hl,hk0];have e:Ch f.op=0:=by rw[Ch,if_neg (by omega),if_neg (by omega)]
     rw[e];simp only[List.length_nil,beq_self_eq_true,EA,Bool.true_or,Bool.and_true];rcases hl' with e|e|e
     .rw[if_pos e,if_pos e]
      cases(f.n==0&&Sf w f.cls)<;>simp
     .rw[if_neg (show¬f.op=2 by omega),if_neg (show¬f.op=2 by omega),if_pos (show f.op=3\/f.op=4 from .inl e)]
      cases(f.cls==0&&(decide (-1000000000<=f.n)&&decide (f.n<=1000000000)))<;>simp
     .rw[if_neg (show¬f.op=2 by omega),if_neg (show¬f.op=2 by omega),if_pos (show f.op=3\/f.op=4 from .inr e)]
      cases(f.cls==0&&(decide (-1000000000<=f.n)&&decide (f.n<=1000000000)))<;>simp
    refine⟨⟨fun h=>⟨by omega,by omega,?_⟩,fun⟨_,_,h⟩=>?_⟩,fun _=>by dsimp only;omega⟩
    .rw[hn,hk0,hh];simpa using h
    .rw[hn,hk0,hh]at h;simpa using h
   .have hl':f.op=1\/f.op=5\/f.op=6\/f.op=7:=by
     simp only[CI,Fm,DD]at hl;omega
    have hlf:CI f=false:=by simpa using hl
    rw[if_neg hl];by_cases hz:f.arg≠0\/0<f.path.length\/f.cls≠0\/f.n≠0
    .rw[if_pos hz]
     simp only[L2,false_iff,false_implies,and_true];rintro⟨g1,g2,g3⟩;rw[hn,A9]at g3;have g4:=g3.1;simp only[DE,hlf,Bool.false_or,A9,DD]at g4;omega
    .rw [if_neg hz]
     obtain⟨i1,i2⟩:=T6 w (deep:=deep - 1) f.kids (left - 1) (by omega) (by omega) fun k hk left hl0 hl1=>ih k hk left (deep - 1) hl0 hl1 (by omega)
     have hh:DE w f=true:=by
      have hp:f.path= []:=YE.1 (by omega)
      have e1:YF w f=true:=by
       unfold YF;rw[if_neg (by omega),if_neg (by omega)];simp only[Fm,DD];omega
      have z1:f.arg=0:=by omega
      have z2:f.cls=0:=by omega
      have z3:f.n=0:=by omega
      have z4:f.kids.length=Ch f.op:=by omega
      simp[DE,e1,hlf,hp,z1,z2,z3,z4,FT]
     refine⟨i1.trans ⟨fun⟨e1,e2⟩=>⟨by omega,hdl.2 ⟨by omega,fun k hk=>(e2 k hk).1⟩,?_⟩,fun⟨g1,g2,g3⟩=>⟨by omega,fun k hk=>⟨(hdl.1 g2).2 k hk,?_⟩⟩⟩,fun h=>by rw[i2 h];omega⟩
     .rw[hn,hh,EA,EB]
      exact fun k hk=>(e2 k hk).2
     .rw[hn,hh,EA,EB]at g3
      exact g3 k hk
def bT (w:AH) (f:Fact):MG w f=DM w f:=by
 have:=(ox w f 24 12 (by omega) (by omega) (by omega)).1;rw[MG,DM,IZ,this,gm];simp only[A9,Cc];rw[dj f (by omega)]
end Go.Gl
namespace Go.Gl
open Go.Proofs
attribute [local irreducible] Au Am Ab AR AK AY AQ AS AJ AX AN AP Ao Az Sat AU Ax Ad W
def M3 {p:Prog} (h:BC p=true):DB (AL p)/\Bq p.AM<=40/\p.AM.length<=10:=by
 have h1:=h;rw[R9]at h1;simp only[A9,Cc]at h1;have h2:=h;simp only[BC,A9,Cc]at h2;have hm:=(Fe _ _ h2.2.1).1;refine⟨⟨D7 h1.2.2.2.1,?_,fun o ho=>?_⟩,by omega,h1.1⟩
 .rw[AL,Cj];omega
 .have:=GY ho
  simp only[AL,A3,B2];omega
def mu (s:List Int):Prop:= ∀x∈s,(-1:Int)<=x
def pj {s:List Int} (h:mu s) (i:Nat) {x:Int} (hx:0<=x):mu (s.set i x):=fun y hy=>by
 rcases List.mem_or_eq_of_mem_set hy with hy|rfl
 .exact h y hy
 .omega
def W8 {f:Int->Int->List Int->Option (List Int)} (hf: ∀ {a b s s'},0<=b->f a b s=some s'->mu s->mu s') {op size:Int} (h0:0<=size): ∀(i:Nat) (l:List Int) {s s':List Int},F0 f op size i l s=some s'->mu s->mu s'
 | _,[],s,s',h,hs=>by cases h;exact hs
 | i,k::r,s,s',h,hs=>by
   simp only[F0]at h;split at h
   .cases h
   .rename_i s1 h1
    refine W8 hf h0 (i+1) r h (hf ?_ h1 hs);split<;>omega
def Mg {p:Prog} {next:Bool}: ∀(d:Nat) {n size:Int} {s s':List Int},0<=size->CX p next d n size s=some s'->mu s->mu s'
 | 0,_,_,_,_,_,h,_=>by cases h
 | d + 1,n,size,s,s',h0,h,hs=>by
   simp only[CX]at h;split at h
   .cases h
   .split at h
    .cases h
    .split at h
     .exact W8 (fun hb h hs=>Mg d hb h hs) h0 0 _ h (pj hs _ h0)
     .cases h
def po {s:List Int} (h:mu s):(s.all fun n=>decide (0<=n))= !s.contains (-1):=by
 rw[IZ];simp only[EB,Cc,Bool.not_eq_true',<-Bool.not_eq_true,List.contains_iff_mem];constructor
 .intro h1 h2
  have:=h1 _ h2;omega
 .intro h1 x hx
  have:=h x hx;rcases Int.lt_or_le x 0 with hlt|hle
  .exact absurd ((show x= -1 by omega) ▸ hx) h1
  .exact hle
def y7 (p:Prog) (nO:Nat) (r:R) (Z:AE):Prop:=
 match BY p with
 | some s=>r= .ret (.t [])/\ ∃v,Sat Z [.box nO [v],.own v 1 (iL s)]
 | none=>r= .Bj D5/\ ∃v s,Sat Z [.box nO [v],.own v 1 (iL s)]
def cR {p:Prog} {nO:Nat} {Z:AE} {v:V} {s:List Int} {l:List At} (h:BY p=none) (hs:Sat Z l) (hsub: [At.box nO [v],.own v 1 (iL s)].Sublist l):Ab Z D5 (y7 p nO):=DS (by
 rw[y7,h]
 exact⟨rfl,v,s,hs.less hsub⟩)
def szT {p:Prog} {nO:Nat} {Z:AE} {v:V} {s:List Int} {l:List At} (h:BY p=some s) (hs:Sat Z l) (hsub: [At.box nO [v],.own v 1 (iL s)].Sublist l):Am Z (.t []) (y7 p nO):=AI (by
 rw[y7,h]
 exact⟨rfl,v,hs.less hsub⟩)
def Uc {p:Prog} (h:DA p=false):BY p=none:=by unfold BY;rw[h];rfl
def qn {w:AH} {f:Fact} (h:DM w f=true):S2 f=true:=Rj (w:=w) f (by simp only[DM,A9]at h;exact h.2.2)
def ZY {w:AH} (hw:DB w) (f:Fact):Pure zP 146 [.a (A0 w),.a (xF f)] (eI (if DM w f then 0 else 2)):=by
 rw[<-bT];exact fZ w hw f
def de {α:Type} (a b c:α): [a,b,c].Perm [c,b,a]:=by simpa using(List.reverse_perm [a,b,c]).symm
def kY (p : Prog) (nO:Nat) (Z:AE) (hs:Sat Z [.box nO [.l [] true]]):Au zP 281 [.rp (BG p),.p nO 0] Z (y7 p nO):=by
 refine Au.fit (by kernel_rfl) fun hf=>?_
 have hM:=Mx
 have hfp:FP (.a (BG p)):=by
  have:=hf.1;simp only[VK]at this;simpa only[Hb]using this
 have⟨p1,p2,p3,p4⟩:=Gi hfp;refine wg kZ ?_;have hcl:=Zp p;replace hs:Sat Z [.box nO [.l [] true],.own (.l [] true) 1 (iL [])]:=Dw hs 1;cases hcB:BC p with
 | false=>
   rw[hcB]at hcl
   conv=>whnf
   repeat'((first|apply st|(apply sq;intro K U)|(apply si;intro A B hA hB)|refine⟨kZ,?_⟩|fail)<;>conv=>whnf)
   refine hcl.use (pre:=[]) (rest:=[.box nO [.l [] true],.own (.l [] true) 1 (iL [])]) hs ?_;rintro r post Z ⟨rfl,rfl⟩ hs
   conv=>whnf
   repeat'((first|(refine hB _ _ _ ?_;clear hB B hA A)|clear U K)<;>conv=>whnf)
   exact cR (Uc (by simp[DA,hcB])) hs (.refl _)
 | true=>
   rw[hcB]at hcl;obtain⟨hgW,hmS,h10⟩:=M3 hcB
   conv=>whnf
   repeat'((first|apply st|(apply sq;intro K U)|(apply si;intro A B hA hB)|refine⟨kZ,?_⟩|fail)<;>conv=>whnf)
   refine hcl.use (pre:=[]) (rest:=[.box nO [.l [] true],.own (.l [] true) 1 (iL [])]) hs ?_;clear hs;rintro r post Z ⟨rfl,rfl⟩ hs
   conv=>whnf
   repeat'((first|apply st|(apply sq;intro K U)|(apply si;intro A B hA hB)|(refine hA _ _ ?_;clear hB B hA A)|(refine hB _ _ _ ?_;clear hB B hA A)|(apply U;clear U K)|refine⟨rfl,?_⟩|(refine Cw (fun hc=>?_) (fun hc=>?_)<;>(replace hc:=bp hc)<;>(try simp(disch:=omega) only[B2,wrap64,Ae]at hc)<;>(try(cases hc;done)))|(constructor<;>intro hc<;>(try rw[hc])<;>(replace hc:=bp hc)<;>(try simp(disch:=omega) only[B2,wrap64,Ae]at hc))|clear U K)<;>conv=>whnf)
   rotate_left
   all_goals first
    | exact cR (Uc (by simp[DA, *];intros;omega)) hs (.refl _)
    | skip
   have a1:p.Cs.length<=8:=by omega
   have a2:p.methods.length<=16:=by omega
   have a3:1<=p.nodes.length:=by omega
   have a4:p.nodes.length<=120:=by omega
   have hg:DA p=p.Cs.all fun g=>decide (1<=g)&&decide (g<=3):=by
    simp only[DA,a1,a2,a3,a4,decide_true,EA];simp[*]
   refine Bw p.Cs.length (fun k (_:Unit)=>[(36,eI (A6 k))]) (fun _ _=>[.box nO [.l [] true],.own (.l [] true) 1 (iL [])]) (fun k _=>DA p=(p.Cs.drop k).all fun g=>decide (1<=g)&&decide (g<=3)) () rfl (by simpa using hg) hs ?_;clear hs hg;rintro k - Z hk hn hs;rcases A7 p.Cs hk with⟨g,hgk,hlt⟩|hke
   .rw[drop_cons hgk,KE]at hn
    conv=>whnf
    repeat'((first|apply st|(apply sq;intro K U)|(apply si;intro A B hA hB)|(refine hA _ _ ?_;clear hB B hA A)|(refine hB _ _ _ ?_;clear hB B hA A)|(apply U;clear U K)|refine⟨rfl,?_⟩|refine ix ?_|(refine zG (fun hc=>?_)<;>(try rw[hc])<;>clear hc)|(refine Cw (fun hc=>?_) (fun hc=>?_)<;>(replace hc:=bp hc)<;>(try simp(disch:=omega) only[B2,wrap64,Ae]at hc)<;>(try(cases hc;done)))|(constructor<;>intro hc<;>(try rw[hc])<;>(replace hc:=bp hc))|clear U K)<;>conv=>whnf)
    .exact⟨hlt,(),rfl,by rw[hn];simp[*],hs⟩
    .exact cR (Uc (by rw[hn,decide_eq_false (show¬g<=3 by omega)];simp)) hs (.refl _)
    .exact cR (Uc (by rw[hn,decide_eq_false (show¬1<=g by omega)];simp)) hs (.refl _)
   .have hh : DA p=true:=by rw[hn,Ai hke];rfl
    have hL:=bB hh;clear hn
    conv=>whnf
    repeat'((first|apply st|(apply sq;intro K U)|(apply si;intro A B hA hB)|(refine hA _ _ ?_;clear hB B hA A)|(apply U;clear U K)|refine⟨rfl,?_⟩|(refine fcn (fun hc=>?_)<;>(try rw[hc])<;>clear hc)|clear U K)<;>conv=>whnf)
    rw[B2];refine(dW p.nodes.length a3 a4).use (pre:=[]) (rest:=[.box nO [.l [] true],.own (.l [] true) 1 (iL [])]) hs ?_;clear hs;rintro r post Z ⟨v,rfl,rfl,hv⟩ hs
    conv=>whnf
    repeat'((first|apply st|(apply sq;intro K U)|(apply si;intro A B hA hB)|(refine hA _ _ ?_;clear hB B hA A)|(apply U;clear U K)|refine⟨kZ,?_⟩|refine s1b fun Z hs=>?_|refine snb fun Z hs=>?_|refine Pure.use (Wa p (by omega) (by omega)) ?_|(intro nn hnn;generalize hg:B3 _ nn _=Z;refine alF hg fun hs=>?_;clear hg)|fail)<;>conv=>whnf)
    rename_i nw hnw _ hs;generalize nn=n5 at *;replace hs:=hs.less (show [At.box n5 (A0 (AL p)),.own v 1 (iL (List.replicate p.nodes.length (-1))),.box nO [v]].Sublist _ from .cons₂ _ (.cons₂ _ (.cons₂ _ (.cons _ .slnil))));refine Bw p.methods.length (fun k (s:List Int)=>[(59,eI (A6 k))]) (fun _ s=>[.box nO [v],.own v 1 (iL s),.box n5 (A0 (AL p))]) (fun k s=>s.length=p.nodes.length/\mu s/\BY p=K6 p (runM p (p.methods.drop k) s)) (List.replicate p.nodes.length (-1)) rfl ⟨by simp,fun x hx=>by rw[List.eq_of_mem_replicate hx];omega,hL⟩ (hs.perm (de _ _ _)) ?_;clear hs hnw hnn;rintro k s Z hk ⟨hl,hge,hn⟩ hs;rcases A7 p.methods hk with⟨m,hm,hlt⟩|hke
    .have hF:=ZY hgW m.fact
     cases hfB:DM (AL p) m.fact with
     | false=>
       rw[hfB,if_neg Bool.false_ne_true]at hF;have hno:=Df hm hn (by simp[P4,hfB])
       conv=>whnf
       repeat'((first|apply st|(apply sq;intro K U)|(apply si;intro A B hA hB)|(refine hA _ _ ?_;clear hB B hA A)|(refine hB _ _ _ ?_;clear hB B hA A)|(refine hB _ _ fun Z hsub=>?_;clear hB B hA A)|(apply U;clear U K)|apply dr|refine rk ?_ ?_|exact fun s e=>by cases e;rfl|refine⟨rfl,?_⟩|refine⟨kZ,?_⟩|refine ix ?_|refine ld ?_|refine snb fun Z hs=>?_|(refine zG (fun hc=>?_)<;>(try rw[hc])<;>clear hc)|(refine Cw (fun hc=>?_) (fun hc=>?_)<;>(replace hc:=bp hc)<;>(try simp(disch:=omega) only[B2,wrap64,Ae]at hc)<;>(try(cases hc;done)))|refine hF.use ?_|(constructor<;>intro hc<;>(try rw[hc])<;>(replace hc:=bp hc)<;>try(exfalso;omega))|(intro nn hnn;generalize hg:B3 _ nn _=Z;refine alF hg fun hs=>?_;clear hg)|clear U K)<;>conv=>whnf)
       all_goals first
        | (refine cR (v:=v) (s:=s) hno hs ?_;(repeat first|exact JW _|apply List.Sublist.cons₂|apply List.Sublist.cons);done)
        | (refine cR (v:=v) (s:=s) hno (hs.up (by assumption)) ?_;(repeat first|exact JW _|apply List.Sublist.cons₂|apply List.Sublist.cons);done)
        | skip
     | true=>
       rw[hfB,if_pos rfl]at hF;have hsp:=dN _ (qn hfB)
       conv=>whnf
       repeat'((first|apply st|(apply sq;intro K U)|(apply si;intro A B hA hB)|(refine hA _ _ ?_;clear hB B hA A)|(refine hB _ _ _ ?_;clear hB B hA A)|(refine hB _ _ fun Z hsub=>?_;clear hB B hA A)|(apply U;clear U K)|apply dr|refine rk ?_ ?_|exact fun s e=>by cases e;rfl|refine⟨rfl,?_⟩|refine⟨kZ,?_⟩|refine ix ?_|refine iqk ?_|refine iq fun x hx=>?_|refine ld ?_|refine snb fun Z hs=>?_|(refine zG (fun hc=>?_)<;>(try rw[hc])<;>clear hc)|(refine Cw (fun hc=>?_) (fun hc=>?_)<;>(replace hc:=bp hc)<;>(try simp(disch:=omega) only[B2,wrap64,Ae]at hc)<;>(try(cases hc;done)))|refine hF.use ?_|refine hsp.use ?_|(constructor<;>intro hc<;>(try rw[hc])<;>(replace hc:=bp hc)<;>(try simp(disch:=omega) only[B2,wrap64,Ae]at hc)<;>try(exfalso;omega))|(intro nn hnn;generalize hg:B3 _ nn _=Z;refine alF hg fun hs=>?_;clear hg)|clear U K)<;>conv=>whnf)
       all_goals first
        | (refine cR (v:=v) (s:=s) (Df hm hn ?_) hs ?_;(simp[P4, *];intros;omega);(repeat first|exact JW _|apply List.Sublist.cons₂|apply List.Sublist.cons);done)
        | (refine cR (v:=v) (s:=s) (Df hm hn ?_) (hs.up (by assumption)) ?_;(simp[P4, *];intros;omega);(repeat first|exact JW _|apply List.Sublist.cons₂|apply List.Sublist.cons);done)
        | skip
       rotate_left 2
       .refine cR (v:=v) (s:=s) (Df hm hn ?_) (hs.up (by assumption)) ?_
        .simp only[P4,show p.Cs.getD m.gen.toNat 0=x by rw[C4,hx];rfl,decide_eq_false (show¬Gk m.fact<=x by omega),Bool.and_false]
        .repeat first|exact JW _|apply List.Sublist.cons₂|apply List.Sublist.cons
       all_goals
        have hx13:=Tf hh hx;have hgd:p.Cs.getD m.gen.toNat 0=x:=by rw[C4,hx];rfl
        have hok:P4 p m=true:=by simp only[P4,hgd,A9,Cc];exact⟨by omega,by omega,by omega,by omega,hfB,by assumption⟩
        have hgo:=fun s'=>aS (s':=s') hm hn hok
        have hno:=TJ hm hn hok;rw[hgd]at hgo hno
       .have hnb:K5 m.kind=(m.kind==4):=by simp[K5, *]
        rw[hnb]at hgo hno;refine BN ((VP p (m.kind==4) hv m.node x s (by omega) (by omega) hl [.box n5 (A0 (AL p))] Z (hs.less (.cons _ (.refl _)))).mono ?_);cases hw:CX p (m.kind==4) 12 m.node x s with
        | none=>
          clear hs;rintro r Z' ⟨rfl,s',hl',hs⟩
          conv=>whnf
          repeat'((first|(refine hB _ _ fun Z hsub=>?_;clear hB B hA A)|clear U K)<;>conv=>whnf)
          exact cR (v:=v) (s:=s') (hno hw) (hs.up (by assumption)) (.cons₂ _ (.cons₂ _ (JW _)))
        | some s2=>
          clear hs;rintro r Z' ⟨rfl,hs⟩
          conv=>whnf
          repeat'((first|(apply si;intro A B hA hB)|(refine hA _ _ ?_;clear hB B hA A)|(apply U;clear U K)|apply dr|refine⟨rfl,?_⟩|clear U K)<;>conv=>whnf)
          exact⟨hlt,s2,rfl,⟨(Kb _ hw).trans hl,Mg _ (by omega) hw hge,hgo s2 hw⟩,hs⟩
       .have hnb:K5 m.kind=true:=by simp[K5, *]
        rw[hnb]at hgo hno;refine BN ((VP p true hv m.node x s (by omega) (by omega) hl [.box n5 (A0 (AL p))] Z (hs.less (.cons _ (.refl _)))).mono ?_);cases hw:CX p true 12 m.node x s with
        | none=>
          clear hs;rintro r Z' ⟨rfl,s',hl',hs⟩
          conv=>whnf
          repeat'((first|(refine hB _ _ fun Z hsub=>?_;clear hB B hA A)|clear U K)<;>conv=>whnf)
          exact cR (v:=v) (s:=s') (hno hw) (hs.up (by assumption)) (.cons₂ _ (.cons₂ _ (JW _)))
        | some s2=>
          clear hs;rintro r Z' ⟨rfl,hs⟩
          conv=>whnf
          repeat'((first|(apply si;intro A B hA hB)|(refine hA _ _ ?_;clear hB B hA A)|(apply U;clear U K)|apply dr|refine⟨rfl,?_⟩|clear U K)<;>conv=>whnf)
          exact⟨hlt,s2,rfl,⟨(Kb _ hw).trans hl,Mg _ (by omega) hw hge,hgo s2 hw⟩,hs⟩
    .subst hke
     rw[List.drop_length,runM]at hn
     conv=>whnf
     repeat'((first|apply st|(apply sq;intro K U)|(apply si;intro A B hA hB)|(refine hA _ _ ?_;clear hB B hA A)|(apply U;clear U K)|refine⟨rfl,?_⟩|refine⟨kZ,?_⟩|refine ix ?_|refine ld ?_|refine snb fun Z hs=>?_|(refine fc (fun x hx hlt hc=>?_) (fun hk hc=>?_)<;>(try rw[hc])<;>clear hc)|(constructor<;>intro hc<;>(try rw[hc])<;>(replace hc:=bp hc)<;>try(exfalso;omega))|(intro nn hnn;generalize hg:B3 _ nn _=Z;refine alF hg fun hs=>?_;clear hg)|clear U K)<;>conv=>whnf)
     rw[K6]at hn;refine BN ((VP p false hv p.main 0 s (by omega) (by omega) hl [.box n5 (A0 (AL p))] Z hs).mono ?_);cases hw:CX p false 12 p.main 0 s with
     | none=>
       rw[hw]at hn;clear hs;rintro r Z' ⟨rfl,s',hl',hs⟩
       conv=>whnf
       repeat'((first|(refine hB _ _ _ ?_;clear hB B hA A)|clear U K)<;>conv=>whnf)
       exact cR (v:=v) (s:=s') hn hs (.cons₂ _ (.cons₂ _ (JW _)))
     | some s2=>
       rw[hw]at hn;have hge2:=Mg _ (by omega) hw hge;simp only[po hge2]at hn;clear hs;rintro r Z' ⟨rfl,hs⟩;have hct:=fun f=>C1 s2 f (-1)
       cases hyes:s2.contains (-1)with
       | true=>
         rw[hyes]at hct hn
         conv=>whnf
         repeat'((first|(apply si;intro A B hA hB)|(refine hA _ _ ?_;clear hB B hA A)|(apply U;clear U K)|refine ld ?_|fail)<;>conv=>whnf)
         refine Pure.L7 (hct false) (.cons (hs.GC 1 rfl) (.cons (.refl _) .nil)) rfl ?_
         conv=>whnf
         repeat'((first|(refine hB _ _ _ ?_;clear hB B hA A)|(refine Cw (fun hc=>?_) (fun hc=>?_)<;>(replace hc:=bp hc)<;>(try simp(disch:=omega) only[B2,wrap64,Ae]at hc)<;>(try(cases hc;done)))|fail)<;>conv=>whnf)
         all_goals exact cR (v:=v) (s:=s2) hn (by first|exact hs|exact hs.up (by assumption)) (.cons₂ _ (.cons₂ _ (JW _)))
       | false=>
         rw[hyes]at hct hn
         conv=>whnf
         repeat'((first|(apply si;intro A B hA hB)|(refine hA _ _ ?_;clear hB B hA A)|(apply U;clear U K)|refine ld ?_|fail)<;>conv=>whnf)
         refine Pure.L7 (hct false) (.cons (hs.GC 1 rfl) (.cons (.refl _) .nil)) rfl ?_
         conv=>whnf
         repeat'((first|(refine hA _ _ ?_;clear hB B hA A)|(refine Cw (fun hc=>?_) (fun hc=>?_)<;>(replace hc:=bp hc)<;>(try simp(disch:=omega) only[B2,wrap64,Ae]at hc)<;>(try(cases hc;done)))|fail)<;>conv=>whnf)
         all_goals exact szT (v:=v) hn hs (.cons₂ _ (.cons₂ _ (JW _)))
end Go.Gl
