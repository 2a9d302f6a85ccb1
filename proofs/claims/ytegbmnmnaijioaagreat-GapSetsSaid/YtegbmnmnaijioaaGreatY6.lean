import Derived.Test.YtegbmnmnaijioaaGreatProg
import Derived.KernelRfl
import Derived.Test.YtegbmnmnaijioaaGreatY4
import Derived.Test.YtegbmnmnaijioaaGreatY5
set_option linter.all false
set_option linter.defProp false
set_option maxHeartbeats 8000000
noncomputable section
namespace Go.Gl
open Go.Proofs
attribute [local irreducible] Au Am Ae AR AK AY AQ AS AJ AX AM AO Ao A0 Sat AU Ay Af W
def lu {Z:AE}:Au zP 283 [.b false] Z fun r Z'=>r= .Bk EA/\Z'=Z:=by
 refine jj kZ ?_;refine zz ?_;(repeat clear U K);repeat intro K U
 exact DS ⟨rfl,rfl⟩
def Cx {x:Bool} {Z:AE} {k kp:V->AE->Prop} (h1:x=true->k (.t []) Z) (h2:x=false->kp EA Z):Au zP 283 [.b x] Z (qk k kp):=by
 cases x
 .refine Au.mono lu ?_
  rintro r Z' ⟨rfl,rfl⟩;exact h2 rfl
 .exact lr.use (h1 rfl)
def GK:Int->List Sb->Bool
 | _,[]=>true
 | n,c::r=>decide (c.AG.length<=4)&&(MH n c.AG&&GK (n+c.AG.length) r)
def Qv: ∀(cs:List Sb) (n:Int),Cu n cs=(GK n cs&&cs.all fun c=>decide (c.parents.length<=3))
 | [],_=>rfl
 | c::r,n=>by
   simp only[Cu,GK,K5];rw[Qv r];cases decide (c.AG.length<=4)<;>cases decide (c.parents.length<=3)<;>cases MH n c.AG<;>simp
def TK: ∀(cs:List Sb) (n:Int),GK n cs=true->Bt cs<=4*cs.length
 | [],_,_=>Hz _
 | c::r,n,h=>by
   simp only[GK,A9,Cp]at h;have:=TK r _ h.2.2;simp only[Bt,FA,List.sum_cons,LF]at *;omega
def XP {p:Prog} (h:D4 (A5 p)=true):(p.AP.all fun c=>decide (c.parents.length<=3))=true:=by
 rw[EG];intro c hc;obtain⟨i,hi⟩:=List.getElem?_of_mem hc;have:=(ED h).2 i c.parents (by rw[A5,Jm,hi];rfl);exact decide_eq_true this.1
def SE (p:Prog):BC p=(decide (p.AP.length<=10)&&(GK 0 p.AP&&((Bt p.AP:Int)==p.AG&&(D4 (A5 p)&&Gp (AL p) (Bt p.AP) 0 p.AP)))):=by
 rw[BC,Qv];cases hg:D4 (A5 p)
 .simp
 .rw[XP hg,Bool.and_true]
abbrev AAT (p:Prog):R->AE->Prop:=fun r Z'=> ∃post:List At,(r=(if BC p then R.ret (.t [])else R.Bk EA)/\post= [])/\Sat Z' post
def Yp {p:Prog} {Z:AE} (h:BC p=false):Ae Z EA (AAT p):=DS ⟨_,⟨by rw[h];rfl,rfl⟩,Sat.nil⟩
def clsT {p:Prog} {Z:AE} {l:List At} (hs:Sat Z l) (h:BC p=true):Am Z (.t []) (AAT p):=As hs (Jf _) (.refl _) fun Z' hs'=>⟨_,⟨by rw[h];rfl,rfl⟩,hs'⟩
def Z7 (p : Prog):BQ zP 282 [.a (BG p)] [] fun r post=>r=(if BC p then R.ret (.t [])else R.Bk EA)/\post= []:=by
 intro Z hs;refine Au.fit (by kernel_rfl) fun hf=>?_
 have hP:=J3 hf.1;have hcl:=hP.1;have hM:=Mx;refine xJ kZ ?_;have hcb:=SE p;by_cases h10:p.AP.length<=10
 rotate_left
 .conv=>whnf
  repeat'((first|clear U K|apply st|(apply zk;intro K U)|refine zY ?_|(refine Cx (fun hc=>?_) (fun hc=>?_)<;>(replace hc:=bp hc)<;>(try simp(disch:=omega) only[B9,wrap64,Ag]at hc)<;>(try(exfalso;omega)))|fail)<;>conv=>whnf)
  all_goals try(exfalso;omega)
  exact Yp (by rw[hcb];simp[h10])
 rw[decide_eq_true h10,Ds]at hcb
 conv=>whnf
 repeat'((first|clear U K|apply st|(apply zk;intro K U)|refine zY ?_|(refine Cx (fun hc=>?_) (fun hc=>?_)<;>(replace hc:=bp hc)<;>(try simp(disch:=omega) only[B9,wrap64,Ag]at hc)<;>(try(exfalso;omega)))|fail)<;>conv=>whnf)
 all_goals try(exfalso;omega)
 refine B1 p.AP.length (fun k (n:Int)=>[(2,eI n),(24,eI (A4 k))]) (fun _ _=>[]) (fun k n=>GK 0 p.AP=GK n (p.AP.drop k)/\0<=n/\n+Bt (p.AP.drop k)=Bt p.AP/\n<=4*k) 0 rfl (by simp) hs ?_;clear hs;rintro k n Z hk ⟨hn,hn0,hn1,hn2⟩ hs;rcases A8 p.AP hk with⟨c,hc,hlt⟩|hke
 .have hcm:=(hP.2 c (Bp hc)).2.1
  have hms:n+(c.AG.length:Int)+Bt (p.AP.drop (k+1))=Bt p.AP:=by
   rw[drop_cons hc]at hn1;simp only[Bt,FA,List.sum_cons]at hn1 ⊢;omega
  rw[drop_cons hc,GK]at hn;by_cases h4:c.AG.length<=4
  .rw [decide_eq_true h4,Ds]at hn
   conv=>whnf
   repeat'((first|clear U K|apply st|(apply zk;intro K U)|refine zY ?_|refine zs fun Z hs=>?_|(refine Cx (fun hc=>?_) (fun hc=>?_)<;>(replace hc:=bp hc)<;>(try simp(disch:=omega) only[B9,wrap64,Ag]at hc)<;>(try(exfalso;omega)))|refine zo fun nn hnn Z hs=>?_|fail)<;>conv=>whnf)
   all_goals try(exfalso;omega)
   refine B1 c.AG.length (fun j (m:Int)=>[(2,eI m),(36,eI (A4 j))]) (fun _ _=>[]) (fun j m=>GK 0 p.AP=(MH m (c.AG.drop j)&&GK (n+c.AG.length) (p.AP.drop (k+1)))/\m=n+j) n rfl ⟨hn,by simp⟩ (hs.take 0) ?_;clear hs hn;rintro j m Z hj ⟨hm,he⟩ hs;rcases A8 c.AG hj with⟨x,hx,hjlt⟩|hje
   .rw[drop_cons hx,MH]at hm
    conv=>whnf
    repeat'((first|clear U K|apply st|(apply zk;intro K U)|refine zY ?_|(refine Cx (fun hc=>?_) (fun hc=>?_)<;>(replace hc:=bp hc))|fail)<;>conv=>whnf)
    .rw[wrap64 (by omega) (by omega)]
     rw[hc,beq_self_eq_true,Ds]at hm;exact⟨hjlt,_,rfl,⟨by rw[<-hc];rw[<-hc]at hm;exact hm,by omega⟩,hs⟩
    .exact Yp (by rw[hcb,hm];simp[hc])
   .rw[Ai hje,MH,Ds]at hm
    refine zz ?_;(repeat clear U K);repeat intro K U
    exact⟨hlt,m,rfl,⟨by rw[hm];congr 1;omega,by omega,by omega,by omega⟩,hs⟩
  .conv=>whnf
   repeat'((first|clear U K|apply st|(apply zk;intro K U)|refine zY ?_|refine zs fun Z hs=>?_|(refine Cx (fun hc=>?_) (fun hc=>?_)<;>(replace hc:=bp hc)<;>(try simp(disch:=omega) only[B9,wrap64,Ag]at hc)<;>(try(exfalso;omega)))|refine zo fun nn hnn Z hs=>?_|fail)<;>conv=>whnf)
   all_goals try(exfalso;omega)
   exact Yp (by rw[hcb,hn];simp[h4])
 .have hne:n=Bt p.AP:=by rw[Ai hke]at hn1;simpa[Bt]using hn1
  rw[Ai hke]at hn;have hsp:GK 0 p.AP=true:=hn;have hml:=TK _ _ hsp;rw[hsp,Ds,<-hne]at hcb;cases hgd:D4 (A5 p)
  .rw[hgd]at hcb
   have hck:=Xf (A5 p) false;rw[hgd,if_neg (by decide)]at hck;have hcF:BC p=false:=by rw[hcb];simp
   conv=>whnf
   repeat'((first|clear U K|apply st|(apply zk;intro K U)|refine zY ?_|(refine Cx (fun hc=>?_) (fun hc=>?_)<;>(replace hc:=bp hc)<;>(try simp(disch:=omega) only[B9,wrap64,Ag]at hc)<;>(try(exfalso;omega))<;>(try(cases hc;done)))|refine Pure.use (NG _ (by omega)) ?_|refine Pure.use (by assumption) ?_|refine za (fun hc=>?_) fun hc=>?_|fail)<;>conv=>whnf)
   all_goals exact Yp hcF
  .have hck:=Xf (A5 p) false
   rw[hgd,if_pos rfl]at hck;rw[hgd,Ds]at hcb;by_cases hps:n=p.AG
   .rw [hps,beq_self_eq_true,Ds,<-hps]at hcb
    have hslB:Cu 0 p.AP=true:=by rw[Qv,hsp,XP hgd];rfl
    have hG:=ED hgd;have ho:=Kx hG;have hgl:(A5 p).length=p.AP.length:=by simp[A5]
    conv=>whnf
    repeat'((first|clear U K|apply st|(apply zk;intro K U)|refine zY ?_|(refine Cx (fun hc=>?_) (fun hc=>?_)<;>(replace hc:=bp hc)<;>(try simp(disch:=omega) only[B9,wrap64,Ag]at hc)<;>(try(exfalso;omega)))|refine Pure.use (NG _ (by omega)) ?_|refine Pure.use (by assumption) ?_|(refine zb (fun hc=>?_) (fun hc=>?_)<;>try exact⟨⟩)|fail)<;>conv=>whnf)
    refine B1 p.AP.length (fun k (_:Unit)=>[(63,eI (A4 k))]) (fun _ _=>[]) (fun k _=>BC p=Gp (AL p) n k (p.AP.drop k)) () rfl hcb hs ?_;clear hs;rintro i - Z hi hn' hs;rcases A8 p.AP hi with⟨c,hc,hilt⟩|hie
    .rw [drop_cons hc,Gp]at hn'
     have hci:A4 i=i:=Ag (by omega);have hw3:IntKind.i64.wrap (A4 i+3)=(i:Int)+3:=by rw[hci,wrap64 (by omega) (by omega)]
     have hlin:=ug (A5 p) false ((i:Int)+3) hgd (by omega) (by omega);have hinl:=(hP.2 c (Bp hc)).2.2;have hlb:oC (AL p).parents ((i:Int)+3)= !((CG (A5 p)).getD ((i:Int)+3).toNat []).isEmpty:=rfl;cases hem:((CG (A5 p)).getD ((i:Int)+3).toNat []).isEmpty
     .rw [hem]at hlb
      rw[hlb,Bool.not_false,Ds]at hn';rw[hem,if_neg (by decide),<-hw3]at hlin;have hhas:=ux p (i+3) h10 hslB hgd (by omega) (by omega);have hmh:=ly hslB ho (show 3<=i+3 by omega) (show i+3<3+p.AP.length by omega);have ei3:((i+3:Nat):Int)=(i:Int)+3:=by omega
      rw[ei3,<-hw3]at hhas;rw[ei3]at hmh;generalize (EU p (i+3) (i+3 - 2)).mergeSort Hy=mine at *
      conv=>whnf
      repeat'((first|clear U K|apply st|(apply zk;intro K U)|refine zY ?_|refine zs fun Z hs=>?_|(refine Cx (fun hc=>?_) (fun hc=>?_)<;>(replace hc:=bp hc)<;>(try simp(disch:=omega) only[B9,wrap64,Ag]at hc)<;>(try(exfalso;omega)))|refine Pure.use (by assumption) ?_|refine zo fun nn hnn Z hs=>?_|fail)<;>conv=>whnf)
      generalize nn=mm at *;replace hs:Sat Z [.map mm (UJ [])]:=hs.take 1;refine B1 c.inits.length (fun j (_:List Int)=>[(86,eI (A4 j))]) (fun _ M=>[.map mm (UJ M)]) (fun j M=>BC p=(EV (AL p) ((i:Int)+3) n (c.inits.take j) (c.inits.drop j)&&Gp (AL p) n (i+1) (p.AP.drop (i+1)))/\ ∀s,M.contains s=(c.inits.take j).any fun y=>y.1==s) [] rfl ⟨hn',fun s=>rfl⟩ hs ?_;clear hs;rintro j M Z hj ⟨hm,hMs⟩ hs;rcases A8 c.inits hj with⟨x,hx,hjlt⟩|hje
      .have hpa:((c.inits.take j).all fun y=>y.1 != x.1)= !M.contains x.1:=by
        rw[hMs,List.all_eq_not_any_not];congr 2;funext y;simp[bne]
       have hst:BC p=((mine.contains x.1&&(!M.contains x.1&&UY x.2))&&(EV (AL p) ((i:Int)+3) n (c.inits.take (j+1)) (c.inits.drop (j+1))&&Gp (AL p) n (i+1) (p.AP.drop (i+1)))):=by
        rw[hm,drop_cons hx,EV,hpa,hmh,<-hne,AN hx];cases decide (0<=x.1)<;>cases decide (x.1<n)<;>cases hasB (AL p) ((i:Int)+3) x.1<;>cases UY x.2<;>cases M.contains x.1<;>simp
       have hMs': ∀s,(QL M x.1).contains s=(c.inits.take (j+1)).any fun y=>y.1==s:=fun s=>by
        rw[XD,hMs,AN hx,List.any_append];simp only[Pj,List.any_nil,Bool.or_false];congr 1;rw[JK];simp;exact eq_comm
       have hct:=C3 mine false x.1;have hbt:=SL x.2;clear hmh hpa hMs hm;cases eA:mine.contains x.1<;>cases eB:M.contains x.1<;>cases eD:UY x.2<;>rw[eA]at hct<;>rw[eD]at hbt<;>rw[eA,eB,eD]at hst
       all_goals
        conv=>whnf
        repeat'((first|clear U K|apply st|(apply zk;intro K U)|refine zY ?_|refine zs fun Z hs=>?_|(refine Cx (fun hc=>?_) (fun hc=>?_)<;>(replace hc:=bp hc)<;>(try simp(disch:=omega) only[B9,wrap64,Ag]at hc)<;>(try(cases hc;done)))|refine tN eB ?_|refine msK (fun Z hs=>?_)|refine Pure.use (by assumption) ?_|refine zo fun nn hnn Z hs=>?_|fail)<;>conv=>whnf)
       all_goals first
        | exact⟨hjlt,_,rfl,⟨hst,hMs'⟩,hs.less (K6 _ _)⟩
        | exact Yp (by rw[hst];rfl)
      .rw[Ai hje,EV,Ds]at hm
       refine zz ?_;(repeat clear U K);repeat intro K U
       exact⟨hilt,(),rfl,hm,hs.take 0⟩
     .rw[hem]at hlb
      rw[hem,if_pos rfl,<-hw3]at hlin;have hcF:BC p=false:=by rw[hn',hlb];rfl
      conv=>whnf
      repeat'((first|clear U K|apply st|(apply zk;intro K U)|refine zY ?_|refine zs fun Z hs=>?_|(refine Cx (fun hc=>?_) (fun hc=>?_)<;>(replace hc:=bp hc)<;>(try(exfalso;omega)))|refine Pure.use (by assumption) ?_|refine zo fun nn hnn Z hs=>?_|fail)<;>conv=>whnf)
      all_goals exact Yp hcF
    .refine zz ?_;(repeat clear U K);repeat intro K U
     exact clsT hs (by rw[hn',Ai hie];rfl)
   .have hcF:BC p=false:=by rw[hcb];simp[hps]
    conv=>whnf
    repeat'((first|clear U K|apply st|(apply zk;intro K U)|refine zY ?_|(refine Cx (fun hc=>?_) (fun hc=>?_)<;>(replace hc:=bp hc)<;>(try simp(disch:=omega) only[B9,wrap64,Ag]at hc)<;>(try(cases hc;done)))|refine Pure.use (NG _ (by omega)) ?_|(refine zb (fun hc=>?_) (fun hc=>?_)<;>try exact⟨⟩)|fail)<;>conv=>whnf)
    all_goals exact Yp hcF
def dh (f : Fact):S6 f=true->Pure zP 288 [.a (xF f)] (eI (Gq f)):=by
 induction f using Fact.ind with
 | h f ih=>
   intro ha;refine Pure.fit (by kernel_rfl) fun hf=>?_
   have⟨h2,h3,h4⟩:=LL hf.1;have hM:=Mx;rw[RQ]at ha;simp only[A9,Cp,List.all_map,EG]at ha;refine xD kZ ?_;have hs:=Sn;by_cases hlf:CK f=true
   .have hlo:=Fy hlf
    have hw:IntKind.i64.wrap (f.arg+1)=f.arg+1:=wrap64 (by omega) (by omega)
    conv=>whnf
    repeat'((first|clear U K|apply st|(apply zk;intro K U)|refine zY ?_|(refine zb (fun hc=>?_) (fun hc=>?_)<;>try exact⟨⟩)|fail)<;>conv=>whnf)
    all_goals try(exfalso;omega)
    all_goals
     refine B1 f.kids.length (fun k (_:Unit)=>[(3,eI (((f.kids.take k).map Gq).foldl LC (if CK f then f.arg+1 else 0))),(25,eI (A4 k))]) (fun _ _=>[]) (fun _ _=>True) () (by rw[hw,if_pos hlf];rfl) trivial hs ?_;clear hs;rintro k - Z hk - hs;rcases A8 f.kids hk with⟨x,hx,hlt⟩|hke
     .have hxs:=ih x (Bp hx) (ha.2 x (Bp hx))
      conv=>whnf
      repeat'((first|clear U K|apply st|(apply zk;intro K U)|refine zY ?_|refine zs fun Z hs=>?_|refine zC ?_|refine zo fun nn hnn Z hs=>?_|fail)<;>conv=>whnf)
      exact⟨hlt,(),by rw[Gy _ _ _ hx];rfl,trivial,hs.take 0⟩
     .refine zz ?_;(repeat clear U K);repeat intro K U
      exact AH (by rw[Aq hke,<-Ko])
   .have hlo:f.op≠2/\f.op≠3/\f.op≠4:=by
     simp only[CK,E9,C0]at hlf;omega
    conv=>whnf
    repeat'((first|clear U K|apply st|(apply zk;intro K U)|refine zY ?_|(refine zb (fun hc=>?_) (fun hc=>?_)<;>try exact⟨⟩)|fail)<;>conv=>whnf)
    all_goals try(exfalso;omega)
    all_goals
     refine B1 f.kids.length (fun k (_:Unit)=>[(3,eI (((f.kids.take k).map Gq).foldl LC (if CK f then f.arg+1 else 0))),(25,eI (A4 k))]) (fun _ _=>[]) (fun _ _=>True) () (by rw[if_neg hlf];rfl) trivial hs ?_;clear hs;rintro k - Z hk - hs;rcases A8 f.kids hk with⟨x,hx,hlt⟩|hke
     .have hxs:=ih x (Bp hx) (ha.2 x (Bp hx))
      conv=>whnf
      repeat'((first|clear U K|apply st|(apply zk;intro K U)|refine zY ?_|refine zs fun Z hs=>?_|refine zC ?_|refine zo fun nn hnn Z hs=>?_|fail)<;>conv=>whnf)
      exact⟨hlt,(),by rw[Gy _ _ _ hx];rfl,trivial,hs.take 0⟩
     .refine zz ?_;(repeat clear U K);repeat intro K U
      exact AH (by rw[Aq hke,<-Ko])
def eK (p:Prog) (x:Node) (size:Int):Pure zP 286 [.a (BG p),.a (J5 x),eI size] (.b (Nr p x size)):=by
 refine Pure.fit (by kernel_rfl) fun hf=>?_
 have⟨p1,p2,p3,p4⟩:=Gn hf.1;have hM:=Mx;have hw:IntKind.i64.wrap (3+((p.AP.map WC).length:Nat))=3+(p.AP.length:Int):=by rw[B9,wrap64 (by omega) (by omega)]
 refine xG kZ ?_;have hs:=Sn
 conv=>whnf
 repeat'((first|clear U K|apply st|(apply zk;intro K U)|refine zY ?_|refine Pure.use (SL _) ?_|refine za (fun hc=>?_) fun hc=>?_|fail)<;>conv=>whnf)
 all_goals first
  | (refine AH ?_;simp[Nr, *];done)
  | (refine AH ?_;simp[Nr, *];omega)
  | (refine AH ?_;rw[hw];simp[Nr, *];done)
  | (refine AH ?_;congr 1;rw[JK];simp[Nr, *];omega)
def ub (n:Nat) (hn:n<=120):Pure zP 239 [.i .u64 1,eU n] (.t [.i .u64 0,eU n]):=by
 refine xl kZ ?_;have hs:=Sn
 conv=>whnf
 repeat'((first|clear U K|apply st|(apply zk;intro K U)|refine zY ?_|refine⟨(by decide:(0:Int)<=_),?_⟩|fail)<;>conv=>whnf)
 have ea: ∀m:Nat,m<=120->bits .and .u64 (m:Int) 4294967295=(m:Int):=fun m hm=>by
  have:=GD (a:=m) (b:=4294967295) (by omega) (by decide)
  have e:m&&&4294967295=m:=by
   have:=Nat.and_two_pow_sub_one_eq_mod m 32;rw[show 2 ^ 32 - 1=4294967295 from rfl]at this;rw[this];omega
  rw[e]at this;exact this
 have e0:=ea 0 (by omega);have e1:=ea 1 (by omega);have en:=ea n hn
 have ef: ∀m:Nat,m<=120->(m:Int).fdiv (2 ^ min (Int.toNat 32) IntKind.u64.bits)=0:=fun m hm=>by
  have:=U6 (a:=m) (c:=32) (by decide);rw[show(Int.toNat 32)=32 from rfl,this,Nat.shiftRight_eq_div_pow];have:m / 2 ^ 32=0:=Nat.div_eq_of_lt (by omega);rw[this];rfl
 have f0:=ef 0 (by omega);have f1:=ef 1 (by omega);have fn:=ef n hn;have w0:IntKind.u64.wrap 0=0:=rfl;have wn:IntKind.u64.wrap (n:Int)=n:=II (by omega);simp only[Int.natCast_zero,Int.natCast_one,Int.cast_ofNat_Int]at e0 e1 f0 f1;simp only[e0,e1,en,f0,f1,fn,w0,wn,Int.zero_mul,Int.mul_zero,Int.zero_add,Int.add_zero,Int.one_mul];exact AH rfl
def uc (n:Nat) (hn:n<=120):Pure zP 160 [.i .u64 1,eU n] (.t [.i .u64 0,eU n]):=by
 refine yc kZ ?_;have hs:=Sn
 conv=>whnf
 repeat'((first|clear U K|apply st|(apply zk;intro K U)|refine Pure.use (ub n hn) ?_|fail)<;>conv=>whnf)
 all_goals exact AH rfl
end Go.Gl
namespace Go.Gl
variable {P:Program} {Z:AE}
def gY {n sz len cap:Nat} {ki:IntKind} {j:Int} {K:V->AE->Prop} (h:K (.sv n sz j.toNat ((len:Int) - j).toNat) Z) (h0:0<=j:=by omega) (h1:j<=(len:Int):=by omega):AQ Z sz (.sl n len cap) (some (.i ki j)) none none K:=by
 unfold AQ;simp only[Ow];exact⟨h0,h1,Int.le_refl _,h⟩
def tH {n sz len cap:Nat} {ki:IntKind} {j:Int} {K:V->AE->Prop} (h:K (.sv n sz 0 j.toNat) Z) (h0:0<=j:=by omega) (h1:j<=(len:Int):=by omega):AQ Z sz (.sl n len cap) none (some (.i ki j)) none K:=by
 unfold AQ;simp only[Ow];refine⟨Int.le_refl _,h0,h1,?_⟩;simpa using h
def AA2 {l:List At} (h:Sat Z l) (i:Nat) {n len cap sz:Nat} {es ys:List (List V)} {f:Bool} {K:V->AE->Prop} (hi:l[i]? =some (.own (.sl n len cap) sz es)) (hle:ys.length<=es.length) (hys: ∀e∈ys,e.length=sz) (ho: ∀e∈ys,∀v∈e,CR v=true)
    (hk: ∀Z',Sat Z' (l.set i (.own (.sl n len cap) sz (ys++es.drop ys.length)))->K (.i .i64 (ys.length:Nat)) Z'):AX Z sz (.sl n len cap) (.l ys f) K:=by
 rcases h.get hi with⟨h1,_⟩|⟨n',cap',h1,hn⟩
 .cases h1
 cases h1;unfold AX;refine⟨hys,ho,?_⟩;simp only[QM,hn];have hm:min ys.length es.length=ys.length:=Nat.min_eq_left hle;refine⟨trivial,by omega,?_⟩;rw[hm];refine hk _ ?_;simp only[List.take_zero,List.nil_append,List.take_length,HG];refine h.change hi (fun b hb ha=>Fc hb fun m hm=>?_) (fun b hb ha m hm=>ha m hm) (.inr ⟨n,cap,by simp;omega,by simp[B7]⟩);rw[Cm];intro e;subst e;exact ha m rfl hm
def AA1 {l:List At} (h:Sat Z l) (i:Nat) {n len cap sz a b c:Nat} {es:List (List V)} {K:V->AE->Prop} (hi:l[i]? =some (.own (.sl n len cap) sz es)) (hbc:a+b<=es.length) (hc:c<=es.length) (hys: ∀e∈es,e.length=sz) (ho: ∀e∈es,∀v∈e,CR v=true)
    (hk: ∀Z',Sat Z' (l.set i (.own (.sl n len cap) sz (es.take a++((es.take c).take (min c b)++es.drop (a+min c b)))))->K (.i .i64 (min c b:Nat)) Z'):AX Z sz (.sv n sz a b) (.sv n sz 0 c) K:=by
 rcases h.get hi with⟨h1,_⟩|⟨n',cap',h1,hn⟩
 .cases h1
 cases h1;unfold AX;simp only[rowsOf,hn];have hl:((es.drop 0).take c).length=c:=by simp;omega
 refine⟨trivial,trivial,by omega,fun e he v hv=>ho e (List.mem_of_mem_take (by simpa using he)) v hv,trivial,?_⟩;simp only[QM,hn,List.drop_zero];refine⟨trivial,by omega,?_⟩;have hl2:(es.take c).length=c:=by simp;omega
 rw[hl2];refine hk _ ?_;refine h.change hi (fun b hb ha=>Fc hb fun m hm=>?_) (fun b hb ha m hm=>ha m hm) (.inr ⟨n,cap,by simp;omega,by simp[B7]⟩);rw[Cm];intro e;subst e;exact ha m rfl hm
end Go.Gl
namespace Go.Gl
open Go.Proofs
attribute [local irreducible] Au Am Ae AR AK AY AQ AS AJ AX AM AO Ao A0 Sat AU Ay Af W
def repeatA (a:Int) (n:Nat) (h1:1<=n) (hn:n<=120):BQ zP 102 [.l [[eI a]] true,eI n] [] fun r post=> ∃v,r= .ret v/\post= [.own v 1 (iL (List.replicate n a))]/\(CC v).isSome=true:=by
 intro Z hs;have hM:=Mx;have hw1:IntKind.u64.wrap 1=1:=rfl;have hwn:IntKind.u64.wrap (n:Int)=n:=II (by omega);have hwi:IntKind.i64.wrap (n:Int)=n:=wrap64 (by omega) (by omega);refine y9 kZ ?_
 conv=>whnf
 repeat'((first|clear U K|apply st|(apply zk;intro K U)|refine zY ?_|(refine zb (fun hc=>?_) (fun hc=>?_)<;>try exact⟨⟩)|fail)<;>conv=>whnf)
 rw[show IntKind.u64.wrap (([[eI a]]:List (List V)).length:Nat)=1 from rfl,hwn];refine(uc n hn).use ?_
 conv=>whnf
 repeat'((first|clear U K|apply st|(apply zk;intro K U)|refine zY ?_|(refine zb (fun hc=>?_) (fun hc=>?_)<;>try exact⟨⟩)|fail)<;>conv=>whnf)
 all_goals try(exfalso;omega)
 rw[hwi];refine oD hs (Hz n) (by omega) fun v Z hs hv=>?_
 obtain⟨id,rfl⟩:=hv
 conv=>whnf
 repeat'((first|clear U K|apply st|(apply zk;intro K U)|fail)<;>conv=>whnf)
 refine AA2 hs 0 (ys:=[[eI a]]) rfl (by simp;omega) (fun e he=>by simp at he;subst he;rfl) (fun e he v hv=>by simp at he;subst he;simp at hv;subst hv;rfl) fun Z hs=>?_
 have hst:([[eI a]]:List (List V))++(List.replicate n [V.i .i64 0]).drop ([[eI a]]:List (List V)).length=List.replicate 1 [eI a]++List.replicate (n - 1) [eI 0]:=by simp[List.drop_replicate]
 rw[hst]at hs;refine zz ?_;(repeat clear U K);repeat intro K U
 refine D7 (fun m:Nat=>n - m) (fun m=>[(8,eI m)]) (fun m=>[.own (.sl id n n) 1 (List.replicate m [eI a]++List.replicate (n - m) [eI 0])]) (fun m=>1<=m/\m<=n) 1 rfl ⟨by omega,h1⟩ hs ?_;clear hs hst;rintro m Z ⟨hm1,hmn⟩ hs
 have hgl: ∀e∈(List.replicate m [eI a]++List.replicate (n - m) [eI 0]:List (List V)),e.length=1/\ ∀v∈e,CR v=true:=fun e he=>by
  rcases Dy.1 he with he|he
  .rw[(List.mem_replicate.1 he).2];exact⟨rfl,fun v hv=>by simp at hv;subst hv;rfl⟩
  .rw[(List.mem_replicate.1 he).2];exact⟨rfl,fun v hv=>by simp at hv;subst hv;rfl⟩
 have hlen:(List.replicate m [eI a]++List.replicate (n - m) [eI 0]:List (List V)).length=n:=by simp;omega
 rcases Nat.lt_or_ge m n with hlt|hge
 .have hcpy:(List.replicate m [eI a]++List.replicate (n - m) [eI 0]:List (List V)).take m++(((List.replicate m [eI a]++List.replicate (n - m) [eI 0]:List (List V)).take m).take (min m (n - m))++(List.replicate m [eI a]++List.replicate (n - m) [eI 0]:List (List V)).drop (m+min m (n - m)))=List.replicate (m+min m (n - m)) [eI a]++List.replicate (n - (m+min m (n - m))) [eI 0]:=by
   have e1:(List.replicate m [eI a]++List.replicate (n - m) [eI 0]:List (List V)).take m=List.replicate m [eI a]:=by
    rw[List.take_append_of_le_length (by simp)];simp
   rw[e1,List.take_replicate,List.drop_append,List.drop_replicate,List.drop_replicate,List.length_replicate,<-PR,List.replicate_append_replicate];have e2:m - (m+min m (n - m))=0:=by omega
   have e3:n - m - (m+min m (n - m) - m)=n - (m+min m (n - m)):=by omega
   rw[e2,e3,List.replicate_zero,List.nil_append];congr 2;omega
  conv=>whnf
  repeat'((first|clear U K|apply st|(apply zk;intro K U)|refine zY ?_|(refine zb (fun hc=>?_) (fun hc=>?_)<;>try exact⟨⟩)|fail)<;>conv=>whnf)
  all_goals try(exfalso;omega)
  refine gY ?_;refine zz ?_;(repeat clear U K);repeat intro K U
  refine tH ?_;refine zz ?_;(repeat clear U K);repeat intro K U
  rw[Fi,show((n:Int) - m).toNat=n - m by omega];refine AA1 hs 0 rfl (by rw[hlen];omega) (by rw[hlen];omega) (fun e he=>(hgl e he).1) (fun e he=>(hgl e he).2) fun Z hs=>?_
  rw[hcpy]at hs;refine zz ?_;(repeat clear U K);repeat intro K U
  refine⟨m+min m (n - m),by omega,?_,⟨by omega,by omega⟩,hs⟩;rw[wrap64 (by omega) (by omega)];rfl
 .have hme:m=n:=by omega
  subst hme
  conv=>whnf
  repeat'((first|clear U K|apply st|(apply zk;intro K U)|refine zY ?_|(refine zb (fun hc=>?_) (fun hc=>?_)<;>try exact⟨⟩)|fail)<;>conv=>whnf)
  all_goals try(exfalso;omega)
  refine As hs (List.Sublist.refl _) (.refl _) fun Z' hs'=>⟨_,⟨_,rfl,?_,rfl⟩,hs'⟩
  simp[iL]
def dt (n:Nat) (h1:1<=n) (hn:n<=120):BQ zP 102 [.l [[eI (-1)]] true,eI n] [] fun r post=> ∃v,r= .ret v/\post= [.own v 1 (iL (List.replicate n (-1)))]/\(CC v).isSome=true:=repeatA (-1) n h1 hn
def S2 (op:Int):V:=
 if op=5 then .FV 360 (.a [])else
 if op=1\/op=2\/op=3\/op=6\/op=18 then .FV 359 (eI 0)else
 if op=4\/op=8\/op=17 then .FV 359 (eI 1)else
 if op=7\/op=9\/op=11\/op=12\/op=13\/op=14\/op=15\/op=16 then .FV 359 (eI 2)else
 if op=10 then .FV 359 (eI 3)else .D0
def ec (op:Int):Pure zP 287 [eI op] (S2 op):=by
 refine xE kZ ?_;have hs:=Sn
 conv=>whnf
 repeat'((first|clear U K|apply st|(apply zk;intro K U)|refine zY ?_|refine za (fun hc=>?_) fun hc=>?_|fail)<;>conv=>whnf)
 all_goals exact AH (by simp[S2, *])
def AAc (n:Int) (p:Prog) (x:Node):Pure zP 399 [eI n,.a (BG p),.a (J5 x)] (eI n):=by
 refine vN kZ ?_;have hs:=Sn;exact zW
def rG (p:Prog) (x:Node) (h0:0<=x.n) (h1:x.n<p.Dx.length):Pure zP 400 [.a [],.a (BG p),.a (J5 x)] (eI (p.Dx.getD x.n.toNat 0)):=by
 refine Pure.fit (by kernel_rfl) fun hf=>?_
 have⟨p1,p2,p3,p4⟩:=Gn hf.2.1
 have hx:p.Dx[x.n.toNat]? =some (p.Dx.getD x.n.toNat 0):=by
  rw[C6,Cs (by omega)];rfl
 refine vM kZ ?_;have hs:=Sn;exact zW
end Go.Gl
namespace Go.Gl
variable {P:Program} {Z:AE}
def Sat.up {Z':AE} {l:List At} (h:Sat Z l) (hs:Sub Z Z'):Sat Z' l:=by
 refine⟨fun a ha=>?_,h.2⟩;have:=h.1 a ha;cases a with
 | obj n o=>exact hs n o this
 | own v sz es=>
   rcases this with h|⟨n,cap,e,hn⟩
   .exact .inl h
   .exact .inr ⟨n,cap,e,hs n _ hn⟩
def Sat.del {l:List At} {n:Nat} {o:O} (h:Sat Z (.obj n o::l)):Sat (del Z n) l:=by
 refine⟨fun b hb=>Fc (h.1 b (.tail _ hb)) fun m hm=>?_,(List.pairwise_cons.1 h.2).2⟩;rw[Hp];intro e;subst e;exact(List.pairwise_cons.1 h.2).1 b hb m rfl hm
def Sat.oM {l:List At} {n:Nat} {o:O} (h:Sat Z l) (hn:Z n=none):Sat (B7 Z n o) (.obj n o::l):=(gp h hn).rot
def Sat.new {l:List At} {n:Nat} {o o':O} (h:Sat Z (.obj n o::l)):Sat (B7 Z n o') (.obj n o'::l):=tU (i:=0) h rfl o'
def AI {v:V} {Q:R->AE->Prop} (h:Q (.ret v) Z):Am Z v Q:=⟨v,Z,fun _ _ h=>h,.refl v,h⟩
inductive Rd (S:Type) where
 | go (s:S)
 | stop (st:s9) (s:S)
 | Bk (v:V)
def nq {S:Type} (L:Nat) (E:Env) (ok:FuncId->Array Tmp->Code->Code->Nat->Prop) (H:S->List At) (J:S->Prop) (rest:List At) (yes no:V):Rd S->R->AE->Prop
 | .go s,r,Z=>r= .ret yes/\Sat Z (.obj L (.loop .ready E ok)::(H s++rest))
 | .stop st s,r,Z=>r= .ret no/\Sat Z (.obj L (.loop st E ok)::(H s++rest))
 | .Bk v,r,Z=>r= .Bk v/\ ∃s,J s/\Sat (del Z L) (H s++rest)
def OH {α S:Type} (P:Program) (L:Nat) (E:Env) (ok:FuncId->Array Tmp->Code->Code->Nat->Prop) (ea:α->List V) (H:S->List At) (J:S->Prop) (stp:α->S->Rd S) (D:α->S->Prop):Prop:=
 ∀y s,D y s-> ∀(rest:List At) (Z:AE),Sat Z (.obj L (.loop .ready E ok)::(H s++rest))->Ny P L (ea y) Z (nq L E ok H J rest (.b true) (.b false) (stp y s))
def OH.use {α S:Type} {L:Nat} {E:Env} {ok:FuncId->Array Tmp->Code->Code->Nat->Prop} {ea:α->List V} {H:S->List At} {J:S->Prop} {stp:α->S->Rd S} {D:α->S->Prop} (h:OH P L E ok ea H J stp D) {y:α} {s:S} (hd:D y s) {rest:List At} (hs:Sat Z (.obj L (.loop .ready E ok)::(H s++rest)))
    {Q:R->AE->Prop} (hk: ∀r Z',nq L E ok H J rest (.b true) (.b false) (stp y s) r Z'->Q r Z'):Ao P (.f (.yield L) [] []) (ea y) Z Q:=(h y s hd rest Z hs).mono hk
def L6 {L:Nat} {env:Env} {ps:List Nat} {a b:AV} (hσ:Z L=some (.loop .ready env (Bm P ps a b))) {args:List V} (hl:args.length=ps.length) {Q:R->AE->Prop}
    (h:W P a (Cd (W P b fun ex env' Z'=>Z' L=none->Qp L env (Bm P ps a b) Q ex env' Z')) (Et ps args env) (del Z L)):Ny P L args Z Q:=
 SD hσ hl (ZH h (LQ fun _ _ h=>np h))
def PC {α S:Type} {L:Nat} {E:Env} {ps:List Nat} {a b:AV} {ea:α->List V} {H:S->List At} {J:S->Prop} {stp:α->S->Rd S} {D:α->S->Prop} (hl: ∀y,(ea y).length=ps.length)
    (h: ∀y s,D y s-> ∀(rest:List At) (Z:AE),Sat Z (H s++rest)->W P a (Cd (W P b fun ex env' Z'=>Z' L=none->Qp L E (Bm P ps a b) (nq L E (Bm P ps a b) H J rest (.b true) (.b false) (stp y s)) ex env' Z')) (Et ps (ea y) E) Z):OH P L E (Bm P ps a b) ea H J stp D:=
 fun y s hd rest Z hs=>L6 (hs.get (i:=0) rfl) (hl y) (h y s hd rest _ hs.del)
def XA {S:Type} {L:Nat} {E:Env} {ok:FuncId->Array Tmp->Code->Code->Nat->Prop} {H:S->List At} {J:S->Prop} {rest:List At} {o:Rd S} {s:S} (h:o= .go s) (hs:Sat Z (H s++rest)) (hn:Z L=none) :
    nq L E ok H J rest (.b true) (.b false) o (.ret (.b true)) (B7 Z L (.loop .ready E ok)):=by
 subst h;exact⟨rfl,hs.oM hn⟩
def ZR {S:Type} {L:Nat} {E:Env} {ok:FuncId->Array Tmp->Code->Code->Nat->Prop} {H:S->List At} {J:S->Prop} {rest:List At} {o:Rd S} {s:S} {st:s9} (h:o= .stop st s) (hs:Sat Z (H s++rest)) (hn:Z L=none) :
    nq L E ok H J rest (.b true) (.b false) o (.ret (.b false)) (B7 Z L (.loop st E ok)):=by
 subst h;exact⟨rfl,hs.oM hn⟩
def TP {S:Type} {L:Nat} {E:Env} {ok:FuncId->Array Tmp->Code->Code->Nat->Prop} {H:S->List At} {J:S->Prop} {rest:List At} {o:Rd S} {s:S} {v:V} (h:o= .Bk v) (hj:J s) (hs:Sat Z (H s++rest)) (hn:Z L=none) :
    nq L E ok H J rest (.b true) (.b false) o (.Bk v) Z:=by
 subst h;refine⟨rfl,s,hj,fun a ha=>Fc (hs.1 a ha) fun n hd=>?_,hs.2⟩;obtain⟨o,ho⟩:=C2 (hs.1 a ha) hd;rw[Hp];intro e;subst e;rw[hn]at ho;cases ho
def M3 {L:Nat} {E env:Env} {ok:FuncId->Array Tmp->Code->Code->Nat->Prop} {Q:Ac->Env->AE->Prop} {l:List At} {v:V} (hs:Sat Z (.obj L (.loop .ready E ok)::l)) (hk: ∀Z',Sat Z' l->Q .normal env Z'):Lp L Q env (.ret v) Z:=
 ⟨_,_,_,hs.get (i:=0) rfl,hk _ hs.del⟩
def ZU {L id:Nat} {E env:Env} {ok:FuncId->Array Tmp->Code->Code->Nat->Prop} {Q:Ac->Env->AE->Prop} {l:List At} {v:V} (hs:Sat Z (.obj L (.loop (.exit id) E ok)::l)) (hk: ∀Z',Sat Z' l->Q (.exit id) env Z'):Lp L Q env (.ret v) Z:=
 ⟨_,_,_,hs.get (i:=0) rfl,hk _ hs.del⟩
end Go.Gl
namespace Go.Gl
open Go.Proofs
attribute [local irreducible] Au Am Ae AR AK AY AQ AS AJ AX AM AO Ao A0 Sat AU Ay Af W
def Fj (p:Prog) (next:Bool) (n size depth:Int) (s:List Int):Option (List Int):=
 if n<0\/(p.nodes.length:Int)<=n\/0<=s.getD n.toNat 0\/12<depth then none else
 match p.nodes[n.toNat]? with
 | none=>none
 | some x=>if ET p next size x then some (s.set n.toNat size)else none
def gi {S:Type}:Option S->Rd S
 | some s=> .go s
 | none=> .Bk EA
abbrev eaP (y:Int×Int×Int):List V:=[eI y.1,.a [eI y.2.1,eI y.2.2]]
abbrev hOut (nO:Nat) (v:V) (s:List Int):List At:=[.box nO [v],.own v 1 (iL s)]
abbrev dP (p:Prog) (y:Int×Int×Int) (s:List Int):Prop:=0<=y.2.1/\y.2.1<=100/\1<=y.2.2/\y.2.2<=13/\s.length=p.nodes.length
abbrev Ys (p:Prog) (L nW:Nat):V:= .f (.func 328) [] [.rp [.f (.yield L) [] []],.rp (BG p),.p nW 0]
def ZJ {p:Prog} {next:Bool} {n size depth:Int} {s s':List Int} (h:Fj p next n size depth s=some s'):0<=n/\n<(p.nodes.length:Int)/\s.getD n.toNat 0<0/\depth<=12/\ ∃x,p.nodes[n.toNat]? =some x/\ET p next size x=true/\s'=s.set n.toNat size:=by
 unfold Fj at h;split at h
 .cases h
 .rename_i hc
  split at h
  .cases h
  .rename_i x hx
   split at h
   .rename_i hok
    simp only[JM]at h;exact⟨by omega,by omega,by omega,by omega,x,hx,hok,h.symm⟩
   .cases h
def ZI {p:Prog} {next:Bool} {d:Nat} {n size depth:Int} {s:List Int} (hd:depth=13 - (d+1:Nat)) (hd1:1<=depth):CZ p next (d+1) n size s=match Fj p next n size depth s with
    | none=>none
    | some s'=>match p.nodes[n.toNat]? with
      | none=>none
      | some x=>F8 (CZ p next d) x.op size 0 x.kids s':=by
 unfold Fj;simp only[CZ];by_cases h:n<0\/(p.nodes.length:Int)<=n\/0<=s.getD n.toNat 0
 .rw[if_pos h,if_pos (by omega)]
 .rw[if_neg h,if_neg (by omega)]
  cases hx:p.nodes[n.toNat]? with
  | none=>rfl
  | some x=>
    simp only;split
    .rfl
    .rfl
def ZL {p:Prog} {next:Bool} {n size depth:Int} {s:List Int} (hd:12<depth):Fj p next n size depth s=none:=by
 unfold Fj;rw[if_pos (by omega)]
def Te {f:Int->Int->List Int->Option (List Int)} (hf: ∀ {a b s s'},f a b s=some s'->s'.length=s.length) {op size:Int}: ∀(i:Nat) (l:List Int) {s s':List Int},F8 f op size i l s=some s'->s'.length=s.length
 | _,[],s,s',h=>by cases h;rfl
 | i,k::r,s,s',h=>by
   simp only[F8]at h;split at h
   .cases h
   .rename_i s1 h1
    exact(Te hf (i+1) r h).trans (hf h1)
def Kk {p:Prog} {next:Bool}: ∀(d:Nat) {n size:Int} {s s':List Int},CZ p next d n size s=some s'->s'.length=s.length
 | 0,_,_,_,_,h=>by cases h
 | d + 1,n,size,s,s',h=>by
   simp only[CZ]at h;split at h
   .cases h
   .split at h
    .cases h
    .split at h
     .exact(Te (fun h=>Kk d h) 0 _ h).trans (by simp)
     .cases h
def oR (p : Prog) (next:Bool) {L:Nat} {E:Env} {ok:FuncId->Array Tmp->Code->Code->Nat->Prop} {v:V} {nO:Nat}
    (hY:OH zP L E ok eaP (hOut nO v) (fun s=>s.length=p.nodes.length) (fun y s=>gi (Fj p next y.1 y.2.1 y.2.2 s)) (dP p)) :
    ∀ d : Nat,d<=12-> ∀(n size depth:Int) (s:List Int),depth=13 - d->0<=size->size+d<=100->s.length=p.nodes.length-> ∀(nW:Nat) (rest:List At) (Z:AE),
      Sat Z (.obj L (.loop .ready E ok)::(hOut nO v s++(.box nW [Ys p L nW]::rest)))->
      Au zP 328 [eI n,.a [eI size,eI depth],.rp [.f (.yield L) [] []],.rp (BG p),.p nW 0] Z
       (nq L E ok (hOut nO v) (fun s=>s.length=p.nodes.length) (.box nW [Ys p L nW]::rest) (.b true) (.b false) (gi (CZ p next d n size s))):=by
 intro d
 induction d with
 | zero=>
   intro _ n size depth s hd h0 h1 hl nW rest Z hs;refine jg kZ ?_;refine zz ?_;(repeat clear U K);repeat intro K U
   refine hY.use (y:=(n,size,depth)) (s:=s) ⟨h0,(by dsimp only;omega),(by dsimp only;omega),(by dsimp only;omega),hl⟩ hs ?_;rw[ZL (by dsimp only;omega)];rintro r Z' ⟨rfl,s',hj,hs'⟩
   conv=>whnf
   repeat'((first|clear U K|apply st|fail)<;>conv=>whnf)
   exact DS ⟨rfl,s',hj,hs'⟩
 | succ d ih =>
   intro hd12 n size depth s hd h0 h1 hl nW rest Z hs;refine Au.fit (by kernel_rfl) fun hf=>?_
   have hM:=Mx
   have hfp:FX (.a (BG p)):=by
    have:=hf.2.2.2.1;simp only[VT]at this;simpa only[Hn]using this
   have⟨p1,p2,p3,p4⟩:=Gn hfp;refine jg kZ ?_;refine zz ?_;(repeat clear U K);repeat intro K U
   refine hY.use (y:=(n,size,depth)) (s:=s) ⟨h0,(by dsimp only;omega),(by dsimp only;omega),(by dsimp only;omega),hl⟩ hs ?_;have hw:=ZI (p:=p) (next:=next) (n:=n) (size:=size) (s:=s) hd (by omega);cases hv:Fj p next n size depth s with
   | none=>
     rw[hv]at hw;rintro r Z' ⟨rfl,s',hj,hs'⟩
     conv=>whnf
     repeat'((first|clear U K|apply st|fail)<;>conv=>whnf)
     refine DS ?_;rw[hw];exact⟨rfl,s',hj,hs'⟩
   | some s1 =>
     obtain⟨g0,g1,g2,g3,x,hx,hok,hs1⟩:=ZJ hv;rw[hv]at hw;simp only[hx]at hw;have hl1:s1.length=p.nodes.length:=by rw[hs1];simpa using hl
     have hkm:=ja hfp (Bp hx);clear hv hs1;rintro r Z1 ⟨rfl,hs⟩;refine zz ?_;(repeat clear U K);repeat intro K U
     refine B1 x.kids.length (fun k (_:List Int)=>[(23,eI (A4 k))]) (fun _ s'=> .obj L (.loop .ready E ok)::(hOut nO v s'++(.box nW [Ys p L nW]::rest))) (fun k s'=>s'.length=p.nodes.length/\CZ p next (d+1) n size s=F8 (CZ p next d) x.op size k (x.kids.drop k) s') s1 rfl ⟨hl1,by simpa using hw⟩ hs ?_;clear hs hw;rintro k s' Z hk ⟨hl',hkids⟩ hs;rcases A8 x.kids hk with⟨kid,hkid,hlt⟩|hke
     .have hck:A4 k=k:=Ag (by omega)
      rw[drop_cons hkid,F8]at hkids;have e0:IntKind.i64.wrap (depth+1)=depth+1:=wrap64 (by omega) (by omega);have e1:IntKind.i64.wrap (size+1)=size+1:=wrap64 (by omega) (by omega)
      have hrec: ∀(sz:Int) (Z:AE) (l:List At),0<=sz->sz+d<=100->Sat Z (l++(.obj L (.loop .ready E ok)::(hOut nO v s'++(.box nW [Ys p L nW]::rest))))->Ao zP (Ys p L nW) [eI kid,.a [eI sz,eI (depth+1)]] Z
       (nq L E ok (hOut nO v) (fun s=>s.length=p.nodes.length) (.box nW [Ys p L nW]::rest) (.b true) (.b false) (gi (CZ p next d kid sz s'))):=fun sz Z l h0 h1 hs=>
       BO (ih (by omega) kid sz (depth+1) s' (by omega) h0 h1 hl' nW rest Z (hs.less (List.sublist_append_right _ _)))
      conv=>whnf
      repeat'((first|clear U K|apply st|(apply zk;intro K U)|refine zY ?_|refine zs fun Z hs=>?_|(refine zd (fun hc=>?_) (fun hc=>?_)<;>try exact⟨⟩)|refine zo fun nn hnn Z hs=>?_|fail)<;>conv=>whnf)
      all_goals
       simp only[e0,e1]
       first
        | rw[if_pos (by omega)]at hkids
          refine(hrec (size+1) _ [_] (by omega) (by omega) hs).mono ?_
        | rw[if_neg (by omega)]at hkids
          refine(hrec size _ [_] (by omega) (by omega) hs).mono ?_
       cases hw:CZ p next d kid _ s' with
       | none=>
         rw[hw]at hkids;rintro r Z' ⟨rfl,s',hj,hs'⟩
         conv=>whnf
         repeat'((first|clear U K|apply st|fail)<;>conv=>whnf)
         refine DS ?_;rw[hkids];exact⟨rfl,s',hj,hs'⟩
       | some s2=>
         rw[hw]at hkids;rintro r Z' ⟨rfl,hs'⟩;refine zz ?_;(repeat clear U K);repeat intro K U
         exact⟨hlt,s2,rfl,⟨(Kk _ hw).trans hl',hkids⟩,hs'⟩
     .rw[Ai hke,F8]at hkids
      refine zz ?_;(repeat clear U K);repeat intro K U
      refine AI ?_;rw[hkids];exact⟨rfl,hs⟩
def tB {a b:Nat} {A B:Prop} (e:a=b) (h:A):(a=b->A)/\(a≠b->B):=⟨fun _=>h,fun n=>absurd e n⟩
def tasN {a b:Nat} {A B:Prop} (e:a≠b) (h:B):(a=b->A)/\(a≠b->B):=⟨fun n=>absurd n e,fun _=>h⟩
def kY {P:Program} {Z:AE} {tab:List (TypeId×FuncId)} {t:TypeId} {f:FuncId} {v:V} {args:List V} {Q:R->AE->Prop} (h:look t tab=some f) (hc:Au P f (v::args) Z Q):A0 P tab (.FV t v) args Z Q:=by
 unfold A0;simp only[h];exact hc
def m8 (p:Prog) (n size depth:Int):Pure zP 285 [.a (BG p),eI n,.a [eI size,eI depth]] (.f (.func 327) [] [.rp (BG p),.rp [eI n],.rp [eI size,eI depth]]):=by
 refine xH kZ ?_;have hs:=Sn;exact zW
def vE (p:Prog) (next:Bool) {L:Nat} {E:Env} {ok:FuncId->Array Tmp->Code->Code->Nat->Prop} {v:V} {nO:Nat}
    (hY:OH zP L E ok eaP (hOut nO v) (fun s=>s.length=p.nodes.length) (fun y s=>gi (Fj p next y.1 y.2.1 y.2.2 s)) (dP p)) (n size:Int) (s:List Int) (h0:0<=size) (h1:size<=20) (hl:s.length=p.nodes.length) (rest:List At) (Z:AE)
    (hs : Sat Z (.obj L (.loop .ready E ok)::(hOut nO v s++rest))) :
     Au zP 327 [.f (.yield L) [] [],.rp (BG p),.rp [eI n],.rp [eI size,eI 1]] Z
      (nq L E ok (hOut nO v) (fun s=>s.length=p.nodes.length) rest (.t []) (.t []) (gi (CZ p next 12 n size s))):=by
 refine wQ kZ ?_
 conv=>whnf
 repeat'((first|clear U K|apply st|(apply zk;intro K U)|refine zY ?_|refine zs fun Z hs=>?_|refine zo fun nn hnn Z hs=>?_|fail)<;>conv=>whnf)
 have hp:Sat Z (.obj L (.loop .ready E ok)::(hOut nO v s++(.box nn [Ys p L nn]::rest))):=hs.perm (by
  refine(List.Perm.swap _ _ _).trans (.cons _ ?_)
  exact(List.perm_middle (l₁:=hOut nO v s)).symm)
 refine BO ((oR p next hY 12 (Hz _) n size 1 s rfl h0 (by omega) hl nn rest Z hp).mono ?_);cases hw:CZ p next 12 n size s with
 | none=>
   rintro r Z' ⟨rfl,s',hj,hs'⟩
   conv=>whnf
   repeat'((first|clear U K|apply st|fail)<;>conv=>whnf)
   refine DS ?_;rw[hw];exact⟨rfl,s',hj,hs'.less (List.Sublist.append_left (K6 _ _) _)⟩
 | some s2=>
   rintro r Z' ⟨rfl,hs'⟩
   conv=>whnf
   repeat'((first|clear U K|apply st|fail)<;>conv=>whnf)
   refine AI ?_;rw[hw];exact⟨rfl,hs'.less (.cons₂ _ (List.Sublist.append_left (K6 _ _) _))⟩
def YE (p:Prog) (x:Node):(x.op=5/\S2 x.op= .FV 360 (.a []))\/(x.op≠5/\ ∃m:Int,S2 x.op= .FV 359 (eI m)/\J2 p x=m)\/(S2 x.op= .D0/\J2 p x= -1):=by
 unfold S2 J2;by_cases h5:x.op=5
 .exact .inl ⟨h5,by rw[if_pos h5]⟩
 .rw[if_neg h5]
  split
  .exact .inr (.inl ⟨h5,_,rfl,rfl⟩)
  split
  .exact .inr (.inl ⟨h5,_,rfl,rfl⟩)
  split
  .exact .inr (.inl ⟨h5,_,rfl,rfl⟩)
  split
  .exact .inr (.inl ⟨h5,_,rfl,rfl⟩)
  .exact .inr (.inr ⟨rfl,by rw[if_neg (by rintro⟨h,_⟩;exact h5 h)]⟩)
def VL {p:Prog} {x:Node} (h:x.op=5) {size:Int} (hn:Nr p x size=true):0<=x.n/\x.n<p.Dx.length/\J2 p x=p.Dx.getD x.n.toNat 0:=by
 have h2:0<=x.n/\x.n<p.Dx.length:=by
  simp only[Nr,h]at hn;simpa using hn
 refine⟨h2.1,h2.2,?_⟩;unfold J2;rw[h,if_neg (by decide),if_neg (by decide),if_neg (by decide),if_neg (by decide),if_pos ⟨rfl,h2.1,h2.2⟩]
def ky {p:Prog} {next:Bool} {n size depth:Int} {s:List Int} (h:n<0\/(p.nodes.length:Int)<=n\/0<=s.getD n.toNat 0\/12<depth):Fj p next n size depth s=none:=by
 unfold Fj;rw[if_pos h]
def kz {p:Prog} {next:Bool} {n size depth:Int} {s:List Int} {y:Int} {x:Node} (h0:0<=n) (h1:n<(p.nodes.length:Int)) (hy:s[n.toNat]? =some y) (hy0:y<0) (hd:depth<=12) (hx:p.nodes[n.toNat]? =some x):Fj p next n size depth s=if ET p next size x then some (s.set n.toNat size)else none:=by
 have e:s.getD n.toNat 0=y:=by rw[C6,hy];rfl
 unfold Fj;rw[if_neg (by rw[e];omega),hx]
def ABa (p:Prog) (nO:Nat) (v:V) (rest:List At) (o:Option (List Int)) (r:R) (Z:AE):Prop:=
 match o with
 | some s=>r= .ret (.t [])/\Sat Z (hOut nO v s++rest)
 | none=>r= .Bk EA/\ ∃s:List Int,s.length=p.nodes.length/\Sat Z (hOut nO v s++rest)
def VY (p:Prog) (next:Bool) {v:V} {nO:Nat} (hv:(CC v).isSome=true) (n size:Int) (s:List Int) (h0:0<=size) (h1:size<=20) (hl:s.length=p.nodes.length) (rest:List At) (Z:AE) (hs:Sat Z (hOut nO v s++rest)) :
    Au zP 284 [eI n,eI size,.b next,.rp (BG p),.p nO 0] Z (ABa p nO v rest (CZ p next 12 n size s)):=by
 refine Au.fit (by kernel_rfl) fun hf=>?_
 have hM:=Mx
 have hfp:FX (.a (BG p)):=by
  have:=hf.2.2.2.1;simp only[VT]at this;simpa only[Hn]using this
 have⟨p1,p2,p3,p4⟩:=Gn hfp;refine xI kZ ?_
 conv=>whnf
 repeat'((first|clear U K|apply st|(apply zk;intro K U)|refine zY ?_|refine Pure.use (m8 _ _ _ _) ?_|refine zo fun nn hnn Z hs=>?_|fail)<;>conv=>whnf)
 refine Au.mono (vE p next (L:=nn) (v:=v) (nO:=nO) ?_ n size s h0 h1 hl rest Z hs) ?_
 .refine PC (fun y=>rfl) ?_
  clear hs hnn hl h0 h1;rintro⟨k,sz,dp⟩ s ⟨d0,d1,d2,d3,hl⟩ rest Z hs;dsimp only at d0 d1 d2 d3 hl;dsimp only;rw[show eaP (k,sz,dp)= [eI k,.a [eI sz,eI dp]] from rfl]
  conv=>whnf
  repeat'((first|apply st|(apply sq;intro K U)|(apply si;intro A B hA hB)|(refine hA _ _ ?_;clear hB B hA A)|(refine hB _ _ _ ?_;clear hB B hA A)|(refine hB _ _ fun Z hsub=>?_;clear hB B hA A)|(apply U;clear U K)|apply dr|refine rk ?_ ?_|exact fun s e=>by cases e;rfl|refine⟨rfl,?_⟩|refine⟨kZ,?_⟩|refine iq fun x hx=>?_|refine ld ?_|refine snb fun Z hs=>?_|refine oi ?_|refine ol fun x hx=>?_|refine oset fun Z hs=>?_|refine cft ?_|refine cff ?_|(refine Cx (fun hc=>?_) (fun hc=>?_)<;>(replace hc:=bp hc)<;>(try simp(disch:=omega) only[B9,wrap64,Ag]at hc)<;>(try(cases hc;done)))|refine Pure.use (eK _ _ _) ?_|refine Pure.use (ec _) ?_|(rcases YE p (by assumption)with⟨e5,ek⟩|⟨e5,m,ek,hm⟩|⟨ek,hm⟩<;>rw[ek]<;>clear ek)|refine tB rfl ?_|refine tasN (by decide) ?_|refine kY rfl (Pure.use (AAc _ _ _) ?_)|refine kY rfl (Pure.use (rG _ _ (VL (by assumption) (by assumption)).1 (VL (by assumption) (by assumption)).2.1) ?_)|(constructor<;>intro hc<;>(try rw[hc])<;>(replace hc:=bp hc)<;>(try simp(disch:=omega) only[B9,wrap64,Ag]at hc))|(intro nn hnn;generalize hg:B7 _ nn _=Z;refine alF hg fun hs=>?_;clear hg)|clear U K)<;>conv=>whnf)
  all_goals first
   | (intro hn;refine TP (s:=s) (by rw[ky (by first|omega|(rw[C6,‹s[k.toNat]? =some _›];simp only[Option.getD_some];omega))];rfl) hl (hs.less (by repeat first|exact List.Sublist.refl _|apply List.Sublist.cons)) hn)
   | skip
  all_goals
   have hva:=kz (next:=next) (size:=sz) (depth:=dp) (show 0<=k by omega) (show k<(p.nodes.length:Int) by omega) ‹s[k.toNat]? =some _› (by assumption) (by omega) ‹p.nodes[k.toNat]? =some _›
   rename Node=>x
   have hk5:x.op=5->Nr p x sz=true->J2 p x=p.Dx.getD x.n.toNat 0:=fun h hn=>(VL h hn).2.2
   intro hn
  all_goals first
   | (rw[if_neg (by first|(intro h;rw[ET,hk5 (by assumption) (by assumption)]at h;simp only[A9,C0]at h;exact absurd h.1 (by assumption))|(simp[ET, *];done)|(simp[ET, *];omega)|(rw[ET,hk5 (by assumption) (by assumption)];simp[*];done)|(simp[ET, *];intros;omega))]at hva
      refine TP (s:=s.set k.toNat sz) (by rw[hva];rfl) (by simpa using hl) ?_ hn
      first
       | exact hs.less (by repeat first|exact List.Sublist.refl _|apply List.Sublist.cons)
       | exact(hs.less (by repeat first|exact List.Sublist.refl _|apply List.Sublist.cons)).up (by assumption))
   | (rw[if_pos (by first|(simp[ET, *];done)|(rw[ET,hk5 (by assumption) (by assumption)];simp[*];done))]at hva
      exact XA (s:=s.set k.toNat sz) (by rw[hva];rfl) (hs.less (by repeat first|exact List.Sublist.refl _|apply List.Sublist.cons)) hn)
 .cases hw:CZ p next 12 n size s with
  | none=>
    rintro r Z' ⟨rfl,s',hj,hs'⟩
    conv=>whnf
    exact DS ⟨rfl,s',hj,hs'⟩
  | some s2=>
    rintro r Z' ⟨rfl,hs'⟩;refine M3 hs' fun Z2 hs2=>?_
    conv=>whnf
    exact AI ⟨rfl,hs2⟩
def Ct (w:AF):Prop:=JW w.parents/\w.owner.length<=40/\ ∀o∈w.owner,(3:Int)<=o/\o<3+(w.parents.length:Int)
def UN (us:List Nat) (l:List Int) (s:Nat):Nat:=l.foldl (fun s c=>s|||us.getD c.toNat 0) s
def Bs (g:List (List Int)):Nat->List Nat
 | 0=>[1,3,5]
 | k+1=>Bs g k++[UN (Bs g k) (g.getD k []) (1|||2 ^ (3+k))]
def Bc (g:List (List Int)):List Nat:=Bs g g.length
def oB (us:List Nat):List V:=us.map eU++List.replicate (63 - us.length) (eU 0)
def wC (w:AF) (us:List Nat):List V:=Az w++oB us
def Dh (g:List (List Int)): ∀k,(Bs g k).length=3+k
 | 0=>rfl
 | k+1=>by simp[Bs,Dh g k];omega
def ic (w:AF) {us:List Nat} (h:us.length<=63):(wC w us).length=65:=by
 simp only[wC,Az,oB,Nl,LF,List.length_nil,B9,List.length_replicate];omega
def ib (w:AF) (us:List Nat) (s:Nat) (h:us.length<63):(wC w us).set (2+us.length) (eU s)=wC w (us++[s]):=by
 simp only[wC,oB];rw[List.set_append_right _ _ (by simp[Az])];congr 1;have e:2+us.length - (Az w).length=us.length:=by simp[Az]
 rw[e,List.set_append_right _ _ (by simp)];rw[B9,Nat.sub_self,SU,PR];congr 1;rw[show 63 - us.length=(63 - (us++[s]).length)+1 by simp;omega,List.replicate_succ];rfl
def rZ (w:AF) (us:List Nat) {i:Nat} (h:i<us.length):(wC w us)[2+i]? =some (eU (us.getD i 0)):=by
 simp only[wC,oB];rw[List.getElem?_append_right (by simp[Az]),show 2+i - (Az w).length=i by simp[Az],cz (by simpa using h),Jm,Cs h,C6,Cs h];rfl
def sx (us:List Nat):Prop:= ∀u∈us,u<18446744073709551616
def Uf {us:List Nat} (h:sx us) (i:Nat):us.getD i 0<18446744073709551616:=by
 rw[C6];cases hx:us[i]? with
 | none=>simp
 | some x=>exact h x (Bp hx)
def Pp {us:List Nat} (h:sx us): ∀(l:List Int) (s:Nat),s<18446744073709551616->UN us l s<18446744073709551616
 | [],_,hs=>hs
 | c::r,s,hs=>Pp h r _ (IA hs (Uf h _))
def Gv (g:List (List Int)): ∀k,k<=60->sx (Bs g k)
 | 0,_=>by intro u hu;simp[Bs]at hu;omega
 | k+1,hk=>by
   intro u hu;simp only[Bs,Dy,KV]at hu;rcases hu with hu|rfl
   .exact Gv g k (by omega) u hu
   .exact Pp (Gv g k (by omega)) _ _ (IA (by decide) (Gr (by omega)))
def uJ (w:AF) (us:List Nat) (c:Int) {n:Nat} (hM:w.parents.length<=60):BQ zP 247 [.p n 0,eI c] [.box n (wC w us)] fun r post=>r= .ret (.b (decide (3<=c)&&decide (c<3+(w.parents.length:Int))))/\post= [.box n (wC w us)]:=by
 intro Z hs;have hw:IntKind.i64.wrap (3+((EN w.parents).length:Nat))=3+(w.parents.length:Int):=by rw[B9,wrap64 (by omega) (by omega)]
 refine xi kZ ?_
 conv=>whnf
 repeat'((first|clear U K|apply st|(apply zk;intro K U)|refine zY ?_|refine za (fun hc=>?_) fun hc=>?_|fail)<;>conv=>whnf)
 .refine AI ⟨_,⟨?_,rfl⟩,hs⟩
  rw[hw,decide_eq_true (show 3<=c by omega)];rfl
 .refine AI ⟨_,⟨?_,rfl⟩,hs⟩
  rw[decide_eq_false (show¬3<=c by omega)];rfl
def ml (w:AF) (us:List Nat) (c:Int) (hM:w.parents.length<=60):Pure zP 305 [.rp (wC w us),eI c] (.b (Si w c)):=by
 have hw:IntKind.i64.wrap (3+((EN w.parents).length:Nat))=3+(w.parents.length:Int):=by rw[B9,wrap64 (by omega) (by omega)]
 refine wk kZ ?_;have hs:=Sn
 conv=>whnf
 repeat'((first|clear U K|apply st|(apply zk;intro K U)|refine zY ?_|refine za (fun hc=>?_) fun hc=>?_|fail)<;>conv=>whnf)
 .refine AH ?_
  rw[hw,Si,decide_eq_true (show 0<=c by omega)];rfl
 .refine AH ?_
  rw[Si,decide_eq_false (show¬0<=c by omega)];rfl
def oa (w:AF) (us:List Nat) (c:Int) (hM:w.owner.length<=60):Pure zP 336 [.rp (wC w us),eI c] (.b (JR w c)):=by
 refine wI kZ ?_;have hs:=Sn
 conv=>whnf
 repeat'((first|clear U K|apply st|(apply zk;intro K U)|refine zY ?_|refine za (fun hc=>?_) fun hc=>?_|fail)<;>conv=>whnf)
 .refine AH ?_
  rw[JR,decide_eq_true (show 0<=c by omega),B9];rfl
 .refine AH ?_
  rw[JR,decide_eq_false (show¬0<=c by omega)];rfl
def pC (w:AF) (us:List Nat) (l:List Int) (f:Bool) (hM:w.owner.length<=60):Pure zP 304 [.rp (wC w us),.l (iL l) f] (.b (Fb w l)):=by
 have hall:=rM (g:=336) (fi:=[.rp (wC w us)]) (ca:=[]) (f:=JR w) (xs:=l) f (fun y _=>oa w us y hM);refine wm kZ ?_;have hs:=Sn
 conv=>whnf
 repeat'((first|clear U K|apply st|(apply zk;intro K U)|refine zY ?_|refine zC ?_|(refine zd (fun hc=>?_) (fun hc=>?_)<;>try exact⟨⟩)|fail)<;>conv=>whnf)
 .refine AH ?_
  rw[Fb,decide_eq_true (show l.length<=2 by omega),Bool.and_true];rfl
 .refine AH ?_
  rw[Fb,decide_eq_false (show¬l.length<=2 by omega),Bool.and_false];rfl
def IG (s:Nat) (c:Int) (hs0:s<18446744073709551616) (h0:0<=c) (hc:c<64):Pure zP 245 [eU s,eI c] (eU (s|||2 ^ c.toNat)):=by
 have:=ae s c.toNat hs0 (by omega);rw[Int.toNat_of_nonneg h0]at this;exact this
def up3 {k:Nat} (h:k<3):([1,3,5]:List Nat).take k++[1|||2 ^ k]= [1,3,5].take (k+1):=by
 rcases k with _|_|_|k
 .rfl
 .rfl
 .rfl
 .omega
def pM (w : AF) (hw:Ct w):Pure zP 174 [.a (Az w)] (.t [.rp (wC w (Bc w.parents)),.b true]):=by
 obtain⟨⟨hl,hrow⟩,ho,how⟩:=hw;have hM:=Mx;refine Pure.of ?_;refine yZ kZ ?_;have hs:=Sn;have hi1:((EN w.parents).length:Int)<=60:=by rw[B9];omega
 have hi2:((iL w.owner).length:Int)<=40:=by rw[B9];omega
 conv=>whnf
 repeat'((first|clear U K|apply st|(apply zk;intro K U)|refine zY ?_|(refine zb (fun hc=>?_) (fun hc=>?_)<;>try exact⟨⟩)|refine zo fun nn hnn Z hs=>?_|fail)<;>conv=>whnf)
 generalize nn=n0 at *;refine B1 3 (fun k (_:Unit)=>[(24,eI (A4 k))]) (fun k _=>[.box n0 (wC w ([1,3,5].take k))]) (fun k _=>True) () rfl trivial hs ?_;clear hs;rintro k - Z hk - hs;have hck:A4 k=k:=Ag (by omega);have hlen:(([1,3,5]:List Nat).take k).length=k:=by simp;omega
 by_cases hlt:k<3
 .have hst:=ib w ([1,3,5].take k) (1|||2 ^ k) (by omega)
  rw[hlen,up3 hlt]at hst
  conv=>whnf
  repeat'((first|clear U K|apply st|(apply zk;intro K U)|refine zY ?_|refine Pure.use (IG 1 _ (by decide) (by omega) (by omega)) ?_|(refine zb (fun hc=>?_) (fun hc=>?_)<;>try exact⟨⟩)|fail)<;>conv=>whnf)
  refine Mg hs 0 rfl rfl (by rw[ic w (by omega)];omega) fun Z hs=>?_
  refine zz ?_;(repeat clear U K);repeat intro K U
  refine⟨hlt,(),rfl,trivial,?_⟩;rw[hck,Fi,Nat.mul_one,HG]at hs;simp only[List.set_cons_zero]at hs;rw[hst]at hs;exact hs
 .have hke:k=3:=by omega
  subst hke;clear hk hck hlen hlt
  conv=>whnf
  repeat'((first|clear U K|apply st|(apply zk;intro K U)|refine zY ?_|(refine zb (fun hc=>?_) (fun hc=>?_)<;>try exact⟨⟩)|fail)<;>conv=>whnf)
  refine B1 w.parents.length (fun k (_:Unit)=>[(38,eI (A4 k))]) (fun k _=>[.box n0 (wC w (Bs w.parents k))]) (fun k _=>True) () rfl trivial hs ?_;clear hs;rintro k - Z hk - hs;have hck:A4 k=k:=Ag (by omega);have hul:=Dh w.parents k;have huo:=Gv w.parents k (by omega);have hw3:IntKind.i64.wrap (3+(k:Int))=3+(k:Int):=wrap64 (by omega) (by omega);rcases A8 w.parents hk with⟨row,hr,hlt⟩|hke
  .obtain⟨r1,r2,r3⟩:=hrow k row hr
   rw[<-hck]at hw3
   conv=>whnf
   repeat'((first|clear U K|apply st|(apply zk;intro K U)|refine zY ?_|refine Pure.use (IG 1 _ (by decide) (by omega) (by omega)) ?_|fail)<;>conv=>whnf)
   have hbig:sx (Bs w.parents k):=huo;have hst0:IntKind.i64.wrap (3+A4 k)=3+(k:Int):=by rw[hck];exact wrap64 (by omega) (by omega)
   have hs0lt:1|||2 ^ (3+k)<18446744073709551616:=IA (by decide) (Gr (by omega))
   have hs0e:1|||2 ^ (IntKind.i64.wrap (3+A4 k)).toNat=1|||2 ^ (3+k):=by rw[hst0,show(3+(k:Int)).toNat=3+k by omega]
   rw[hs0e];refine B1 row.length (fun j (s:Nat)=>[(48,eI (A4 j)),(8,eU s)]) (fun _ _=>[.box n0 (wC w (Bs w.parents k))]) (fun j s=>s=UN (Bs w.parents k) (row.take j) (1|||2 ^ (3+k))) (1|||2 ^ (3+k)) rfl rfl hs ?_;clear hs;rintro j s Z hj hse hs;rcases A8 row hj with⟨c,hcj,hjlt⟩|hje
   .obtain⟨q1,q2⟩:=r3 c (Bp hcj)
    have hload:(wC w (Bs w.parents k))[0+2+c.toNat*1]? =some (eU ((Bs w.parents k).getD c.toNat 0)):=by
     have:=rZ w (Bs w.parents k) (i:=c.toNat) (by omega);rw[<-this];congr 1;omega
    have hnc:(row.take j).contains c=false:=by
     rw[<-Bool.not_eq_true,List.contains_iff_mem];intro hm;obtain⟨i,hi,he⟩:=List.mem_iff_getElem.1 hm;have hi':i<j:=by rw[Jl]at hi;omega
     rw[List.getElem_take]at he;have hcj':=(JL.1 hcj).2;exact absurd ((List.getElem_inj r2).1 (he.trans hcj'.symm)) (by omega)
    have hct: ∀b,Pure zP 34 [.l (iL (row.take j)) b,eI c] (.b false):=fun b=>by
     have:=C3 (row.take j) b c
     rwa [hnc]at this
    conv=>whnf
    repeat'((first|clear U K|apply st|(apply zk;intro K U)|refine zY ?_|refine Pure.use (hct _) ?_|(rw[hload])|(refine zb (fun hc=>?_) (fun hc=>?_)<;>try exact⟨⟩)|fail)<;>conv=>whnf)
    refine⟨hjlt,s|||(Bs w.parents k).getD c.toNat 0,?_,?_,hs⟩
    .have hsl:s<18446744073709551616:=by rw[hse];exact Pp huo _ _ hs0lt
     rw[HT hsl (Uf huo _)];rfl
    .rw[hse,AN hcj]
     simp only[UN,List.foldl_append];rfl
   .refine zz ?_;(repeat clear U K);repeat intro K U
    refine Mg hs 0 rfl rfl (by rw[ic w (by omega),hst0];omega) fun Z hs=>?_
    refine zz ?_;(repeat clear U K);repeat intro K U
    refine⟨hlt,(),rfl,trivial,?_⟩
    have e:Bs w.parents (k+1)=Bs w.parents k++[s]:=by
     rw[hse,Bs,C6,hr,hje,List.take_length];rfl
    have hst:=ib w (Bs w.parents k) s (by omega);rw[e,<-hst];have e2:0+2+(IntKind.i64.wrap (3+A4 k)).toNat*1=2+(Bs w.parents k).length:=by rw[hst0,hul];omega
    rw[e2]at hs;exact hs
  .have hown:=kG 247 [.p n0 0] [] (fun _=>[.box n0 (wC w (Bs w.parents k))]) (WS fun c=>decide (3<=c)&&decide (c<3+(w.parents.length:Int))) (fun _ _=>True) (fun y s _ Z hs=>BO (Au.mono (uJ w (Bs w.parents k) y (by omega) Z hs) (by
    rintro r Z' ⟨post,⟨h1,h2⟩,h3⟩;subst h2
    exact⟨h1,h3⟩))) w.owner false () (Hl fun _ _ _=>trivial)
   rw[K3]at hown
   have hall:(w.owner.all fun c=>decide (3<=c)&&decide (c<3+(w.parents.length:Int)))=true:=by
    rw[EG];intro o hoo;have:=how o hoo;simp only[A9,Cp];exact this
   rw[hall]at hown;refine zz ?_;(repeat clear U K);repeat intro K U
   refine hown.use (rest:=[]) hs ?_;rintro r post Z ⟨rfl,rfl⟩ hs;refine zz ?_;(repeat clear U K);repeat intro K U
   rw[hke]at hs;exact HW (Z2:=emp) (fun n o ho=>by cases ho) (.t (.cons (hs.oG 0 rfl (.refl _ _ _)) (.cons (.refl _) .nil))) rfl
def N5 (w:AF) (f:Fact):Bool:=decide (0<=f.arg)&&(decide (f.arg<3)&&(Fb w f.path&&(if f.op=2 then f.n==0&&Si w f.cls else f.cls==0&&(decide (-1000000000<=f.n)&&decide (f.n<=1000000000)))))
def E2 (w:AF) (f:Fact):Int->Int->Bool×Int:=f.H6 fun f l left deep=>
 if IntKind.i64.wrap (left - 1)<0\/deep=0\/f.op<1\/7<f.op\/f.kids.length≠Ch f.op then(false,IntKind.i64.wrap (left - 1))else
 if CK f then(N5 w f,IntKind.i64.wrap (left - 1))else
 if f.arg≠0\/0<f.path.length\/f.cls≠0\/f.n≠0 then(false,IntKind.i64.wrap (left - 1))else
 CS (fun(k:Int->Int->Bool×Int) s=>k s (deep - 1)) l (IntKind.i64.wrap (left - 1))
def NO {α β S:Type} (g:α->β) (stp:β->S->Bool×S): ∀(l:List α) (s:S),CS stp (l.map g) s=CS (fun a s=>stp (g a) s) l s
 | [],_=>rfl
 | a::r,s=>by simp only[FA,CS,NO g stp r]
def IJ (w:AF) (f:Fact) (left deep:Int):E2 w f left deep =
    if IntKind.i64.wrap (left - 1)<0\/deep=0\/f.op<1\/7<f.op\/f.kids.length≠Ch f.op then(false,IntKind.i64.wrap (left - 1))else
    if CK f then(N5 w f,IntKind.i64.wrap (left - 1))else
    if f.arg≠0\/0<f.path.length\/f.cls≠0\/f.n≠0 then(false,IntKind.i64.wrap (left - 1))else
    CS (fun k s=>E2 w k s (deep - 1)) f.kids (IntKind.i64.wrap (left - 1)):=by
 rw[E2,Fact.Dw,NO];rfl
def aM {w:AF} {f:Fact} {left deep L1:Int} {b:Bool} {nL:Nat} {Z:AE} (hs:Sat Z [.box nL [eI L1]]) (h:E2 w f left deep=(b,L1)):Am Z (.b b) fun r Z'=> ∃post:List At,(r=R.ret (.b (E2 w f left deep).1)/\post= [.box nL [eI (E2 w f left deep).2]])/\Sat Z' post:=by
 rw[h];exact AI ⟨_,⟨rfl,rfl⟩,hs⟩
def pT (w:AF) (us:List Nat) (hw1:w.parents.length<=60) (hw2:w.owner.length<=60) (nL:Nat) (f:Fact): ∀(left deep:Int),0<=deep->deep<=12->
    BQ zP 250 [.rp (wC w us),.a (xF f),.p nL 0,eI deep] [.box nL [eI left]] fun r post=>r= .ret (.b (E2 w f left deep).1)/\post= [.box nL [eI (E2 w f left deep).2]]:=by
 induction f using Fact.ind with
 | h f ih=>
   intro left deep hd0 hd1 Z hs;refine Au.fit (by kernel_rfl) fun hf=>?_
   have⟨h2,h3,h4⟩:=LL hf.2.1;have hM:=Mx;have hdw:IntKind.i64.wrap (deep - 1)=deep - 1:=wrap64 (by omega) (by omega);refine xf kZ ?_
   have hstep:DG zP (.f (.func 306) [] [.rp [.rp (wC w us)],.rp [.p nL 0],.rp [eI deep]]) (fun y=> .a (xF y)) (fun s=>[.box nL [eI s]]) (fun k s=>E2 w k s (deep - 1)) (fun y _=>y∈f.kids/\deep≠0):=by
    rintro y s ⟨hy,hdn⟩ Z hs;refine BO ?_;show Au zP 306 ([]++[.a (xF y)]++[.rp [.rp (wC w us)],.rp [.p nL 0],.rp [eI deep]]) Z _;refine wj kZ ?_;refine zz ?_;(repeat clear U K);repeat intro K U
    rw[hdw];refine(ih y hy s (deep - 1) (by omega) (by omega)).use (rest:=[]) hs ?_;rintro r post Z ⟨rfl,rfl⟩ hs;refine zz ?_;(repeat clear U K);repeat intro K U
    exact AI ⟨rfl,hs⟩
   conv=>whnf
   repeat'((first|clear U K|apply st|(apply zk;intro K U)|refine zY ?_|refine rk ?_ ?_|exact fun s e=>by cases e;rfl|refine zs fun Z hs=>?_|refine Pure.use (VH _) ?_|refine Pure.use (pw _) ?_|refine Pure.use (ml w us _ hw1) ?_|refine Pure.use (pC w us _ _ hw2) ?_|(refine zd (fun hc=>?_) (fun hc=>?_)<;>try exact⟨⟩)|fail)<;>conv=>whnf)
   all_goals first
    | (refine aM hs ?_;rw[IJ,if_pos (by omega)];done)
    | (refine aM hs ?_;rw[IJ,if_neg (by omega),if_pos (by assumption)];simp[N5, *];done)
    | (refine aM hs ?_;rw[IJ,if_neg (by omega),if_pos (by assumption)];simp[N5, *];intros;omega)
    | (refine aM hs ?_;rw[IJ,if_neg (by omega),if_neg (by simp[*]),if_pos (by omega)];done)
    | skip
   refine(kF 306 [] _ _ _ _ hstep f.kids false (IntKind.i64.wrap (left - 1)) h2 (Hl fun y hy _=>⟨hy,by omega⟩)).use (rest:=[]) hs ?_;have hE:=IJ w f left deep;rw[if_neg (by omega),if_neg (by simp[*]),if_neg (by omega)]at hE;rw[<-hE];rintro r post Z ⟨rfl,rfl⟩ hs;refine zz ?_;(repeat clear U K);repeat intro K U
   exact AI ⟨_,⟨rfl,rfl⟩,hs⟩
def MR (w:AF) (f:Fact):Bool:=(E2 w f 24 12).1
def fG (w:AF) (us:List Nat) (hw1:w.parents.length<=60) (hw2:w.owner.length<=60) (f:Fact):Pure zP 249 [.a (xF f),.rp [.rp (wC w us)]] (.b (MR w f)):=by
 refine Pure.of ?_;refine xg kZ ?_;have hs:=Sn
 conv=>whnf
 repeat'((first|clear U K|apply st|(apply zk;intro K U)|refine zY ?_|refine zs fun Z hs=>?_|refine zo fun nn hnn Z hs=>?_|fail)<;>conv=>whnf)
 refine(pT w us hw1 hw2 _ f 24 12 (by omega) (by omega)).use (rest:=[]) hs ?_;rintro r post Z ⟨rfl,rfl⟩ hs;refine zz ?_;(repeat clear U K);repeat intro K U
 exact AI rfl
def rL {g:FuncId} {fi ca:List V} {f:Fact->Bool} {xs:List Fact} (b:Bool) (hl:xs.length<=Aa) (h: ∀y∈xs,Pure zP g (fi++[.a (xF y)]++ca) (.b (f y))):Pure zP 248 [.l (facts xs) b,.f (.func g) fi ca] (.b (xs.all f)):=by
 have:=kF g fi ca (fun _=>[]) (fun y (_:Unit)=>(f y,())) (fun y _=>y∈xs) (fun y s hy Z hs=>BO (Au.mono ((h y hy).use (k:=fun v Z'=>v= .b (f y)/\Sat Z' []) (kp:=fun _ _=>False) ⟨rfl,Sat.nil⟩) (by
  rintro(v|v) Z' hq
  .obtain⟨rfl,h⟩:=hq
   exact⟨rfl,h⟩
  .exact hq.elim))) xs b () hl (Hl fun y hy _=>hy)
 rw[K3]at this;exact Pure.of (Au.mono (this emp Sat.nil) fun r Z' ⟨post,⟨h1,h2⟩,h3⟩=>h1)
def fI (w:AF) (us:List Nat) (hw1:w.parents.length<=60) (hw2:w.owner.length<=60) (l:List Fact) (b:Bool) (hl:l.length<=60):Pure zP 175 [.rp (wC w us),.l (facts l) b] (.b (l.all (MR w))):=by
 have hall:=rL (g:=249) (fi:=[]) (ca:=[.rp [.rp (wC w us)]]) (f:=MR w) (xs:=l) b (by simp only[Aa];omega) fun y _=>fG w us hw1 hw2 y
 refine yY kZ ?_;have hs:=Sn;exact zW
def bD (w:AF) (hw:Ct w) (l:List Fact) (b:Bool) (hl:l.length<=60):Pure zP 118 [.a (Az w),.l (facts l) b] (.t [.rp (wC w (Bc w.parents)),.b (l.all (MR w))]):=by
 have hfo:=fI w (Bc w.parents) (by have:=hw.1.1;omega) (by have:=hw.2.1;omega) l b hl;refine y6 kZ ?_;have hs:=Sn
 conv=>whnf
 repeat'((first|clear U K|apply st|(apply zk;intro K U)|refine zY ?_|refine Pure.use (pM w hw) ?_|refine hfo.use ?_|fail)<;>conv=>whnf)
 all_goals exact AH rfl
def gC (w:AF) (hw:Ct w) (f:Fact):Pure zP 146 [.a (Az w),.a (xF f)] (eI (if MR w f then 0 else 2)):=by
 have hfo: ∀b,Pure zP 118 [.a (Az w),.l [Fh f] b] (.t [.rp (wC w (Bc w.parents)),.b (MR w f)]):=fun b=>by
  have:=bD w hw [f] b (by simp);simpa using this
 refine yl kZ ?_;have hs:=Sn;refine zz ?_;(repeat clear U K);repeat intro K U
 rw[Bh]at hfo;refine(hfo _).use ?_
 conv=>whnf
 repeat'((first|clear U K|apply st|(apply zk;intro K U)|refine Pure.use (ZT _) ?_|fail)<;>conv=>whnf)
 exact AH rfl
end Go.Gl
namespace Go.Gl
def NU {most:Int}: ∀(l:List Fact) (n:Int),(∀k∈l,∀m:Int,(Nj k:Int)<=m->Cg k m=Nj k)->n+(l.map Nj).sum<=most->Dn (l.map Cg) n most=n+(l.map Nj).sum
 | [],n,_,_=>by simp[Dn]
 | k::r,n,h,h1=>by
   simp only[FA,List.sum_cons,Dn]at *;rw[if_pos (by omega),h k (.head _) (most - n) (by omega),NU r _ (fun k' hk'=>h k' (.tail _ hk')) (by omega)];omega
def Vf (f:Fact): ∀m:Int,(Nj f:Int)<=m->Cg f m=Nj f:=by
 induction f using Fact.ind with
 | h f ih=>
   intro m hm;rw[Kt];rw[Ll]at *;rw[NU f.kids 1 ih (by omega)];omega
def eN (f:Fact) {m:Int} (h0:0<=m):Cg f m<=m↔(Nj f:Int)<=m:=
 ⟨fun h=>by rw[<-Ly f m h0 h];exact h,fun h=>by rw[Vf f m h];exact h⟩
def qv (f:Fact):1<=Nj f:=by rw[Ll];omega
def G6 {m:Int}: ∀(l:List Int) (a:Int),l.foldl LC a<=m↔a<=m/\ ∀x∈l,x<=m
 | [],a=>by simp
 | x ::r,a=>by
   rw[List.foldl_cons,G6 r];unfold LC;constructor
   .rintro⟨h1,h2⟩
    refine⟨by split at h1<;>omega,fun y hy=>?_⟩;rcases GM.1 hy with rfl|hy
    .split at h1<;>omega
    .exact h2 y hy
   .rintro⟨h1,h2⟩
    have hx:=h2 x (.head _);exact⟨by split<;>omega,fun y hy=>h2 y (.tail _ hy)⟩
def mb (f:Fact) {m:Int}:EW f<=m↔1<=m/\ ∀k∈f.kids,EW k<=m - 1:=by
 rw[Ic];constructor
 .intro h
  have:=(G6 (m:=m - 1) (f.kids.map EW) 0).1 (by omega);exact⟨by omega,fun k hk=>this.2 _ (List.mem_map_of_mem hk)⟩
 .rintro⟨h1,h2⟩
  have:=(G6 (m:=m - 1) (f.kids.map EW) 0).2 ⟨by omega,fun x hx=>by
   obtain⟨k,hk,rfl⟩:=Il.1 hx
   exact h2 k hk⟩
  omega
def iI (w:AF) (f:Fact) (left deep:Int):Prop:=(Nj f:Int)<=left/\EW f<=deep/\Bb w f=true
def UC (w:AF) {deep:Int}: ∀(l:List Fact) (left:Int),0<=left->left<=24->(∀k∈l,∀left:Int,0<=left->left<=24->((E2 w k left deep).1=true↔iI w k left deep)/\((E2 w k left deep).1=true->(E2 w k left deep).2=left - Nj k))->
    ((CS (fun k s=>E2 w k s deep) l left).1=true↔((l.map Nj).sum:Int)<=left/\ ∀k∈l,EW k<=deep/\Bb w k=true)/\((CS (fun k s=>E2 w k s deep) l left).1=true->(CS (fun k s=>E2 w k s deep) l left).2=left - ((l.map Nj).sum:Nat))
 | [],left,h0,h1,_=>by simp[CS];exact h0
 | k ::r,left,h0,h1,h=>by
   obtain⟨ha,hb⟩:=h k (.head _) left h0 h1;simp only[CS,FA,List.sum_cons];cases hk:(E2 w k left deep).1
   .simp only[ME,if_false,false_iff,false_implies,and_true]
    rintro⟨h2,h3⟩;have:=ha.2 ⟨by omega,(h3 k (.head _)).1,(h3 k (.head _)).2⟩;rw[hk]at this;cases this
   .obtain⟨g1,g2,g3⟩:=ha.1 hk
    have hc:=qv k;rw[if_pos rfl,hb hk];obtain⟨i1,i2⟩:=UC w r (left - Nj k) (by omega) (by omega) fun k' hk'=>h k' (.tail _ hk')
    refine⟨i1.trans ⟨fun⟨e1,e2⟩=>⟨by omega,fun x hx=>?_⟩,fun⟨e1,e2⟩=>⟨by omega,fun x hx=>e2 x (.tail _ hx)⟩⟩,fun h=>by rw[i2 h];omega⟩;rcases GM.1 hx with rfl|hx
    .exact⟨g2,g3⟩
    .exact e2 x hx
def pS (w : AF) (f:Fact): ∀left deep:Int,0<=left->left<=24->0<=deep->((E2 w f left deep).1=true↔iI w f left deep)/\((E2 w f left deep).1=true->(E2 w f left deep).2=left - Nj f):=by
 induction f using Fact.ind with
 | h f ih=>
   intro left deep h0 h1 hd;have hw:IntKind.i64.wrap (left - 1)=left - 1:=wrap64 (by omega) (by omega);rw[IJ,hw];have hc:=Ll f;have hn:=CO w f;have hdl:=mb f (m:=deep)
   have hko:DE w f=true->f.kids.length=Ch f.op:=fun h=>by
    simp only[DE,A9,C0]at h;exact h.2.1
   have hop:DE w f=true->1<=f.op/\f.op<=7:=fun h=>by
    simp only[DE,A9]at h;have h1:=h.1;unfold YX at h1;split at h1
    .omega
    split at h1
    .omega
    simp at h1;omega
   by_cases hbad:left - 1<0\/deep=0\/f.op<1\/7<f.op\/f.kids.length≠Ch f.op
   .rw[if_pos hbad]
    simp only[ME,false_iff,false_implies,and_true];rintro⟨g1,g2,g3⟩;rw[hn,A9]at g3;have g4:=hko g3.1;have g5:=hop g3.1;have g6:=(hdl.1 g2).1;omega
   rw[if_neg hbad];by_cases hl:CK f=true
   .rw [if_pos hl]
    have hl':f.op=2\/f.op=3\/f.op=4:=by
     simp only[CK,E9,C0]at hl;omega
    have hk0:f.kids= []:=by
     have:f.kids.length=Ch f.op:=by omega
     rw[Ch,if_neg (by omega),if_neg (by omega)]at this;exact YW.1 this
    have hd1:EW f=1:=by rw[Ic,hk0];rfl
    have hc1:Nj f=1:=by rw[hc,hk0];rfl
    have hh:DE w f=N5 w f:=by
     unfold DE YX N5;rw[hl,hk0];have e:Ch f.op=0:=by rw[Ch,if_neg (by omega),if_neg (by omega)]
     rw[e];simp only[List.length_nil,beq_self_eq_true,Ds,Bool.true_or,Bool.and_true];rcases hl' with e|e|e
     .rw[if_pos e,if_pos e]
      cases(f.n==0&&Si w f.cls)<;>simp
     .rw[if_neg (show¬f.op=2 by omega),if_neg (show¬f.op=2 by omega),if_pos (show f.op=3\/f.op=4 from .inl e)]
      cases(f.cls==0&&(decide (-1000000000<=f.n)&&decide (f.n<=1000000000)))<;>simp
     .rw[if_neg (show¬f.op=2 by omega),if_neg (show¬f.op=2 by omega),if_pos (show f.op=3\/f.op=4 from .inr e)]
      cases(f.cls==0&&(decide (-1000000000<=f.n)&&decide (f.n<=1000000000)))<;>simp
    refine⟨⟨fun h=>⟨by omega,by omega,?_⟩,fun⟨_,_,h⟩=>?_⟩,fun _=>by dsimp only;omega⟩
    .rw[hn,hk0,hh];simpa using h
    .rw[hn,hk0,hh]at h;simpa using h
   .have hl':f.op=1\/f.op=5\/f.op=6\/f.op=7:=by
     simp only[CK,E9,C0]at hl;omega
    have hlf:CK f=false:=by simpa using hl
    rw[if_neg hl];by_cases hz:f.arg≠0\/0<f.path.length\/f.cls≠0\/f.n≠0
    .rw[if_pos hz]
     simp only[ME,false_iff,false_implies,and_true];rintro⟨g1,g2,g3⟩;rw[hn,A9]at g3;have g4:=g3.1;simp only[DE,hlf,Bool.false_or,A9,C0]at g4;omega
    .rw [if_neg hz]
     obtain⟨i1,i2⟩:=UC w (deep:=deep - 1) f.kids (left - 1) (by omega) (by omega) fun k hk left hl0 hl1=>ih k hk left (deep - 1) hl0 hl1 (by omega)
     have hh:DE w f=true:=by
      have hp:f.path= []:=YW.1 (by omega)
      have e1:YX w f=true:=by
       unfold YX;rw[if_neg (by omega),if_neg (by omega)];simp only[E9,C0];omega
      have z1:f.arg=0:=by omega
      have z2:f.cls=0:=by omega
      have z3:f.n=0:=by omega
      have z4:f.kids.length=Ch f.op:=by omega
      simp[DE,e1,hlf,hp,z1,z2,z3,z4,Fb]
     refine⟨i1.trans ⟨fun⟨e1,e2⟩=>⟨by omega,hdl.2 ⟨by omega,fun k hk=>(e2 k hk).1⟩,?_⟩,fun⟨g1,g2,g3⟩=>⟨by omega,fun k hk=>⟨(hdl.1 g2).2 k hk,?_⟩⟩⟩,fun h=>by rw[i2 h];omega⟩
     .rw[hn,hh,Ds,EG]
      exact fun k hk=>(e2 k hk).2
     .rw[hn,hh,Ds,EG]at g3
      exact g3 k hk
def b6 (w:AF) (f:Fact):MR w f=DM w f:=by
 have:=(pS w f 24 12 (by omega) (by omega) (by omega)).1;rw[MR,DM,JK,this,iI];simp only[A9,Cp];rw[eN f (by omega)]
end Go.Gl
namespace Go.Gl
open Go.Proofs
attribute [local irreducible] Au Am Ae AR AK AY AQ AS AJ AX AM AO Ao A0 Sat AU Ay Af W
def NH {p:Prog} (h:BC p=true):Ct (AL p)/\Bt p.AP<=40/\p.AP.length<=10:=by
 have h1:=h;rw[SE]at h1;simp only[A9,Cp]at h1;have h2:=h;simp only[BC,A9,Cp]at h2;have hm:=(Fm _ _ h2.2.1).1;refine⟨⟨ED h1.2.2.2.1,?_,fun o ho=>?_⟩,by omega,h1.1⟩
 .rw[AL,Cj];omega
 .have:=Gb ho
  simp only[AL,A5,B9];omega
def nT (s:List Int):Prop:= ∀x∈s,(-1:Int)<=x
def qM {s:List Int} (h:nT s) (i:Nat) {x:Int} (hx:0<=x):nT (s.set i x):=fun y hy=>by
 rcases List.mem_or_eq_of_mem_set hy with hy|rfl
 .exact h y hy
 .omega
def XM {f:Int->Int->List Int->Option (List Int)} (hf: ∀ {a b s s'},0<=b->f a b s=some s'->nT s->nT s') {op size:Int} (h0:0<=size): ∀(i:Nat) (l:List Int) {s s':List Int},F8 f op size i l s=some s'->nT s->nT s'
 | _,[],s,s',h,hs=>by cases h;exact hs
 | i,k::r,s,s',h,hs=>by
   simp only[F8]at h;split at h
   .cases h
   .rename_i s1 h1
    refine XM hf h0 (i+1) r h (hf ?_ h1 hs);split<;>omega
def Ms {p:Prog} {next:Bool}: ∀(d:Nat) {n size:Int} {s s':List Int},0<=size->CZ p next d n size s=some s'->nT s->nT s'
 | 0,_,_,_,_,_,h,_=>by cases h
 | d + 1,n,size,s,s',h0,h,hs=>by
   simp only[CZ]at h;split at h
   .cases h
   .split at h
    .cases h
    .split at h
     .exact XM (fun hb h hs=>Ms d hb h hs) h0 0 _ h (qM hs _ h0)
     .cases h
def qN {s:List Int} (h:nT s):(s.all fun n=>decide (0<=n))= !s.contains (-1):=by
 rw[JK];simp only[EG,Cp,Bool.not_eq_true',<-Bool.not_eq_true,List.contains_iff_mem];constructor
 .intro h1 h2
  have:=h1 _ h2;omega
 .intro h1 x hx
  have:=h x hx;rcases Int.lt_or_le x 0 with hlt|hle
  .exact absurd ((show x= -1 by omega) ▸ hx) h1
  .exact hle
def zl (p:Prog) (nO:Nat) (r:R) (Z:AE):Prop:=
 match BX p with
 | some s=>r= .ret (.t [])/\ ∃v,Sat Z [.box nO [v],.own v 1 (iL s)]
 | none=>r= .Bk EA/\ ∃v s,Sat Z [.box nO [v],.own v 1 (iL s)]
def c9 {p:Prog} {nO:Nat} {Z:AE} {v:V} {s:List Int} {l:List At} (h:BX p=none) (hs:Sat Z l) (hsub: [At.box nO [v],.own v 1 (iL s)].Sublist l):Ae Z EA (zl p nO):=DS (by
 rw[zl,h]
 exact⟨rfl,v,s,hs.less hsub⟩)
def szT {p:Prog} {nO:Nat} {Z:AE} {v:V} {s:List Int} {l:List At} (h:BX p=some s) (hs:Sat Z l) (hsub: [At.box nO [v],.own v 1 (iL s)].Sublist l):Am Z (.t []) (zl p nO):=AI (by
 rw[zl,h]
 exact⟨rfl,v,hs.less hsub⟩)
def Ui {p:Prog} (h:DD p=false):BX p=none:=by unfold BX;rw[h];rfl
def rF {w:AF} {f:Fact} (h:DM w f=true):S6 f=true:=Rq (w:=w) f (by simp only[DM,A9]at h;exact h.2.2)
def Zq {w:AF} (hw:Ct w) (f:Fact):Pure zP 146 [.a (Az w),.a (xF f)] (eI (if DM w f then 0 else 2)):=by
 rw[<-b6];exact gC w hw f
def eF {α:Type} (a b c:α): [a,b,c].Perm [c,b,a]:=by simpa using(List.reverse_perm [a,b,c]).symm
def lK (p : Prog) (nO:Nat) (Z:AE) (hs:Sat Z [.box nO [.l [] true]]):Au zP 281 [.rp (BG p),.p nO 0] Z (zl p nO):=by
 refine Au.fit (by kernel_rfl) fun hf=>?_
 have hM:=Mx
 have hfp:FX (.a (BG p)):=by
  have:=hf.1;simp only[VT]at this;simpa only[Hn]using this
 have⟨p1,p2,p3,p4⟩:=Gn hfp;refine xK kZ ?_;have hcl:=Z7 p;replace hs:Sat Z [.box nO [.l [] true],.own (.l [] true) 1 (iL [])]:=D1 hs 1;cases hcB:BC p with
 | false=>
   rw[hcB]at hcl
   conv=>whnf
   repeat'((first|apply st|(apply sq;intro K U)|(apply si;intro A B hA hB)|refine⟨kZ,?_⟩|fail)<;>conv=>whnf)
   refine hcl.use (pre:=[]) (rest:=[.box nO [.l [] true],.own (.l [] true) 1 (iL [])]) hs ?_;rintro r post Z ⟨rfl,rfl⟩ hs
   conv=>whnf
   repeat'((first|(refine hB _ _ _ ?_;clear hB B hA A)|clear U K)<;>conv=>whnf)
   exact c9 (Ui (by simp[DD,hcB])) hs (.refl _)
 | true=>
   rw[hcB]at hcl;obtain⟨hgW,hmS,h10⟩:=NH hcB
   conv=>whnf
   repeat'((first|apply st|(apply sq;intro K U)|(apply si;intro A B hA hB)|refine⟨kZ,?_⟩|fail)<;>conv=>whnf)
   refine hcl.use (pre:=[]) (rest:=[.box nO [.l [] true],.own (.l [] true) 1 (iL [])]) hs ?_;clear hs;rintro r post Z ⟨rfl,rfl⟩ hs
   conv=>whnf
   repeat'((first|apply st|(apply sq;intro K U)|(apply si;intro A B hA hB)|(refine hA _ _ ?_;clear hB B hA A)|(refine hB _ _ _ ?_;clear hB B hA A)|(apply U;clear U K)|refine⟨rfl,?_⟩|(refine Cx (fun hc=>?_) (fun hc=>?_)<;>(replace hc:=bp hc)<;>(try simp(disch:=omega) only[B9,wrap64,Ag]at hc)<;>(try(cases hc;done)))|(constructor<;>intro hc<;>(try rw[hc])<;>(replace hc:=bp hc)<;>(try simp(disch:=omega) only[B9,wrap64,Ag]at hc))|clear U K)<;>conv=>whnf)
   rotate_left
   all_goals first
    | exact c9 (Ui (by simp[DD, *];intros;omega)) hs (.refl _)
    | skip
   have a1:p.Dx.length<=8:=by omega
   have a2:p.methods.length<=16:=by omega
   have a3:1<=p.nodes.length:=by omega
   have a4:p.nodes.length<=120:=by omega
   have hg:DD p=p.Dx.all fun g=>decide (1<=g)&&decide (g<=3):=by
    simp only[DD,a1,a2,a3,a4,decide_true,Ds];simp[*]
   refine B1 p.Dx.length (fun k (_:Unit)=>[(36,eI (A4 k))]) (fun _ _=>[.box nO [.l [] true],.own (.l [] true) 1 (iL [])]) (fun k _=>DD p=(p.Dx.drop k).all fun g=>decide (1<=g)&&decide (g<=3)) () rfl (by simpa using hg) hs ?_;clear hs hg;rintro k - Z hk hn hs;rcases A8 p.Dx hk with⟨g,hgk,hlt⟩|hke
   .rw[drop_cons hgk,K5]at hn
    conv=>whnf
    repeat'((first|apply st|(apply sq;intro K U)|(apply si;intro A B hA hB)|(refine hA _ _ ?_;clear hB B hA A)|(refine hB _ _ _ ?_;clear hB B hA A)|(apply U;clear U K)|refine⟨rfl,?_⟩|refine ix ?_|(refine z6 (fun hc=>?_)<;>(try rw[hc])<;>clear hc)|(refine Cx (fun hc=>?_) (fun hc=>?_)<;>(replace hc:=bp hc)<;>(try simp(disch:=omega) only[B9,wrap64,Ag]at hc)<;>(try(cases hc;done)))|(constructor<;>intro hc<;>(try rw[hc])<;>(replace hc:=bp hc))|clear U K)<;>conv=>whnf)
    .exact⟨hlt,(),rfl,by rw[hn];simp[*],hs⟩
    .exact c9 (Ui (by rw[hn,decide_eq_false (show¬g<=3 by omega)];simp)) hs (.refl _)
    .exact c9 (Ui (by rw[hn,decide_eq_false (show¬1<=g by omega)];simp)) hs (.refl _)
   .have hh : DD p=true:=by rw[hn,Ai hke];rfl
    have hL:=bV hh;clear hn
    conv=>whnf
    repeat'((first|apply st|(apply sq;intro K U)|(apply si;intro A B hA hB)|(refine hA _ _ ?_;clear hB B hA A)|(apply U;clear U K)|refine⟨rfl,?_⟩|(refine fcn (fun hc=>?_)<;>(try rw[hc])<;>clear hc)|clear U K)<;>conv=>whnf)
    rw[B9];refine(dt p.nodes.length a3 a4).use (pre:=[]) (rest:=[.box nO [.l [] true],.own (.l [] true) 1 (iL [])]) hs ?_;clear hs;rintro r post Z ⟨v,rfl,rfl,hv⟩ hs
    conv=>whnf
    repeat'((first|apply st|(apply sq;intro K U)|(apply si;intro A B hA hB)|(refine hA _ _ ?_;clear hB B hA A)|(apply U;clear U K)|refine⟨kZ,?_⟩|refine s1b fun Z hs=>?_|refine snb fun Z hs=>?_|refine Pure.use (Wm p (by omega) (by omega)) ?_|(intro nn hnn;generalize hg:B7 _ nn _=Z;refine alF hg fun hs=>?_;clear hg)|fail)<;>conv=>whnf)
    rename_i nw hnw _ hs;generalize nn=n5 at *;replace hs:=hs.less (show [At.box n5 (Az (AL p)),.own v 1 (iL (List.replicate p.nodes.length (-1))),.box nO [v]].Sublist _ from .cons₂ _ (.cons₂ _ (.cons₂ _ (.cons _ .slnil))));refine B1 p.methods.length (fun k (s:List Int)=>[(59,eI (A4 k))]) (fun _ s=>[.box nO [v],.own v 1 (iL s),.box n5 (Az (AL p))]) (fun k s=>s.length=p.nodes.length/\nT s/\BX p=LJ p (runM p (p.methods.drop k) s)) (List.replicate p.nodes.length (-1)) rfl ⟨by simp,fun x hx=>by rw[List.eq_of_mem_replicate hx];omega,hL⟩ (hs.perm (eF _ _ _)) ?_;clear hs hnw hnn;rintro k s Z hk ⟨hl,hge,hn⟩ hs;rcases A8 p.methods hk with⟨m,hm,hlt⟩|hke
    .have hF:=Zq hgW m.fact
     cases hfB:DM (AL p) m.fact with
     | false=>
       rw[hfB,if_neg Bool.false_ne_true]at hF;have hno:=Di hm hn (by simp[QF,hfB])
       conv=>whnf
       repeat'((first|apply st|(apply sq;intro K U)|(apply si;intro A B hA hB)|(refine hA _ _ ?_;clear hB B hA A)|(refine hB _ _ _ ?_;clear hB B hA A)|(refine hB _ _ fun Z hsub=>?_;clear hB B hA A)|(apply U;clear U K)|apply dr|refine rk ?_ ?_|exact fun s e=>by cases e;rfl|refine⟨rfl,?_⟩|refine⟨kZ,?_⟩|refine ix ?_|refine ld ?_|refine snb fun Z hs=>?_|(refine z6 (fun hc=>?_)<;>(try rw[hc])<;>clear hc)|(refine Cx (fun hc=>?_) (fun hc=>?_)<;>(replace hc:=bp hc)<;>(try simp(disch:=omega) only[B9,wrap64,Ag]at hc)<;>(try(cases hc;done)))|refine hF.use ?_|(constructor<;>intro hc<;>(try rw[hc])<;>(replace hc:=bp hc)<;>try(exfalso;omega))|(intro nn hnn;generalize hg:B7 _ nn _=Z;refine alF hg fun hs=>?_;clear hg)|clear U K)<;>conv=>whnf)
       all_goals first
        | (refine c9 (v:=v) (s:=s) hno hs ?_;(repeat first|exact Jf _|apply List.Sublist.cons₂|apply List.Sublist.cons);done)
        | (refine c9 (v:=v) (s:=s) hno (hs.up (by assumption)) ?_;(repeat first|exact Jf _|apply List.Sublist.cons₂|apply List.Sublist.cons);done)
        | skip
     | true=>
       rw[hfB,if_pos rfl]at hF;have hsp:=dh _ (rF hfB)
       conv=>whnf
       repeat'((first|apply st|(apply sq;intro K U)|(apply si;intro A B hA hB)|(refine hA _ _ ?_;clear hB B hA A)|(refine hB _ _ _ ?_;clear hB B hA A)|(refine hB _ _ fun Z hsub=>?_;clear hB B hA A)|(apply U;clear U K)|apply dr|refine rk ?_ ?_|exact fun s e=>by cases e;rfl|refine⟨rfl,?_⟩|refine⟨kZ,?_⟩|refine ix ?_|refine iqk ?_|refine iq fun x hx=>?_|refine ld ?_|refine snb fun Z hs=>?_|(refine z6 (fun hc=>?_)<;>(try rw[hc])<;>clear hc)|(refine Cx (fun hc=>?_) (fun hc=>?_)<;>(replace hc:=bp hc)<;>(try simp(disch:=omega) only[B9,wrap64,Ag]at hc)<;>(try(cases hc;done)))|refine hF.use ?_|refine hsp.use ?_|(constructor<;>intro hc<;>(try rw[hc])<;>(replace hc:=bp hc)<;>(try simp(disch:=omega) only[B9,wrap64,Ag]at hc)<;>try(exfalso;omega))|(intro nn hnn;generalize hg:B7 _ nn _=Z;refine alF hg fun hs=>?_;clear hg)|clear U K)<;>conv=>whnf)
       all_goals first
        | (refine c9 (v:=v) (s:=s) (Di hm hn ?_) hs ?_;(simp[QF, *];intros;omega);(repeat first|exact Jf _|apply List.Sublist.cons₂|apply List.Sublist.cons);done)
        | (refine c9 (v:=v) (s:=s) (Di hm hn ?_) (hs.up (by assumption)) ?_;(simp[QF, *];intros;omega);(repeat first|exact Jf _|apply List.Sublist.cons₂|apply List.Sublist.cons);done)
        | skip
       rotate_left 2
       .refine c9 (v:=v) (s:=s) (Di hm hn ?_) (hs.up (by assumption)) ?_
        .simp only[QF,show p.Dx.getD m.gen.toNat 0=x by rw[C6,hx];rfl,decide_eq_false (show¬Gq m.fact<=x by omega),Bool.and_false]
        .repeat first|exact Jf _|apply List.Sublist.cons₂|apply List.Sublist.cons
       all_goals
        have hx13:=Tj hh hx;have hgd:p.Dx.getD m.gen.toNat 0=x:=by rw[C6,hx];rfl
        have hok:QF p m=true:=by simp only[QF,hgd,A9,Cp];exact⟨by omega,by omega,by omega,by omega,hfB,by assumption⟩
        have hgo:=fun s'=>az (s':=s') hm hn hok
        have hno:=TO hm hn hok;rw[hgd]at hgo hno
       .have hnb:LI m.kind=(m.kind==4):=by simp[LI, *]
        rw[hnb]at hgo hno;refine BO ((VY p (m.kind==4) hv m.node x s (by omega) (by omega) hl [.box n5 (Az (AL p))] Z (hs.less (.cons _ (.refl _)))).mono ?_);cases hw:CZ p (m.kind==4) 12 m.node x s with
        | none=>
          clear hs;rintro r Z' ⟨rfl,s',hl',hs⟩
          conv=>whnf
          repeat'((first|(refine hB _ _ fun Z hsub=>?_;clear hB B hA A)|clear U K)<;>conv=>whnf)
          exact c9 (v:=v) (s:=s') (hno hw) (hs.up (by assumption)) (.cons₂ _ (.cons₂ _ (Jf _)))
        | some s2=>
          clear hs;rintro r Z' ⟨rfl,hs⟩
          conv=>whnf
          repeat'((first|(apply si;intro A B hA hB)|(refine hA _ _ ?_;clear hB B hA A)|(apply U;clear U K)|apply dr|refine⟨rfl,?_⟩|clear U K)<;>conv=>whnf)
          exact⟨hlt,s2,rfl,⟨(Kk _ hw).trans hl,Ms _ (by omega) hw hge,hgo s2 hw⟩,hs⟩
       .have hnb:LI m.kind=true:=by simp[LI, *]
        rw[hnb]at hgo hno;refine BO ((VY p true hv m.node x s (by omega) (by omega) hl [.box n5 (Az (AL p))] Z (hs.less (.cons _ (.refl _)))).mono ?_);cases hw:CZ p true 12 m.node x s with
        | none=>
          clear hs;rintro r Z' ⟨rfl,s',hl',hs⟩
          conv=>whnf
          repeat'((first|(refine hB _ _ fun Z hsub=>?_;clear hB B hA A)|clear U K)<;>conv=>whnf)
          exact c9 (v:=v) (s:=s') (hno hw) (hs.up (by assumption)) (.cons₂ _ (.cons₂ _ (Jf _)))
        | some s2=>
          clear hs;rintro r Z' ⟨rfl,hs⟩
          conv=>whnf
          repeat'((first|(apply si;intro A B hA hB)|(refine hA _ _ ?_;clear hB B hA A)|(apply U;clear U K)|apply dr|refine⟨rfl,?_⟩|clear U K)<;>conv=>whnf)
          exact⟨hlt,s2,rfl,⟨(Kk _ hw).trans hl,Ms _ (by omega) hw hge,hgo s2 hw⟩,hs⟩
    .subst hke
     rw[List.drop_length,runM]at hn
     conv=>whnf
     repeat'((first|apply st|(apply sq;intro K U)|(apply si;intro A B hA hB)|(refine hA _ _ ?_;clear hB B hA A)|(apply U;clear U K)|refine⟨rfl,?_⟩|refine⟨kZ,?_⟩|refine ix ?_|refine ld ?_|refine snb fun Z hs=>?_|(refine fc (fun x hx hlt hc=>?_) (fun hk hc=>?_)<;>(try rw[hc])<;>clear hc)|(constructor<;>intro hc<;>(try rw[hc])<;>(replace hc:=bp hc)<;>try(exfalso;omega))|(intro nn hnn;generalize hg:B7 _ nn _=Z;refine alF hg fun hs=>?_;clear hg)|clear U K)<;>conv=>whnf)
     rw[LJ]at hn;refine BO ((VY p false hv p.main 0 s (by omega) (by omega) hl [.box n5 (Az (AL p))] Z hs).mono ?_);cases hw:CZ p false 12 p.main 0 s with
     | none=>
       rw[hw]at hn;clear hs;rintro r Z' ⟨rfl,s',hl',hs⟩
       conv=>whnf
       repeat'((first|(refine hB _ _ _ ?_;clear hB B hA A)|clear U K)<;>conv=>whnf)
       exact c9 (v:=v) (s:=s') hn hs (.cons₂ _ (.cons₂ _ (Jf _)))
     | some s2=>
       rw[hw]at hn;have hge2:=Ms _ (by omega) hw hge;simp only[qN hge2]at hn;clear hs;rintro r Z' ⟨rfl,hs⟩;have hct:=fun f=>C3 s2 f (-1)
       cases hyes:s2.contains (-1)with
       | true=>
         rw[hyes]at hct hn
         conv=>whnf
         repeat'((first|(apply si;intro A B hA hB)|(refine hA _ _ ?_;clear hB B hA A)|(apply U;clear U K)|refine ld ?_|fail)<;>conv=>whnf)
         refine Pure.MI (hct false) (.cons (hs.GG 1 rfl) (.cons (.refl _) .nil)) rfl ?_
         conv=>whnf
         repeat'((first|(refine hB _ _ _ ?_;clear hB B hA A)|(refine Cx (fun hc=>?_) (fun hc=>?_)<;>(replace hc:=bp hc)<;>(try simp(disch:=omega) only[B9,wrap64,Ag]at hc)<;>(try(cases hc;done)))|fail)<;>conv=>whnf)
         all_goals exact c9 (v:=v) (s:=s2) hn (by first|exact hs|exact hs.up (by assumption)) (.cons₂ _ (.cons₂ _ (Jf _)))
       | false=>
         rw[hyes]at hct hn
         conv=>whnf
         repeat'((first|(apply si;intro A B hA hB)|(refine hA _ _ ?_;clear hB B hA A)|(apply U;clear U K)|refine ld ?_|fail)<;>conv=>whnf)
         refine Pure.MI (hct false) (.cons (hs.GG 1 rfl) (.cons (.refl _) .nil)) rfl ?_
         conv=>whnf
         repeat'((first|(refine hA _ _ ?_;clear hB B hA A)|(refine Cx (fun hc=>?_) (fun hc=>?_)<;>(replace hc:=bp hc)<;>(try simp(disch:=omega) only[B9,wrap64,Ag]at hc)<;>(try(cases hc;done)))|fail)<;>conv=>whnf)
         all_goals exact szT (v:=v) hn hs (.cons₂ _ (.cons₂ _ (Jf _)))
end Go.Gl
namespace Go.Gl
variable {P:Program} {Z:AE}
def gD {v:V} {Q Q':R->AE->Prop} (h:Am Z v Q) (hq: ∀r Z,Q r Z->Q' r Z):Am Z v Q':=by
 obtain⟨vf,s2,h1,h2,h3⟩:=h;exact⟨vf,s2,h1,h2,hq _ _ h3⟩
def DG.more {α S:Type} {g:FuncId} {fi ca:List V} {ea:α->V} {H:S->List At} {stp:α->S->Bool×S} {D:α->S->Prop} (h:DG P (.f (.func g) fi ca) ea H stp D) (pre:List At):DG P (.f (.func g) fi ca) ea (fun s=>pre++H s) stp D:=fun y s hd Z hs=>by
 have h1:BQ P g (fi++[ea y]++ca) (H s) fun r post=>r= .ret (.b (stp y s).1)/\post=H (stp y s).2:=fun Z hs=>Au.mono (h y s hd Z hs) fun r Z' ⟨e,h2⟩=>⟨_,⟨e,rfl⟩,h2⟩
 refine BO (h1.use (rest:=pre) (hs.perm Nk) ?_);rintro r post Z' ⟨rfl,rfl⟩ hs';exact⟨rfl,hs'.perm Nk⟩
def O5 {α S:Type} (P:Program) (x:V) (ea:α->V) (H:S->List At) (f:α->Bool) (J:S->Prop) (D:α->Prop):Prop:=
 ∀y s,D y->J s-> ∀Z,Sat Z (H s)->Ao P x [ea y] Z fun r Z'=>r= .ret (.b (f y))/\ ∃s',J s'/\Sat Z' (H s')
def O5.use {α S:Type} {x:V} {ea:α->V} {H:S->List At} {f:α->Bool} {J:S->Prop} {D:α->Prop} (h:O5 P x ea H f J D) {y:α} {s:S} (hd:D y) (hj:J s) (hs:Sat Z (H s)) {k kp:V->AE->Prop} (hk: ∀s' Z',J s'->Sat Z' (H s')->k (.b (f y)) Z'):Ao P x [ea y] Z (qk k kp):=
 (h y s hd hj Z hs).mono fun r Z' ⟨e,s',hj',h'⟩=>by rw[e];exact hk s' Z' hj' h'
def O3 {α:Type} (f:α->Bool):List α->Nat->Int
 | [],_=> -1
 | y::r,k=>if f y then(k:Int)else O3 f r (k+1)
def XY {α:Type} (f:α->Bool): ∀(xs:List α) (k:Nat),decide (O3 f xs k≥0)=xs.any f
 | [],_=>rfl
 | y::r,k=>by
   rw[O3,Pj];cases f y
   .exact XY f r (k+1)
   .simp
end Go.Gl
namespace Go.Gl
structure Kn where
 low:Int
 high:Int
 no:List Int
 BM:Nat
 Dz:Nat
 whole:Bool
 Ab:Bool
 AG:List Int
def k0:Kn:=⟨-1000000000,1000000000,[],0,0,false,false,[]⟩
def Jb (l:List Int) (s:Int):List Int:=if l.contains s then l else(l++[s]).mergeSort Hy
def B4 (k:Kn) (f:Fact) (b:Bool):Kn:=
 if f.op=2 then(if b then {k with Dz:=k.Dz|||2 ^ f.cls.toNat}else {k with BM:=k.BM|||2 ^ f.cls.toNat})
 else if f.op=3 then(if b then {k with low:=if f.n > k.low then f.n else k.low}else {k with high:=if f.n - 1<k.high then f.n - 1 else k.high,whole:=true})
 else if b then {k with no:=k.no++[f.n]}else {k with low:=if f.n > k.low then f.n else k.low,high:=if f.n<k.high then f.n else k.high,whole:=true}
def B5 (k:Kn) (b:Bool):Kn:={k with Ab:=k.Ab|| !b}
def gR (k:Kn) (s:Int):Kn:={k with AG:=Jb k.AG s}
def C1 (a:Int) (p:List Int) (k:Kn) (l:Fact):Kn:=
 if(Ad l).1.arg=a/\Bd (Ad l).1.path p=true then
  (if(Ad l).1.path=p then B4 (B5 k (Ad l).2) (Ad l).1 (Ad l).2 else gR (B5 k (Ad l).2) ((Ad l).1.path.getD p.length 0))
 else k
def kn (ls:List Fact) (a:Int) (p:List Int):Kn:=ls.foldl (C1 a p) k0
def L8 (k:Kn) (f:Fact) (b:Bool):(B4 k f b).Ab=k.Ab:=by
 unfold B4
 (repeat' split)<;>rfl
def Ii (k:Kn) (f:Fact) (b:Bool):(B4 k f b).AG=k.AG:=by
 unfold B4
 (repeat' split)<;>rfl
def Vh (a:Int) (p:List Int) (k:Kn) (l:Fact):(C1 a p k l).Ab=(k.Ab|| !((Ad l).2|| !((Ad l).1.arg==a&&Bd (Ad l).1.path p))):=by
 unfold C1;split
 .rename_i h
  have e:((Ad l).1.arg==a)=true:=by simpa using h.1
  rw[e,h.2];split
  .rw[L8];simp[B5]
  .simp[gR,B5]
 .rename_i h
  have:((Ad l).1.arg==a&&Bd (Ad l).1.path p)=false:=by
   cases hb:((Ad l).1.arg==a&&Bd (Ad l).1.path p)with
   | false=>rfl
   | true=>rw[A9]at hb;exact absurd ⟨by simpa using hb.1,hb.2⟩ h
  rw[this];simp
def Na (a:Int) (p:List Int): ∀(ls:List Fact) (k:Kn),(ls.foldl (C1 a p) k).Ab=(k.Ab|| !DF ls a p)
 | [],k=>by simp[DF]
 | l::r,k=>by
   rw[List.foldl_cons,Na a p r,Vh];simp only[DF,K5];generalize (r.all _)=x;generalize ((Ad l).2||_)=y;cases k.Ab<;>cases x<;>cases y<;>rfl
def Kv (ls:List Fact) (a:Int) (p:List Int):(kn ls a p).Ab= !DF ls a p:=by rw[kn,Na];rfl
def UD (l:List Int) (s x:Int):x∈Jb l s↔x∈l\/x=s:=by
 unfold Jb;split
 .rename_i h
  rw[List.contains_iff_mem]at h;constructor
  .exact .inl
  .rintro(h'|rfl)
   .exact h'
   .exact h
 .rw[(List.mergeSort_perm _ Hy).mem_iff];simp
def Vq {l:List Int} (s:Int) (h:l.Pairwise (· < ·)):(Jb l s).Pairwise (· < ·):=by
 unfold Jb;split
 .exact h
 .rename_i hc
  have hc':s∉l:=by simpa using hc
  have hp:=List.mergeSort_perm (l++[s]) Hy;have h1:((l++[s]).mergeSort Hy).Pairwise (fun a b=>Hy a b=true):=List.pairwise_mergeSort (fun a b c=>by simp only[Hy,Cp];omega) (fun a b=>by simp only[Hy,E9,Cp];omega) _
  have h2:((l++[s]).mergeSort Hy).Nodup:=hp.nodup_iff.2 (by
   rw[List.nodup_append];refine⟨h.imp fun hab=>by omega,by simp,fun a ha b hb=>?_⟩;simp only[KV]at hb;rintro rfl
   exact hc' (hb ▸ ha))
  exact(h1.and h2).imp fun⟨h3,h4⟩=>by
   simp only[Hy,Cp]at h3;omega
def Ls: ∀ {l m:List Int},l.Pairwise (· < ·)->m.Pairwise (· < ·)->(∀x,x∈l↔x∈m)->l=m
 | [],[],_,_,_=>rfl
 | [],y::m,_,_,h=>absurd ((h y).2 (.head _)) (by simp)
 | x::l,[],_,_,h=>absurd ((h x).1 (.head _)) (by simp)
 | x ::l,y::m,h1,h2,h=>by
   rw[List.pairwise_cons]at h1 h2
   have hxy:x=y:=by
    rcases GM.1 ((h x).1 (.head _))with e|hx
    .exact e
    .rcases GM.1 ((h y).2 (.head _))with e|hy
     .exact e.symm
     .have:=h1.1 y hy
      have:=h2.1 x hx;omega
   subst hxy;congr 1;refine Ls h1.2 h2.2 fun z=>?_
   constructor
   .intro hz
    rcases GM.1 ((h z).1 (.tail _ hz))with e|hz'
    .have:=h1.1 z hz;omega
    .exact hz'
   .intro hz
    rcases GM.1 ((h z).2 (.tail _ hz))with e|hz'
    .have:=h2.1 z hz;omega
    .exact hz'
def B6 {path pre:List Int}:Bd path pre=true↔ ∃t,path=pre++t:=by
 simp only[Bd,A9,Cp,C0];constructor
 .rintro⟨_,h⟩
  exact⟨path.drop pre.length,by conv=>lhs;rw[<-List.take_append_drop pre.length path,h]⟩
 .rintro⟨t,rfl⟩
  simp
def YT {path p:List Int} {s:Int}:Bd path (p++[s])=true↔Bd path p=true/\path≠p/\path.getD p.length 0=s:=by
 rw[B6,B6];constructor
 .rintro⟨t,rfl⟩
  refine⟨⟨s::t,by simp⟩,fun e=>?_,by simp⟩;have:=congrArg List.length e;simp at this
 .rintro⟨⟨t,rfl⟩,hne,hs⟩
  cases t with
  | nil=>simp at hne
  | cons y t=>simp at hs;subst hs;exact⟨t,by simp⟩
def bq {a:Int} {p:List Int} {s:Int} {l:Fact}:Yd a p s l=true↔(Ad l).1.arg=a/\Bd (Ad l).1.path p=true/\(Ad l).1.path≠p/\(Ad l).1.path.getD p.length 0=s:=by
 rw[Yd,A9,YT,C0]
def YG (a:Int) (p:List Int) (k:Kn) (l:Fact):(C1 a p k l).AG=if(Ad l).1.arg=a/\Bd (Ad l).1.path p=true/\(Ad l).1.path≠p then Jb k.AG ((Ad l).1.path.getD p.length 0)else k.AG:=by
 unfold C1;by_cases h1:(Ad l).1.arg=a/\Bd (Ad l).1.path p=true
 .rw[if_pos h1]
  by_cases h2:(Ad l).1.path=p
  .rw[if_pos h2,if_neg (fun h=>h.2.2 h2),Ii];rfl
  .rw[if_neg h2,if_pos ⟨h1.1,h1.2,h2⟩];rfl
 .rw[if_neg h1,if_neg (fun h=>h1 ⟨h.1,h.2.1⟩)]
def R8 (a:Int) (p:List Int): ∀(ls:List Fact) (k:Kn),k.AG.Pairwise (· < ·)->(ls.foldl (C1 a p) k).AG.Pairwise (· < ·)/\ ∀s,s∈(ls.foldl (C1 a p) k).AG↔s∈k.AG\/ls.any (Yd a p s)=true
 | [],k,h=>⟨h,fun s=>by simp⟩
 | l ::r,k,h=>by
   rw[List.foldl_cons];have e:=YG a p k l
   have h1:(C1 a p k l).AG.Pairwise (· < ·):=by
    rw[e];split
    .exact Vq _ h
    .exact h
   obtain⟨i1,i2⟩:=R8 a p r _ h1;refine⟨i1,fun s=>?_⟩;rw[i2,e,Pj,E9,bq];split
   .rename_i hc
    rw[UD];constructor
    .rintro((h|rfl)|h)
     .exact .inl h
     .exact .inr (.inl ⟨hc.1,hc.2.1,hc.2.2,rfl⟩)
     .exact .inr (.inr h)
    .rintro(h|⟨-,-,-,h⟩|h)
     .exact .inl (.inl h)
     .exact .inl (.inr h.symm)
     .exact .inr h
   .rename_i hc
    constructor
    .rintro(h|h)
     .exact .inl h
     .exact .inr (.inr h)
    .rintro(h|⟨q1,q2,q3,-⟩|h)
     .exact .inl h
     .exact absurd ⟨q1,q2,q3⟩ hc
     .exact .inr h
def Hj (n:Nat) (ls:List Fact):Prop:= ∀l∈ls,∀s∈(Ad l).1.path,(0:Int)<=s/\s<n
def C9 {n:Nat} {s:Int}:s∈BS n↔0<=s/\s<n:=by
 simp only[BS,Il,List.mem_range];constructor
 .rintro⟨m,hm,rfl⟩
  exact⟨Int.natCast_nonneg m,by simpa using hm⟩
 .rintro⟨h0,h1⟩
  exact⟨s.toNat,by omega,by simp;omega⟩
def LP (n:Nat):(BS n).Pairwise (· < ·):=by
 rw[BS,List.pairwise_map];exact List.pairwise_lt_range.imp fun h=>by simpa using h
def vB {n:Nat} {ls:List Fact} (h:Hj n ls) {a:Int} {p:List Int} {s:Int} {l:Fact} (hl:l∈ls) (hg:Yd a p s l=true):0<=s/\s<n:=by
 rw[bq]at hg;obtain⟨-,h2,h3,h4⟩:=hg;obtain⟨t,ht⟩:=B6.1 h2;refine h l hl s ?_;rw[ht]at h3 h4 ⊢;cases t with
 | nil=>simp at h3
 | cons y t=>simp at h4;subst h4;simp
def KC {n:Nat} {ls:List Fact} (h:Hj n ls) (a:Int) (p:List Int):(kn ls a p).AG=BR n ls a p:=by
 obtain⟨h1,h2⟩:=R8 a p ls k0 .nil;refine Ls h1 ((LP n).filter _) fun s=>?_
 show s∈(ls.foldl (C1 a p) k0).AG↔_;rw[h2,BR,Ik,C9];constructor
 .rintro(h|hs)
  .cases h
  .obtain⟨l,hl,hg⟩:=Ij.1 hs
   exact⟨vB h hl hg,hs⟩
 .exact fun hs=> .inr hs.2
def Ea (os:List Fact) (k:Kn):Kn:=os.foldl (fun k l=>B4 k (Ad l).1 (Ad l).2) k
abbrev Db (k:Kn):Int×Int×List Int×Nat×Nat×Bool:=(k.low,k.high,k.no,k.BM,k.Dz,k.whole)
def RM {k k':Kn} (h:Db k=Db k') (f:Fact) (b:Bool):Db (B4 k f b)=Db (B4 k' f b):=by
 cases k;cases k';simp only[Db,Prod.mk.injEq]at h;obtain⟨rfl,rfl,rfl,rfl,rfl,rfl⟩:=h;unfold B4
 (repeat' split)<;>rfl
def KT (p:List Int):Bd p p=true:=B6.2 ⟨[],by simp⟩
def fg (a:Int) (p:List Int) (k:Kn) (l:Fact):Db (C1 a p k l)=if Fv a p l then Db (B4 k (Ad l).1 (Ad l).2)else Db k:=by
 unfold C1 Fv;by_cases h1:(Ad l).1.arg=a
 .by_cases h2:(Ad l).1.path=p
  .have e:((Ad l).1.arg==a&&(Ad l).1.path==p)=true:=by simp[h1,h2]
   rw[if_pos ⟨h1,by rw[h2];exact KT p⟩,if_pos h2,e,if_pos rfl];exact RM (k:=B5 k (Ad l).2) (k':=k) rfl _ _
  .have e:((Ad l).1.arg==a&&(Ad l).1.path==p)=false:=by simp[h2]
   rw[if_neg h2,e,if_neg Bool.false_ne_true];split<;>rfl
 .have e:((Ad l).1.arg==a&&(Ad l).1.path==p)=false:=by simp[h1]
  rw[if_neg (fun h=>h1 h.1),e,if_neg Bool.false_ne_true]
def Oj (a:Int) (p:List Int): ∀(ls:List Fact) (k k':Kn),Db k=Db k'->Db (ls.foldl (C1 a p) k)=Db (Ea (ls.filter (Fv a p)) k')
 | [],k,k',h=>h
 | l ::r,k,k',h=>by
   rw[List.foldl_cons,List.filter_cons];have e:=fg a p k l;split
   .rename_i ho
    rw[if_pos ho]at e;exact Oj a p r _ _ (e.trans (RM h _ _))
   .rename_i ho
    rw[if_neg (by simpa using ho)]at e;exact Oj a p r _ _ (e.trans h)
def Mf (ls:List Fact) (a:Int) (p:List Int):Db (kn ls a p)=Db (Ea (ls.filter (Fv a p)) k0):=Oj a p ls k0 k0 rfl
def sy (x:Fact×Bool):Bool:= !(x.1.op==2)||(decide (x.1.cls > 1)==x.2)
def dg (x:Fact×Bool) (k:Kn):H8 x (k.low,k.high,k.no)=if sy x then some ((B4 k x.1 x.2).low,(B4 k x.1 x.2).high,(B4 k x.1 x.2).no)else none:=by
 unfold H8 sy B4;by_cases h2:x.1.op=2
 .rw[if_pos h2,if_pos h2]
  cases x.2<;>cases decide (x.1.cls > 1)<;>simp[h2]
 .rw[if_neg h2,if_neg h2]
  by_cases h3:x.1.op=3
  .rw[if_pos h3,if_pos h3]
   cases x.2<;>simp[h2]
  .rw[if_neg h3,if_neg h3]
   cases x.2<;>simp[h2]
def Ts: ∀(os:List Fact) (k:Kn),foldI os (k.low,k.high,k.no)=if os.all (fun l=>sy (Ad l))then some ((Ea os k).low,(Ea os k).high,(Ea os k).no)else none
 | [],k=>rfl
 | l ::r,k=>by
   rw[foldI,dg,K5];cases hb:sy (Ad l)with
   | false=>rfl
   | true=>
     rw[if_pos rfl,Option.bind_some,Ts r,Ds];rfl
def nB (k:Kn) (f:Fact) (c:Bool) (b:Nat):(B4 k f c).BM.testBit b=(k.BM.testBit b||(f.op==2&& !c&&f.cls.toNat==b)):=by
 unfold B4;by_cases h2:f.op=2
 .rw[if_pos h2]
  cases c<;>simp[h2,Nat.testBit_or,Nat.testBit_two_pow,Bool.beq_eq_decide_eq]
 .rw[if_neg h2]
  have:(f.op==2)=false:=by simpa using h2
  rw[this]
  repeat' split
  all_goals simp
def rE (k:Kn) (f:Fact) (c:Bool) (b:Nat):(B4 k f c).Dz.testBit b=(k.Dz.testBit b||(f.op==2&&c&&f.cls.toNat==b)):=by
 unfold B4;by_cases h2:f.op=2
 .rw[if_pos h2]
  cases c<;>simp[h2,Nat.testBit_or,Nat.testBit_two_pow,Bool.beq_eq_decide_eq]
 .rw[if_neg h2]
  have:(f.op==2)=false:=by simpa using h2
  rw[this]
  repeat' split
  all_goals simp
def fu (k:Kn) (f:Fact) (c:Bool):(B4 k f c).whole=(k.whole||(!c&& !(f.op==2))):=by
 unfold B4;by_cases h2:f.op=2
 .rw[if_pos h2]
  cases c<;>simp[h2]
 .rw[if_neg h2]
  have:(f.op==2)=false:=by simpa using h2
  rw[this];cases c<;>(repeat' split)<;>simp_all
def On: ∀(os:List Fact) (k:Kn) (b:Nat),(Ea os k).BM.testBit b=(k.BM.testBit b||os.any fun l=>(Ad l).1.op==2&& !(Ad l).2&&(Ad l).1.cls.toNat==b)
 | [],k,b=>by simp[Ea]
 | l::r,k,b=>by
   have:=On r (B4 k (Ad l).1 (Ad l).2) b;rw[nB]at this;rw[Pj,<-Bool.or_assoc,<-this];rfl
def RP: ∀(os:List Fact) (k:Kn) (b:Nat),(Ea os k).Dz.testBit b=(k.Dz.testBit b||os.any fun l=>(Ad l).1.op==2&&(Ad l).2&&(Ad l).1.cls.toNat==b)
 | [],k,b=>by simp[Ea]
 | l::r,k,b=>by
   have:=RP r (B4 k (Ad l).1 (Ad l).2) b;rw[rE]at this;rw[Pj,<-Bool.or_assoc,<-this];rfl
def L9: ∀(os:List Fact) (k:Kn),(Ea os k).whole=(k.whole||os.any fun l=> !(Ad l).2&& !((Ad l).1.op==2))
 | [],k=>by simp[Ea]
 | l::r,k=>by
   have:=L9 r (B4 k (Ad l).1 (Ad l).2);rw[fu]at this;rw[Pj,<-Bool.or_assoc,<-this];rfl
def H2 (m up:Nat):Bool:=(List.range 64).all fun b=> !m.testBit b||up.testBit b
def Mv {m up:Nat} (hm:m<2 ^ 64):H2 m up=true↔ ∀b,m.testBit b=true->up.testBit b=true:=by
 simp only[H2,EG,List.mem_range,E9,Bool.not_eq_true'];constructor
 .intro h b hb
  have hlt:b<64:=by
   rcases Nat.lt_or_ge b 64 with h'|h'
   .exact h'
   .rw[Nat.testBit_lt_two_pow (Nat.lt_of_lt_of_le hm (Nat.pow_le_pow_right (by decide) h'))]at hb;cases hb
  rcases h b hlt with h'|h'
  .rw[hb]at h';cases h'
  .exact h'
 .intro h b _
  cases hb:m.testBit b with
  | false=>exact .inl rfl
  | true=>exact .inr (h b hb)
def NJ {m n:Nat}:(m&&&n==0)=true↔ ∀b,m.testBit b=true->n.testBit b=true->False:=by
 rw[C0];constructor
 .intro h b h1 h2
  have:=congrArg (fun x=>x.testBit b) h;simp[Nat.testBit_and,h1,h2]at this
 .intro h
  refine Nat.eq_of_testBit_eq fun b=>?_
  rw[Nat.testBit_and,Nat.zero_testBit];cases h1:m.testBit b with
  | false=>rfl
  | true=>
    cases h2:n.testBit b with
    | false=>rfl
    | true=>exact(h b h1 h2).elim
def U0 (c b:Nat):(1|||2 ^ c).testBit b=(b==0||b==c):=by
 rw[Nat.testBit_or,Nat.testBit_two_pow,show(1:Nat)=2 ^ 0 from rfl,Nat.testBit_two_pow];rw[JK];simp only[E9,Cp,C0];omega
def HD (n:Nat) (ls:List Fact):Prop:= ∀l∈ls,(Ad l).1.op=2->0<=(Ad l).1.cls/\(Ad l).1.cls<n
def Rw {m n:Nat} (h: ∀b,m.testBit b=true->b<n):m<2 ^ n:=by
 refine Nat.lt_pow_two_of_testBit _ fun i hi=>?_
 cases hb:m.testBit i with
 | false=>rfl
 | true=>have:=h i hb;omega
def Me {os:List Fact} {n:Nat} (h:HD n os):(Ea os k0).BM<2 ^ n:=Rw fun b hb=>by
 rw[On]at hb;simp only[k0,Nat.zero_testBit,Bool.false_or,Ij,A9,C0]at hb;obtain⟨l,hl,⟨h2,-⟩,rfl⟩:=hb;have:=h l hl h2;omega
def jG {os:List Fact} {n:Nat} (h:HD n os):(Ea os k0).Dz<2 ^ n:=Rw fun b hb=>by
 rw[RP]at hb;simp only[k0,Nat.zero_testBit,Bool.false_or,Ij,A9,C0]at hb;obtain⟨l,hl,⟨h2,-⟩,rfl⟩:=hb;have:=h l hl h2;omega
def IK {os:List Fact} {b:Nat}:(Ea os k0).BM.testBit b=true↔ ∃l∈os,(Ad l).1.op=2/\(Ad l).2=false/\(Ad l).1.cls.toNat=b:=by
 rw[On];simp only[k0,Nat.zero_testBit,Bool.false_or,Ij,A9,C0,Bool.not_eq_true',and_assoc]
def VD {os:List Fact} {b:Nat}:(Ea os k0).Dz.testBit b=true↔ ∃l∈os,(Ad l).1.op=2/\(Ad l).2=true/\(Ad l).1.cls.toNat=b:=by
 rw[RP];simp only[k0,Nat.zero_testBit,Bool.false_or,Ij,A9,C0,and_assoc]
def eE {os:List Fact} {n:Nat} (hn:n<=64) (h:HD n os):(H2 (Ea os k0).BM (1|||2 ^ 1)&&((Ea os k0).Dz&&&(1|||2 ^ 1)==0))=os.all fun l=>sy (Ad l):=by
 rw[JK,A9,Mv (Nat.lt_of_lt_of_le (Me h) (Nat.pow_le_pow_right (by decide) hn)),NJ];simp only[IK,VD,U0,EG,sy,E9,Bool.not_eq_true',beq_eq_false_iff_ne,C0,ne_eq];constructor
 .rintro⟨h1,h2⟩ l hl
  by_cases ho:(Ad l).1.op=2
  .right
   have hc:=h l hl ho;cases hb:(Ad l).2 with
   | false=>
     have:=h1 _ ⟨l,hl,ho,hb,rfl⟩;rw[decide_eq_false_iff_not];omega
   | true=>
     rw[Cp];rcases Int.lt_or_le 1 (Ad l).1.cls with hlt|hle
     .exact hlt
     .exact(h2 _ ⟨l,hl,ho,hb,rfl⟩ (by omega)).elim
  .exact .inl ho
 .intro h1
  constructor
  .rintro b ⟨l,hl,ho,hb,rfl⟩
   rcases h1 l hl with h'|h'
   .exact absurd ho h'
   .have hc:=h l hl ho
    rw[hb,decide_eq_false_iff_not]at h';omega
  .rintro b ⟨l,hl,ho,hb,rfl⟩ hu
   rcases h1 l hl with h'|h'
   .exact absurd ho h'
   .have hc:=h l hl ho
    rw[hb,Cp]at h';omega
def de (x:Fact×Bool):(!JQ x)=true↔(x.2=false->x.1.op=2/\(x.1.cls=0\/x.1.cls=2))/\(x.2=true-> ¬(x.1.op=2/\(x.1.cls=0\/x.1.cls=2))):=by
 have e:(x.1.op==2&&(x.1.cls==0||x.1.cls==2))=true↔x.1.op=2/\(x.1.cls=0\/x.1.cls=2):=by
  simp only[A9,E9,C0]
 rw[<-e,JQ];generalize (x.1.op==2&&(x.1.cls==0||x.1.cls==2))=y;cases x.2<;>cases y<;>simp
def TA {os:List Fact}:(!(Ea os k0).whole)=true↔ ∀l∈os,(Ad l).2=false->(Ad l).1.op=2:=by
 rw[L9,Bool.not_eq_true',<-Bool.not_eq_true];simp only[k0,Bool.false_or,Ij,A9,Bool.not_eq_true',beq_eq_false_iff_ne];constructor
 .intro h l hl hb
  rcases Classical.em ((Ad l).1.op=2)with e|e
  .exact e
  .exact absurd ⟨l,hl,hb,e⟩ h
 .rintro h ⟨l,hl,hb,e⟩
  exact e (h l hl hb)
def Za {os:List Fact} {n:Nat} (hn:n<=64) (h:HD n os):(!(Ea os k0).whole&&(H2 (Ea os k0).BM (1|||2 ^ 2)&&((Ea os k0).Dz&&&(1|||2 ^ 2)==0)))=os.all fun l=> !JQ (Ad l):=by
 rw[JK,A9,A9,Mv (Nat.lt_of_lt_of_le (Me h) (Nat.pow_le_pow_right (by decide) hn)),NJ,TA,EG];simp only[IK,VD,U0,E9,C0,de];constructor
 .rintro⟨h0,h1,h2⟩ l hl
  refine⟨fun hb=>?_,fun hb ⟨ho,hc⟩=>h2 _ ⟨l,hl,ho,hb,rfl⟩ (by omega)⟩;have ho:=h0 l hl hb;have hc:=h l hl ho;have:=h1 _ ⟨l,hl,ho,hb,rfl⟩;exact⟨ho,by omega⟩
 .intro h1
  refine⟨fun l hl hb=>((h1 l hl).1 hb).1,?_,?_⟩
  .rintro b ⟨l,hl,ho,hb,rfl⟩
   have:=((h1 l hl).1 hb).2;omega
  .rintro b ⟨l,hl,ho,hb,rfl⟩ hu
   have hc:=h l hl ho;exact(h1 l hl).2 hb ⟨ho,by omega⟩
def OO {no:List Int}: ∀(k:Nat) (m:Int),(UP no k m).isSome=true↔ ∃j:Nat,j<k/\m+j∉no
 | 0,m=>by simp[UP]
 | k + 1,m=>by
   rw[UP];split
   .rename_i h
    simp only[Option.isSome_some,true_iff];refine⟨0,by omega,fun hm=>?_⟩;rw[EG]at h;have:=h _ hm;simp at this
   .rename_i h
    rw[OO k]
    have hm:m∈no:=by
     rcases Classical.em (m∈no)with h'|h'
     .exact h'
     .refine absurd (EG.2 fun x hx=>?_) h
      rw[zrJ];rintro rfl;exact h' hx
    constructor
    .rintro⟨j,hj,h'⟩
     exact⟨j+1,by omega,by rw[show m+((j+1:Nat):Int)=m+1+j by omega];exact h'⟩
    .rintro⟨j,hj,h'⟩
     cases j with
     | zero=>simp at h';exact absurd hm h'
     | succ j=>exact⟨j,by omega,by rw[show m+1+(j:Int)=m+((j+1:Nat):Int) by omega];exact h'⟩
def lE {low high n:Int} {no:List Int} (h0:low<=n) (h1:n∉no) (h2: ∀m,low<=m->m<n->m∈no):(QU (low,high,no)).isSome=decide (n<=high):=by
 rw[JK,QU,OO,Cp];constructor
 .rintro⟨j,hj,h⟩
  rcases Int.lt_or_le (low+j) n with hlt|hle
  .exact absurd (h2 _ (by omega) hlt) h
  .simp only at hj;omega
 .intro h
  refine⟨(n - low).toNat,by simp only;omega,?_⟩;rw[show low+((n - low).toNat:Int)=n by omega];exact h1
end Go.Gl
namespace Go.Gl
def Wr (g:List (List Int)) (k:Nat): ∀(m d:Nat),d<3+k->(Bs g (k+m)).getD d 0=(Bs g k).getD d 0
 | 0,d,_=>rfl
 | m+1,d,h=>by
   rw[show k+(m+1)=k+m+1 from rfl,Bs,<-Wr g k m d h];rw[C6,cz (by rw[Dh];omega),<-C6]
def Wt (us:List Nat) (b:Nat): ∀(l:List Int) (s:Nat),(UN us l s).testBit b=(s.testBit b||l.any fun c=>(us.getD c.toNat 0).testBit b)
 | [],s=>by simp[UN]
 | c::r,s=>by
   have:=Wt us b r (s|||us.getD c.toNat 0);rw[Pj,<-Bool.or_assoc,<-Nat.testBit_or,<-this];rfl
def kB {α:Type} (f:α->Bool) (b:Bool): ∀(l:List α),(b||l.any fun x=>b||f x)=(b||l.any f)
 | []=>rfl
 | x::r=>by
   have:=kB f b r;simp only[Pj];cases b
   .simpa using this
   .rfl
def any_congr {α:Type} {f g:α->Bool}: ∀ {l:List α},(∀x∈l,f x=g x)->l.any f=l.any g
 | [],_=>rfl
 | x::r,h=>by
   rw[Pj,Pj,h x (.head _),any_congr fun y hy=>h y (.tail _ hy)]
def U4 {g:List (List Int)} (ho:ordered g): ∀(k d b:Nat),k<=g.length->d<3+k->((Bs g k).getD d 0).testBit b=(b==0||HA g d b)
 | 0,d,b,_,hd=>by
   have e:(Bs g 0).getD d 0=1|||2 ^ d:=by
    rcases d with _|_|_|d
    .rfl
    .rfl
    .rfl
    .omega
   rw[e,U0,FI ho,par,if_pos (by omega),List.any_nil,Bool.or_false];rw[JK];simp only[E9,C0];omega
 | k + 1,d,b,hk,hd=>by
   by_cases hlt:d<3+k
   .rw[Wr g k 1 d hlt]
    exact U4 ho k d b (by omega) hlt
   .obtain rfl:d=3+k:=by omega
    have e:(Bs g (k+1)).getD (3+k) 0=UN (Bs g k) (g.getD k []) (1|||2 ^ (3+k)):=by
     rw[Bs,C6,List.getElem?_append_right (by rw[Dh];omega),Dh,Nat.sub_self];rfl
    have hpar:par g (3+k)=g.getD k []:=by rw[par,if_neg (by omega),show 3+k - 3=k by omega]
    rw[e,Wt,U0,FI ho,hpar]
    have hc:((g.getD k []).any fun c=>((Bs g k).getD c.toNat 0).testBit b)=(g.getD k []).any fun p=>(b==0)||HA g p.toNat b:=any_congr fun p hp=>by
     have:=ho (3+k) p (by rw[hpar];exact hp);exact U4 ho k p.toNat b (by omega) (by omega)
    rw[hc];have e2:(b==3+k)=(3+k==b):=by rw[JK];simp only[C0];omega
    rw[e2,Bool.or_assoc,Bool.or_left_comm,kB,Bool.or_left_comm]
def Ws {g:List (List Int)} (ho:ordered g) {d b:Nat} (hd:d<3+g.length):((Bc g).getD d 0).testBit b=(b==0||HA g d b):=U4 ho g.length d b (Hz _) hd
def Lf {g:List (List Int)} (ho:ordered g): ∀(d b:Nat),3<=d->HA g d b=true->3<=b:=by
 intro d
 induction d using Nat.strongRecOn with
 | _ d ih=>
   intro b h3 h;rw[FI ho]at h;simp only[E9,C0,Ij]at h;rcases h with rfl|⟨p,hp,h⟩
   .exact h3
   .have:=ho d p hp
    exact ih p.toNat (by omega) b (by omega) h
def Br (us:List Nat):Nat->Nat->Nat
 | 0,m=>m
 | k+1,m=>if(Br us k m).testBit (3+k)then Br us k m|||us.getD (3+k) 0 else Br us k m
def L7 {g : List (List Int)} (ho:ordered g) (m:Nat): ∀(k b:Nat),k<=g.length->((Br (Bc g) k m).testBit b=true↔m.testBit b=true\/ ∃d,3<=d/\d<3+k/\m.testBit d=true/\(b=0\/HA g d b=true))
 | 0,b,_=>by
   rw[Br];exact⟨.inl,fun h=>h.elim id fun⟨d,h1,h2,_⟩=>by omega⟩
 | k + 1, b, hk=>by
   have ih:=L7 ho m k;rw[Br];split
   .rename_i hc
    rw[Nat.testBit_or,E9,ih b (by omega),Ws ho (by omega),E9,C0];rw[ih _ (by omega)]at hc;constructor
    .rintro((h|⟨d,h1,h2,h3,h4⟩)|h)
     .exact .inl h
     .exact .inr ⟨d,h1,by omega,h3,h4⟩
     .rcases hc with hc|⟨d,h1,h2,h3,h4⟩
      .exact .inr ⟨3+k,by omega,by omega,hc,h⟩
      .refine .inr ⟨d,h1,by omega,h3,?_⟩
       rcases h with h|h
       .exact .inl h
       .rcases h4 with h4|h4
        .omega
        .exact .inr (Km ho _ _ _ h4 h)
    .rintro(h|⟨d,h1,h2,h3,h4⟩)
     .exact .inl (.inl h)
     .by_cases e:d=3+k
      .subst e;exact .inr h4
      .exact .inl (.inr ⟨d,h1,by omega,h3,h4⟩)
   .rename_i hc
    rw[ih b (by omega)];constructor
    .rintro(h|⟨d,h1,h2,h3,h4⟩)
     .exact .inl h
     .exact .inr ⟨d,h1,by omega,h3,h4⟩
    .rintro(h|⟨d,h1,h2,h3,h4⟩)
     .exact .inl h
     .by_cases e:d=3+k
      .subst e;exact absurd ((ih _ (by omega)).2 (.inl h3)) hc
      .exact .inr ⟨d,h1,by omega,h3,h4⟩
def LU: ∀(l:List Int) (bs:List Bool),(∀q∈l,0<=q/\q.toNat<bs.length)-> ∀b:Nat,(l.foldl (fun b q=>b.set q.toNat true) bs).getD b false=(bs.getD b false||l.contains (b:Int))
 | [],bs,_,b=>by simp
 | q ::r,bs,h,b=>by
   have hq:=h q (.head _);rw[List.foldl_cons,LU r _ (fun x hx=>by rw[List.length_set];exact h x (.tail _ hx)),Ee hq.2,List.contains_cons];split
   .rename_i e
    subst e;have:((q.toNat:Int)==q)=true:=by rw[C0];omega
    rw[this];simp
   .rename_i e
    have:((b:Int)==q)=false:=by rw[beq_eq_false_iff_ne];omega
    rw[this,Bool.false_or]
def Hv {g:List (List Int)} (ho:ordered g) {c:Nat} {bs:List Bool} (hc:c<=bs.length) (b:Nat):(Ie g c bs).getD b false=(bs.getD b false||(bs.getD c false&&(par g c).contains (b:Int))):=by
 rw[Ie];split
 .rename_i h
  rw[LU _ _ (fun q hq=>by have:=ho c q hq;omega),h,Ds]
 .rename_i h
  have:bs.getD c false=false:=by simpa using h
  rw[this,Bool.false_and,Bool.or_false]
def Gd {g:List (List Int)} (ho:ordered g) {n:Nat} {S:List Bool} (hl:S.length=n): ∀(k b:Nat),(CE g n k S).getD b false=true-> ∃d,S.getD d false=true/\HA g d b=true
 | 0,b,h=>⟨b,h,FQ ho b⟩
 | k + 1,b,h=>by
   rw[CE,Hv ho (by rw[Ey];omega),E9,A9]at h;rcases h with h|⟨h1,h2⟩
   .exact Gd ho hl k b h
   .obtain⟨d,h3,h4⟩:=Gd ho hl k _ h1
    refine⟨d,h3,Km ho _ _ _ h4 ?_⟩;rw[FI ho,E9,Ij];rw[List.contains_iff_mem]at h2;exact .inr ⟨_,h2,by rw[Fi];exact FQ ho b⟩
def YS {g:List (List Int)} (ho:ordered g) {n:Nat} {S:List Bool} (hl:S.length=n) (k b:Nat) (h:(CE g n k S).getD b false=true):(CE g n (k+1) S).getD b false=true:=by
 rw[CE,Hv ho (by rw[Ey];omega),h];rfl
def KQ {g:List (List Int)} (ho:ordered g) {n:Nat} {S:List Bool} (hl:S.length=n): ∀(k b:Nat),S.getD b false=true->(CE g n k S).getD b false=true
 | 0,_,h=>h
 | k+1,b,h=>YS ho hl k b (KQ ho hl k b h)
def Hw {g:List (List Int)} (ho:ordered g) {n:Nat} {S:List Bool} (hl:S.length=n): ∀(k c:Nat),k<=n->n - k<=c->(CE g n k S).getD c false=true-> ∀q∈par g c,(CE g n k S).getD q.toNat false=true
 | 0,c,_,hc,h,q,hq=>by
   rw[CE,C6,List.getElem?_eq_none (by omega)]at h;cases h
 | k + 1,c,hk,hc,h,q,hq=>by
   rw[CE,Hv ho (by rw[Ey];omega)]at h ⊢;have hoc:=ho c q hq;rw[E9,A9]at h
   have hbase:(CE g n k S).getD c false=true:=by
    rcases h with h|⟨-,h2⟩
    .exact h
    .rw[List.contains_iff_mem]at h2
     have:=ho _ _ h2;omega
   by_cases e:c=n - 1 - k
   .subst e
    rw[hbase,Ds,E9,List.contains_iff_mem];exact .inr (by rw[show((q.toNat:Nat):Int)=q by omega];exact hq)
   .rw[Hw ho hl k c (by omega) (by omega) hbase q hq];rfl
def Z5 {g:List (List Int)} (ho:ordered g) {S:List Bool} (hl:S.length=3+g.length) (b:Nat):(CE g (3+g.length) g.length S).getD b false=true↔ ∃d,S.getD d false=true/\HA g d b=true:=by
 refine⟨Gd ho hl _ b,?_⟩
 have key: ∀d,(CE g (3+g.length) g.length S).getD d false=true->HA g d b=true->(CE g (3+g.length) g.length S).getD b false=true:=by
  intro d
  induction d using Nat.strongRecOn with
  | _ d ih=>
    intro h1 h2;rw[FI ho,E9,C0,Ij]at h2;rcases h2 with rfl|⟨p,hp,h2⟩
    .exact h1
    .have hop:=ho d p hp
     refine ih p.toNat (by omega) (Hw ho hl g.length d (by omega) ?_ h1 p hp) h2;omega
 rintro⟨d,h1,h2⟩;exact key d (KQ ho hl _ d h1) h2
def RB (n:Nat) (t:BB) (u:Nat×Nat):Prop:=
 t.1.length=n/\t.2.length=n/\(∀b,t.1.getD b false=u.1.testBit b)/\(∀b,b≠1->b≠2->t.2.getD b false=u.2.testBit b)/\u.1.testBit 1=false/\u.1.testBit 2=false
def EC (m c b:Nat):(m|||2 ^ c).testBit b=(m.testBit b||b==c):=by
 rw[Nat.testBit_or,Nat.testBit_two_pow];congr 1;rw[JK];simp only[Cp,C0];omega
def Pr {l:List Bool} {m c:Nat} (hc:c<l.length) {b:Nat} (h:l.getD b false=m.testBit b):(l.set c true).getD b false=(m|||2 ^ c).testBit b:=by
 rw[Ee hc,EC,<-h];split
 .rename_i e;subst e;simp
 .rename_i e
  have:(b==c)=false:=by simpa using e
  rw[this,Bool.or_false]
def UZ (x:Fact×Bool):Bool:= !x.2&&(!(x.1.op==2)||x.1.cls==1||x.1.cls==2)
def dd {n : Nat} {x:Fact×Bool} {t:BB} {k:Kn} (h:RB n t (k.BM,k.Dz)) (hc:x.1.op=2->0<=x.1.cls/\x.1.cls<n) :
    (UZ x=true->Gm x t=none)/\(UZ x=false-> ∃t',Gm x t=some t'/\RB n t' ((B4 k x.1 x.2).BM,(B4 k x.1 x.2).Dz)):=by
 obtain⟨f,c⟩:=x;simp only at hc;obtain⟨h1,h2,h3,h4,h5,h6⟩:=h;unfold UZ Gm B4;simp only;by_cases ho:f.op=2
 .have hc':=hc ho
  by_cases h12:f.cls=1\/f.cls=2
  .rw[if_pos (.inr h12),if_pos ho]
   cases c with
   | true=>
     refine⟨fun h=>(by cases h),fun _=>⟨t,rfl,h1,h2,h3,fun b hb1 hb2=>?_,h5,h6⟩⟩;rw[if_pos rfl];show _=(k.Dz|||2 ^ f.cls.toNat).testBit b;rw[EC,h4 b hb1 hb2];have:(b==f.cls.toNat)=false:=by rw[beq_eq_false_iff_ne];omega
     rw[this,Bool.or_false]
   | false=>
     refine⟨fun _=>rfl,fun h=>?_⟩;exfalso;rcases h12 with e|e<;>simp[e]at h
  .have hn: ¬(f.op≠2\/f.cls=1\/f.cls=2):=by omega
   rw[if_neg hn,if_pos ho]
   have hb:(!c&&(!(f.op==2)||f.cls==1||f.cls==2))=false:=by
    have e1:(f.op==2)=true:=by simpa using ho
    have e2:(f.cls==1)=false:=by rw[beq_eq_false_iff_ne];omega
    have e3:(f.cls==2)=false:=by rw[beq_eq_false_iff_ne];omega
    rw[e1,e2,e3];simp
   rw[hb];refine⟨fun h=>(by cases h),fun _=>?_⟩;cases c with
   | true=>
     refine⟨_,rfl,h1,by simpa using h2,h3,fun b hb1 hb2=>?_,h5,h6⟩;exact Pr (by omega) (h4 b hb1 hb2)
   | false=>
     refine⟨_,rfl,by simpa using h1,h2,fun b=>?_,h4,?_,?_⟩
     .exact Pr (by omega) (h3 b)
     .show(k.BM|||2 ^ f.cls.toNat).testBit 1=false
      rw[EC,h5];have:(1==f.cls.toNat)=false:=by rw[beq_eq_false_iff_ne];omega
      rw[this];rfl
     .show(k.BM|||2 ^ f.cls.toNat).testBit 2=false
      rw[EC,h6];have:(2==f.cls.toNat)=false:=by rw[beq_eq_false_iff_ne];omega
      rw[this];rfl
 .rw[if_pos (.inl ho),if_neg ho]
  have e1:(f.op==2)=false:=by simpa using ho
  cases c with
  | true=>
    refine⟨fun h=>(by cases h),fun _=>⟨t,rfl,?_⟩⟩;split<;>exact⟨h1,h2,h3,h4,h5,h6⟩
  | false=>exact⟨fun _=>rfl,fun h=>by rw[e1]at h;cases h⟩
def Tq {n:Nat}: ∀(os:List Fact) {t:BB} {k:Kn},RB n t (k.BM,k.Dz)->HD n os->
    (os.any (fun l=>UZ (Ad l))=true->EP os t=none)/\(os.any (fun l=>UZ (Ad l))=false-> ∃t',EP os t=some t'/\RB n t' ((Ea os k).BM,(Ea os k).Dz))
 | [],t,k,h,_=>⟨fun h=>(by cases h),fun _=>⟨t,rfl,h⟩⟩
 | l ::r,t,k,h,hc=>by
   obtain⟨s1,s2⟩:=dd h (hc l (.head _));rw[Pj,EP];cases hb:UZ (Ad l)with
   | true=>exact⟨fun _=>by rw[s1 hb];rfl,fun h=>(by cases h)⟩
   | false=>
     obtain⟨t',h1,h2⟩:=s2 hb;rw[h1,Bool.false_or,Option.bind_some];exact Tq r h2 fun x hx=>hc x (.tail _ hx)
def nA {os:List Fact} {n:Nat} (hc:HD n os):(os.any fun l=>UZ (Ad l))=((Ea os k0).whole||(Ea os k0).BM.testBit 1||(Ea os k0).BM.testBit 2):=by
 rw[JK,E9,E9,IK,IK,L9];simp only[Ij,UZ,A9,E9,Bool.not_eq_true',C0,beq_eq_false_iff_ne,k0,Bool.false_or];constructor
 .rintro⟨l,hl,hb,(h|h)|h⟩
  .exact .inl (.inl ⟨l,hl,hb,h⟩)
  .by_cases ho:(Ad l).1.op=2
   .exact .inl (.inr ⟨l,hl,ho,hb,by rw[h];rfl⟩)
   .exact .inl (.inl ⟨l,hl,hb,ho⟩)
  .by_cases ho:(Ad l).1.op=2
   .exact .inr ⟨l,hl,ho,hb,by rw[h];rfl⟩
   .exact .inl (.inl ⟨l,hl,hb,ho⟩)
 .rintro((⟨l,hl,hb,h⟩|⟨l,hl,ho,hb,h⟩)|⟨l,hl,ho,hb,h⟩)
  .exact⟨l,hl,hb,.inl (.inl h)⟩
  .have:=hc l hl ho
   exact⟨l,hl,hb,.inl (.inr (by omega))⟩
  .have:=hc l hl ho
   exact⟨l,hl,hb,.inr (by omega)⟩
def aK (w:AF) (Ab can:Int->Bool) (s:Int) (u:Nat×Nat):Option (Nat×Nat):=
 if Ab s&& !can s then none else some (if Ab s then u.1|||2 ^ (Bl w s).toNat else u.1,if can s then u.2 else u.2|||2 ^ (Bl w s).toNat)
def JX (w:AF) (Ab can:Int->Bool):List Int->Nat×Nat->Option (Nat×Nat)
 | [],u=>some u
 | s::r,u=>(aK w Ab can s u).bind (JX w Ab can r)
def cA {w:AF} {ls:List Fact} {a:Int} {p:List Int} {can Ab:Int->Bool} (hn: ∀s,Ab s= !DF ls a (p++[s])) {n:Nat} (how: ∀s:Int,0<=s->s<w.owner.length->3<=Bl w s/\Bl w s<n) :
    ∀(sl:List Int) {t:BB} {u:Nat×Nat},(∀s∈sl,0<=s/\s<w.owner.length)->RB n t u->
    (D5 w ls a p can sl t=none/\JX w Ab can sl u=none)\/ ∃t' u',D5 w ls a p can sl t=some t'/\JX w Ab can sl u=some u'/\RB n t' u'
 | [],t,u,_,h=> .inr ⟨t,u,rfl,rfl,h⟩
 | s ::r,t,u,hsl,h=>by
   have hs:=hsl s (.head _);have ho:=how s hs.1 hs.2;rw[D5,JX,JP,aK,hn];obtain⟨h1,h2,h3,h4,h5,h6⟩:=h;split
   .exact .inl ⟨rfl,rfl⟩
   .rw[Option.bind_some,Option.bind_some]
    refine cA hn how r (fun x hx=>hsl x (.tail _ hx)) ?_;have hb: ∀i,i<3->(i==(Bl w s).toNat)=false:=fun i hi=>by rw[beq_eq_false_iff_ne];omega
    cases DF ls a (p++[s])<;>cases can s<;>refine⟨by simpa using h1,by simpa using h2,fun b=>?_,fun b hb1 hb2=>?_,?_,?_⟩
    all_goals simp only[Bool.not_false,Bool.not_true,ME,if_true,if_false]
    all_goals first
     | exact h3 b
     | exact h4 b hb1 hb2
     | exact h5
     | exact h6
     | exact Pr (by omega) (h3 b)
     | exact Pr (by omega) (h4 b hb1 hb2)
     | (rw[EC,h5,hb 1 (by omega)];rfl)
     | (rw[EC,h6,hb 2 (by omega)];rfl)
def H5 (m:Nat):Nat:=m - m % 2
def Xe (m b:Nat):(H5 m).testBit b=(m.testBit b&& !(b==0)):=by
 cases b with
 | zero=>
   simp[H5,Nat.testBit_zero];omega
 | succ b=>
   rw[Nat.testBit_succ,Nat.testBit_succ,H5,show(m - m % 2) / 2=m / 2 by omega];simp
def vK {w : AF} (ho:ordered w.parents) {t:BB} {u:Nat×Nat} (h:RB (3+w.parents.length) t u) :
    (V9 w t).isSome=(!u.2.testBit 0&&(H5 (Br (Bc w.parents) w.parents.length u.1)&&&u.2==0)):=by
 obtain⟨h1,h2,h3,h4,h5,h6⟩:=h;rw[V9,h4 0 (by decide) (by decide)];cases h0:u.2.testBit 0 with
 | true=>rfl
 | false =>
   rw[if_neg (by decide),Bool.not_false,Ds];have hl:(t.1.set 0 false).length=3+w.parents.length:=by simpa using h1
   have hR:=Z5 ho hl;have hP:=L7 ho u.1 w.parents.length
   have hS: ∀d,(t.1.set 0 false).getD d false=true↔d≠0/\u.1.testBit d=true:=fun d=>by
    rw[Ee (by omega)];split
    .rename_i e;subst e;simp
    .rename_i e;rw[h3];exact⟨fun h=>⟨e,h⟩,fun h=>h.2⟩
   have hlt: ∀b,u.1.testBit b=true->b<3+w.parents.length:=fun b hb=>by
    rw[<-h3]at hb;rcases Nat.lt_or_ge b (3+w.parents.length)with h'|h'
    .exact h'
    .rw[C6,List.getElem?_eq_none (by omega)]at hb;cases hb
   have h3b: ∀d,d≠0->u.1.testBit d=true->3<=d:=fun d hd hb=>by
    rcases d with _|_|_|d
    .exact absurd rfl hd
    .rw[h5]at hb;cases hb
    .rw[h6]at hb;cases hb
    .omega
   have hM: ∀b,(H5 (Br (Bc w.parents) w.parents.length u.1)).testBit b=true↔(CE w.parents (3+w.parents.length) w.parents.length (t.1.set 0 false)).getD b false=true:=fun b=>by
    rw[Xe,A9,hP b (Hz _),hR,Bool.not_eq_true',beq_eq_false_iff_ne];constructor
    .rintro⟨h|⟨d,q1,q2,q3,q4⟩,hb⟩
     .exact⟨b,(hS b).2 ⟨hb,h⟩,FQ ho b⟩
     .rcases q4 with e|q4
      .exact absurd e hb
      .exact⟨d,(hS d).2 ⟨by omega,q3⟩,q4⟩
    .rintro⟨d,hd,hu⟩
     obtain⟨hd0,hdu⟩:=(hS d).1 hd;have hd3:=h3b d hd0 hdu;have:=Lf ho d b hd3 hu;exact⟨.inr ⟨d,hd3,hlt d hdu,hdu,.inr hu⟩,by omega⟩
   have hany:((List.range (3+w.parents.length)).any fun c=>(CE w.parents (3+w.parents.length) w.parents.length (t.1.set 0 false)).getD c false&&t.2.getD c false)= !(H5 (Br (Bc w.parents) w.parents.length u.1)&&&u.2==0):=by
    rw[JK,Bool.not_eq_true',<-Bool.not_eq_true,NJ,Ij];constructor
    .rintro⟨c,hc,hx⟩ hall
     rw[A9]at hx;have hm:=(hM c).2 hx.1;obtain⟨d,hd,hu⟩:=(hR c).1 hx.1;obtain⟨hd0,hdu⟩:=(hS d).1 hd;have:=Lf ho d c (h3b d hd0 hdu) hu;exact hall c hm (by rw[<-h4 c (by omega) (by omega)];exact hx.2)
    .intro hne
     rcases Classical.em (∃b,(H5 (Br (Bc w.parents) w.parents.length u.1)).testBit b=true/\u.2.testBit b=true)with⟨b,hb1,hb2⟩|hno
     .have hm:=(hM b).1 hb1
      obtain⟨d,hd,hu⟩:=(hR b).1 hm;obtain⟨hd0,hdu⟩:=(hS d).1 hd;have:=Lf ho d b (h3b d hd0 hdu) hu;have:=ij ho d b hu;have:=hlt d hdu;exact⟨b,List.mem_range.2 (by omega),by rw[hm,h4 b (by omega) (by omega),hb2];rfl⟩
     .exact absurd (fun b h1 h2=>hno ⟨b,h1,h2⟩) hne
   rw[hany];cases(H5 (Br (Bc w.parents) w.parents.length u.1)&&&u.2==0)<;>rfl
def PU (w:AF) (k:Kn) (Ab can:Int->Bool):Nat×Bool:=
 if k.whole||k.BM.testBit 1||k.BM.testBit 2||k.Dz.testBit 0 then(0,false)else
 match JX w Ab can k.AG (k.BM,k.Dz)with
 | none=>(0,false)
 | some u=>(H5 (Br (Bc w.parents) w.parents.length u.1),H5 (Br (Bc w.parents) w.parents.length u.1)&&&u.2==0)
def SB {w:AF} {Ab can:Int->Bool} (how: ∀s:Int,0<=s->s<w.owner.length->3<=Bl w s): ∀(sl:List Int) {u u':Nat×Nat},(∀s∈sl,0<=s/\s<w.owner.length)->JX w Ab can sl u=some u'->u'.2.testBit 0=u.2.testBit 0
 | [],u,u',_,h=>by cases h;rfl
 | s ::r,u,u',hsl,h=>by
   have hs:=hsl s (.head _);have ho:=how s hs.1 hs.2;rw[JX,aK]at h;split at h
   .cases h
   .rw[Option.bind_some]at h
    rw[SB how r (fun x hx=>hsl x (.tail _ hx)) h];simp only;split
    .rfl
    .rw[EC]
     have:(0==(Bl w s).toNat)=false:=by rw[beq_eq_false_iff_ne];omega
     rw[this,Bool.or_false]
def sB {w:AF} {ls:List Fact} {a:Int} {p:List Int} {can Ab:Int->Bool} (ho:ordered w.parents) (how: ∀s:Int,0<=s->s<w.owner.length->3<=Bl w s/\Bl w s<3+w.parents.length) (hc:HD (3+w.parents.length) ls) (hp:Hj w.owner.length ls) (hn: ∀s,Ab s= !DF ls a (p++[s])) :
    (PU w (kn ls a p) Ab can).2=(LY w ls a p can).isSome:=by
 have hcore:=Mf ls a p;have hsl:=KC hp a p;generalize kn ls a p=k at *;have hc2:HD (3+w.parents.length) (ls.filter (Fv a p)):=fun l hl=>hc l (Ik.1 hl).1
 simp only[Db,Prod.mk.injEq]at hcore;obtain⟨-,-,-,c4,c5,c6⟩:=hcore;rw[PU,LY,c4,c5,c6,<-nA hc2,hsl]
 have hR0:RB (3+w.parents.length) (tO w) (k0.BM,k0.Dz):=by
  refine⟨by simp[tO],by simp[tO],fun b=>?_,fun b _ _=>?_,rfl,rfl⟩<;>
  .simp only[tO,k0,Nat.zero_testBit,C6,List.getElem?_replicate]
   split<;>rfl
 obtain⟨f1,f2⟩:=Tq _ hR0 hc2;cases hbad:(ls.filter (Fv a p)).any fun l=>UZ (Ad l)with
 | true=>rw[f1 hbad];rfl
 | false=>
   obtain⟨t,ht,hR⟩:=f2 hbad;rw[ht,Option.bind_some,Bool.false_or];have hin: ∀s∈BR w.owner.length ls a p,0<=s/\s<(w.owner.length:Int):=fun s hs=>Fl hs
   rcases cA (can:=can) hn (fun s h0 h1=>by have:=how s h0 h1;omega) (BR w.owner.length ls a p) hin hR with⟨e1,e2⟩|⟨t',u',e1,e2,hR'⟩
   .rw[e1,e2]
    split<;>rfl
   .rw[e1,e2,Option.bind_some,vK ho hR']
    have:=SB (fun s h0 h1=>(how s h0 h1).1) _ hin e2;rw[this];simp only;cases((Ea (ls.filter (Fv a p)) k0).Dz.testBit 0)<;>rfl
end Go.Gl
namespace Go.Gl
abbrev CL (a:Int) (p:List Int):V:= .a [eI a,eI (p.length:Int),eI (p.getD 0 0),eI (p.getD 1 0)]
structure B8 where
 a:Int
 p:List Int
 b:Nat
 vn:V
 vs:V
 k:Kn
abbrev B8.is (e:B8) (a:Int) (p:List Int):Bool:=e.a==a&&e.p==p
abbrev entC (b:Nat) (vn vs:V) (k:Kn):At:= .box b [eI k.low,eI k.high,vn,eU k.BM,eU k.Dz,.b k.whole,.b k.Ab,vs]
abbrev tZ (b:Nat) (vn vs:V) (k:Kn):List At:=[entC b vn vs k,.own vn 1 (iL k.no),.own vs 1 (iL k.AG)]
abbrev Wb (e:B8):List At:=tZ e.b e.vn e.vs e.k
def UK (es:List B8):List (V×V):=es.map fun e=>(CL e.a e.p,.p e.b 0)
def CN (L:Nat) (es:List B8):List At:= .map L (UK es)::es.flatMap Wb
def H9 (L:Nat) (es pre post:List B8):List At:= .map L (UK es)::(pre++post).flatMap Wb
def Gt {e:B8} {a:Int} {p:List Int}:e.is a p=true↔e.a=a/\e.p=p:=by simp[B8.is]
def P0 {e:B8} {a:Int} {p:List Int}:e.is a p=false↔ ¬(e.a=a/\e.p=p):=by rw[<-Gt,Bool.not_eq_true]
def Uk {a a':Int} {p p':List Int} (h:p.length<=2) (h':p'.length<=2):D6 (CL a p) (CL a' p')=(a==a'&&p==p'):=by
 have e:D6 (CL a p) (CL a' p')=(a==a'&&((p.length:Int)==p'.length&&(p.getD 0 0==p'.getD 0 0&&(p.getD 1 0==p'.getD 1 0)))):=by
  simp[D6,Bz,CL]
 rw[e];congr 1
 match p,h,p',h' with
 | [],_,[],_=>rfl
 | [],_,[_],_=>simp
 | [],_,[_,_],_=>simp<;>omega
 | [_],_,[],_=>simp
 | [x],_,[y],_=>simp
 | [_],_,[_,_],_=>simp<;>omega
 | [_,_],_,[],_=>simp<;>omega
 | [_,_],_,[_],_=>simp<;>omega
 | [x,y],_,[z,u],_=>simp
def IQ (es:List B8): ∀kv∈UK es,BW (.a [.i64,.i64,.i64,.i64]) kv.1=true:=by
 intro kv h;obtain⟨e,_,rfl⟩:=Il.1 h;rfl
def Q6 {a:Int} {p:List Int} (hp:p.length<=2): ∀ {es:List B8},(∀e∈es,e.p.length<=2)->(∀e∈es,e.is a p=false)->Cn (CL a p) (UK es)=none
 | [],_,_=>rfl
 | e ::r,hl,h=>by
   have he:=h e (.head _);rw[UK,FA,Cn,Uk hp (hl e (.head _))]
   have:(a==e.a&&p==e.p)=false:=by
    rw[<-he,B8.is,JK];simp only[A9,C0];exact⟨fun⟨h1,h2⟩=>⟨h1.symm,h2.symm⟩,fun⟨h1,h2⟩=>⟨h1.symm,h2.symm⟩⟩
   rw[this,cond_false];exact Q6 hp (fun x hx=>hl x (.tail _ hx)) (fun x hx=>h x (.tail _ hx))
def Yx {a:Int} {p:List Int} (hp:p.length<=2) (b:Nat) (vn vs:V) (k:Kn): ∀ {es:List B8},(∀e∈es,e.p.length<=2)->(∀e∈es,e.is a p=false)->DZ (CL a p) (.p b 0) (UK es)=UK (es++[⟨a,p,b,vn,vs,k⟩])
 | [],_,_=>rfl
 | e ::r,hl,h=>by
   have he:=h e (.head _);have ih:=Yx hp b vn vs k (fun x hx=>hl x (.tail _ hx)) (fun x hx=>h x (.tail _ hx));simp only[UK]at ih;rw[UK,FA,DZ,Uk hp (hl e (.head _))]
   have:(a==e.a&&p==e.p)=false:=by
    rw[<-he,B8.is,JK];simp only[A9,C0];exact⟨fun⟨h1,h2⟩=>⟨h1.symm,h2.symm⟩,fun⟨h1,h2⟩=>⟨h1.symm,h2.symm⟩⟩
   rw[this,cond_false,ih];rfl
def Q5 {a:Int} {p:List Int} (hp:p.length<=2) {e:B8} (he:e.is a p=true) {post:List B8}: ∀ {pre:List B8},(∀x∈pre++e::post,x.p.length<=2)->(∀x∈pre,x.is a p=false)->Cn (CL a p) (UK (pre++e::post))=some (.p e.b 0)
 | [],hl,_=>by
   rw[List.nil_append,UK,FA,Cn,Uk hp (hl e (.head _))];obtain⟨h1,h2⟩:=Gt.1 he;rw[h1,h2];simp
 | x ::r,hl,h=>by
   have hx:=h x (.head _);rw[List.cons_append,UK,FA,Cn,Uk hp (hl x (.head _))]
   have:(a==x.a&&p==x.p)=false:=by
    rw[<-hx,B8.is,JK];simp only[A9,C0];exact⟨fun⟨h1,h2⟩=>⟨h1.symm,h2.symm⟩,fun⟨h1,h2⟩=>⟨h1.symm,h2.symm⟩⟩
   rw[this,cond_false];exact Q5 hp he (fun y hy=>hl y (.tail _ hy)) (fun y hy=>h y (.tail _ hy))
def iH (a : Int) (p:List Int): ∀(es:List B8),(∀e∈es,e.is a p=false)\/ ∃pre e post,es=pre++e::post/\e.is a p=true/\ ∀x∈pre,x.is a p=false
 | []=> .inl fun _ h=>by cases h
 | e ::r=>by
   cases h:e.is a p with
   | true=>exact .inr ⟨[],e,r,rfl,h,fun _ h=>by cases h⟩
   | false=>
     rcases iH a p r with h1|⟨pre,x,post,rfl,h1,h2⟩
     .exact .inl fun x hx=>by
       rcases GM.1 hx with rfl|hx
       .exact h
       .exact h1 x hx
     .exact .inr ⟨e::pre,x,post,rfl,h1,fun y hy=>by
       rcases GM.1 hy with rfl|hy
       .exact h
       .exact h2 y hy⟩
def XO (L:Nat) (pre post:List B8) (e:B8):(CN L (pre++e::post)).Perm (Wb e++H9 L (pre++e::post) pre post):=by
 unfold CN H9;rw[List.flatMap_append,List.flatMap_cons,List.flatMap_append];refine List.Perm.trans ?_ (List.perm_middle.symm);refine List.Perm.cons _ ?_;rw[<-PR,<-PR];exact List.Perm.append_right _ Nk
def Rz {pre post:List B8} {e e':B8} (h1:e'.a=e.a) (h2:e'.p=e.p) (h3:e'.b=e.b):UK (pre++e'::post)=UK (pre++e::post):=by
 simp only[UK,SU,FA,h1,h2,h3]
def Vd {L:Nat} {pre post:List B8} {e e':B8} (h1:e'.a=e.a) (h2:e'.p=e.p) (h3:e'.b=e.b):H9 L (pre++e'::post) pre post=H9 L (pre++e::post) pre post:=by
 rw[H9,H9,Rz h1 h2 h3]
structure B2 (kf:Int->List Int->Kn) (es:List B8):Prop where
 val: ∀e∈es,e.k=kf e.a e.p
 K8: ∀a p,(∀e∈es,e.is a p=false)->kf a p=k0
 one:es.Pairwise fun e e'=>e.is e'.a e'.p=false
 len: ∀e∈es,e.p.length<=2
def S9 (es:List B8):Prop:= ∀e∈es,∀s∈e.k.AG,∃e'∈es,e'.is e.a (e.p++[s])=true
def B2.congr {kf kf':Int->List Int->Kn} {es:List B8} (h:B2 kf es) (e: ∀a p,kf a p=kf' a p):B2 kf' es:=
 ⟨fun x hx=>(h.val x hx).trans (e _ _),fun a p hp=>(e a p).symm.trans (h.K8 a p hp),h.one,h.len⟩
def B2.add {kf:Int->List Int->Kn} {es:List B8} (h:B2 kf es) {a:Int} {p:List Int} (hp:p.length<=2) (hn: ∀e∈es,e.is a p=false) (b:Nat) (vn vs:V):B2 kf (es++[⟨a,p,b,vn,vs,k0⟩]):=by
 refine⟨fun x hx=>?_,fun a' p' h'=>h.K8 a' p' fun x hx=>h' x (Pk _ hx),?_,fun x hx=>?_⟩
 .rcases Dy.1 hx with hx|hx
  .exact h.val x hx
  .rw[KV.1 hx];exact(h.K8 a p hn).symm
 .rw[List.pairwise_append]
  exact⟨h.one,List.pairwise_singleton _ _,fun x hx y hy=>by rw[KV.1 hy];exact hn x hx⟩
 .rcases Dy.1 hx with hx|hx
  .exact h.len x hx
  .rw[KV.1 hx];exact hp
def S9.add {es:List B8} (h:S9 es) {a:Int} {p:List Int} (b:Nat) (vn vs:V):S9 (es++[⟨a,p,b,vn,vs,k0⟩]):=by
 intro e he s hs;rcases Dy.1 he with he|he
 .obtain⟨e',h1,h2⟩:=h e he s hs
  exact⟨e',Pk _ h1,h2⟩
 .rw[KV.1 he]at hs
  cases hs
def No (kf:Int->List Int->Kn) (a:Int) (p:List Int) (k:Kn):Int->List Int->Kn:=fun a' p'=>if a'=a/\p'=p then k else kf a' p'
def B2.change {kf:Int->List Int->Kn} {pre post:List B8} {e:B8} (h:B2 kf (pre++e::post)) (b:Nat) (vn vs:V) (k:Kn):B2 (No kf e.a e.p k) (pre++⟨e.a,e.p,b,vn,vs,k⟩::post):=by
 have h1:=h.one;rw[List.pairwise_append,List.pairwise_cons]at h1;obtain⟨o1,⟨o2,o3⟩,o4⟩:=h1;refine⟨fun x hx=>?_,fun a p hp=>?_,?_,fun x hx=>?_⟩
 .rw [No]
  rcases Dy.1 hx with hx|hx
  .rw[if_neg]
   .exact h.val x (Pk _ hx)
   .have:=o4 x hx e (.head _)
    rw[P0]at this;exact this
  .rcases GM.1 hx with rfl|hx
   .rw[if_pos ⟨rfl,rfl⟩]
   .rw[if_neg]
    .exact h.val x (Ov _ (.tail _ hx))
    .have:=o2 x hx
     rw[P0]at this;exact fun⟨q1,q2⟩=>this ⟨q1.symm,q2.symm⟩
 .have he:=P0.1 (hp _ (Ov _ (.head _)))
  rw[No,if_neg (fun⟨q1,q2⟩=>he ⟨q1.symm,q2.symm⟩)];refine h.K8 a p fun x hx=>?_
  rcases Dy.1 hx with hx|hx
  .exact hp x (Pk _ hx)
  .rcases GM.1 hx with rfl|hx
   .exact P0.2 he
   .exact hp x (Ov _ (.tail _ hx))
 .rw[List.pairwise_append,List.pairwise_cons]
  refine⟨o1,⟨o2,o3⟩,fun x hx y hy=>?_⟩;rcases GM.1 hy with rfl|hy
  .exact o4 x hx e (.head _)
  .exact o4 x hx y (.tail _ hy)
 .rcases Dy.1 hx with hx|hx
  .exact h.len x (Pk _ hx)
  .rcases GM.1 hx with rfl|hx
   .exact h.len e (Ov _ (.head _))
   .exact h.len x (Ov _ (.tail _ hx))
def S9.change {pre post:List B8} {e:B8} (h:S9 (pre++e::post)) (b:Nat) (vn vs:V) (k:Kn) (hs: ∀s∈k.AG,s∈e.k.AG\/ ∃e'∈pre++e::post,e'.is e.a (e.p++[s])=true):S9 (pre++⟨e.a,e.p,b,vn,vs,k⟩::post):=by
 have mov: ∀ {a p},(∃e'∈pre++e::post,e'.is a p=true)-> ∃e'∈pre++(⟨e.a,e.p,b,vn,vs,k⟩:B8)::post,e'.is a p=true:=by
  rintro a p ⟨x,hx,h'⟩;rcases Dy.1 hx with hx|hx
  .exact⟨x,Pk _ hx,h'⟩
  .rcases GM.1 hx with rfl|hx
   .exact⟨_,Ov _ (.head _),h'⟩
   .exact⟨x,Ov _ (.tail _ hx),h'⟩
 intro x hx s hxs;rcases Dy.1 hx with hx|hx
 .exact mov (h x (Pk _ hx) s hxs)
 .rcases GM.1 hx with rfl|hx
  .rcases hs s hxs with h'|h'
   .exact mov (h e (Ov _ (.head _)) s h')
   .exact mov h'
  .exact mov (h x (Ov _ (.tail _ hx)) s hxs)
def Du (f:Fact) (c:Bool) (j:Nat) (a:Int) (p:List Int) (k:Kn):Kn:=
 if f.arg=a/\Bd f.path p=true then(if p.length<j then gR (B5 k c) (f.path.getD p.length 0)else if p.length=j then B5 k c else k)else k
def HZ {path p:List Int}:Bd path p=true↔p.length<=path.length/\p=path.take p.length:=by
 rw[B6];constructor
 .rintro⟨t,rfl⟩
  exact⟨by simp,by simp⟩
 .rintro⟨h1,h2⟩
  exact⟨path.drop p.length,by conv=>rhs;rw[h2,Jl,Nat.min_eq_left h1,List.take_append_drop]⟩
def ph (f:Fact) (c:Bool) (a:Int) (p:List Int) (k:Kn):Du f c 0 a p k=if a=f.arg/\p= []then B5 k c else k:=by
 unfold Du;by_cases h:f.arg=a/\Bd f.path p=true
 .rw[if_pos h,if_neg (by omega)]
  by_cases hp:p.length=0
  .rw[if_pos hp,if_pos ⟨h.1.symm,YW.1 hp⟩]
  .rw[if_neg hp,if_neg (fun h'=>hp (by rw[h'.2];rfl))]
 .rw[if_neg h,if_neg]
  rintro⟨rfl,rfl⟩;exact h ⟨rfl,B6.2 ⟨f.path,by simp⟩⟩
def pj (f:Fact) (c:Bool) {j:Nat} (hj:j<f.path.length) (a:Int) (p:List Int) (k:Kn):Du f c (j+1) a p k=if a=f.arg/\p=f.path.take (j+1)then B5 (Du f c j a p k) c else if a=f.arg/\p=f.path.take j then gR (Du f c j a p k) (f.path.getD j 0)else Du f c j a p k:=by
 unfold Du;by_cases h:f.arg=a/\Bd f.path p=true
 .rw [if_pos h,if_pos h]
  obtain⟨h1,h2⟩:=h;rw[HZ]at h2;obtain⟨h2,h3⟩:=h2;have l1:p=f.path.take (j+1)↔p.length=j+1:=⟨fun e=>by rw[e,Jl];omega,fun e=>by rw[e]at h3;exact h3⟩
  have l2:p=f.path.take j↔p.length=j:=⟨fun e=>by rw[e,Jl];omega,fun e=>by rw[e]at h3;exact h3⟩
  have n1:p.length≠j+1-> ¬(a=f.arg/\p=f.path.take (j+1)):=fun h h'=>h (l1.1 h'.2)
  have n2:p.length≠j-> ¬(a=f.arg/\p=f.path.take j):=fun h h'=>h (l2.1 h'.2)
  by_cases q1:p.length<j
  .rw[if_pos (show p.length<j+1 by omega),if_neg (n1 (by omega)),if_neg (n2 (by omega)),if_pos q1]
  .by_cases q2:p.length=j
   .rw[if_pos (show p.length<j+1 by omega),if_neg (n1 (by omega)),if_pos (show a=f.arg/\p=f.path.take j from⟨h1.symm,l2.2 q2⟩),if_neg q1,if_pos q2,q2]
   .by_cases q3:p.length=j+1
    .rw[if_neg (show¬p.length<j+1 by omega),if_pos q3,if_pos (show a=f.arg/\p=f.path.take (j+1) from⟨h1.symm,l1.2 q3⟩),if_neg q1,if_neg q2]
    .rw[if_neg (show¬p.length<j+1 by omega),if_neg q3,if_neg (n1 q3),if_neg (n2 q2),if_neg q1,if_neg q2]
 .rw[if_neg h,if_neg h,if_neg,if_neg]
  .rintro⟨rfl,rfl⟩
   exact h ⟨rfl,B6.2 ⟨f.path.drop j,by rw[List.take_append_drop]⟩⟩
  .rintro⟨rfl,rfl⟩
   exact h ⟨rfl,B6.2 ⟨f.path.drop (j+1),by rw[List.take_append_drop]⟩⟩
def uo (a : Int) (p:List Int) (k:Kn) (l:Fact):C1 a p k l=if a=(Ad l).1.arg/\p=(Ad l).1.path then B4 (Du (Ad l).1 (Ad l).2 (Ad l).1.path.length a p k) (Ad l).1 (Ad l).2 else Du (Ad l).1 (Ad l).2 (Ad l).1.path.length a p k:=by
 unfold C1 Du;by_cases h:(Ad l).1.arg=a/\Bd (Ad l).1.path p=true
 .rw [if_pos h,if_pos h]
  obtain⟨h1,h2⟩:=h;rw[HZ]at h2;obtain⟨h2,h3⟩:=h2;by_cases hp:(Ad l).1.path=p
  .rw[if_pos hp,if_pos ⟨h1.symm,hp.symm⟩,if_neg (by rw[hp];omega),if_pos (by rw[hp])]
  .have hne:p.length<(Ad l).1.path.length:=by
    rcases Nat.lt_or_ge p.length (Ad l).1.path.length with h'|h'
    .exact h'
    .rw[List.take_of_length_le h']at h3
     exact absurd h3.symm hp
   rw[if_neg hp,if_neg (fun h=>hp h.2.symm),if_pos hne]
 .rw[if_neg h,if_neg h,if_neg]
  rintro⟨rfl,rfl⟩;exact h ⟨rfl,KT _⟩
def pq (ls:List Fact) (l:Fact) (a:Int) (p:List Int):kn (ls++[l]) a p=C1 a p (kn ls a p) l:=by
 rw[kn,List.foldl_append];rfl
def UE (l:List Int) (s:Int):(Jb l s).length<=l.length+1:=by
 unfold Jb;split
 .omega
 .rw[List.length_mergeSort];simp
def SN (k:Kn) (f:Fact) (b:Bool):(B4 k f b).no.length<=k.no.length+1:=by
 unfold B4
 repeat' split
 all_goals simp
def jR (a:Int) (p:List Int): ∀(ls:List Fact) (k:Kn),(ls.foldl (C1 a p) k).no.length<=k.no.length+ls.length/\(ls.foldl (C1 a p) k).AG.length<=k.AG.length+ls.length
 | [],k=>⟨Hz _,Hz _⟩
 | l ::r,k=>by
   obtain⟨h1,h2⟩:=jR a p r (C1 a p k l)
   have h3:(C1 a p k l).no.length<=k.no.length+1/\(C1 a p k l).AG.length<=k.AG.length+1:=by
    unfold C1
    repeat' split
    .have:=SN (B5 k (Ad l).2) (Ad l).1 (Ad l).2
     rw[Ii];simp only[B5]at this ⊢;omega
    .have:=UE k.AG ((Ad l).1.path.getD p.length 0)
     simp only[gR,B5]at this ⊢;omega
    .omega
   rw[List.foldl_cons,LF];omega
def pt {n:Nat} {ls:List Fact} (h:HD n ls) (a:Int) (p:List Int):(kn ls a p).BM<2 ^ n/\(kn ls a p).Dz<2 ^ n:=by
 have hc:=Mf ls a p;simp only[Db,Prod.mk.injEq]at hc;have hc2:HD n (ls.filter (Fv a p)):=fun l hl=>h l (Ik.1 hl).1
 rw[hc.2.2.2.1,hc.2.2.2.2.1];exact⟨Me hc2,jG hc2⟩
end Go.Gl
namespace Go.Gl
def HC (no:List Int):Nat->Int->Int
 | 0,n=>n
 | k+1,n=>if no.contains n then HC no k (n+1)else n
def from_ (no:List Int) (n:Int):Nat:=(no.filter fun x=>decide (n<=x)).length
def P6 {no:List Int} {n:Int} (h:n∈no):from_ no (n+1)<from_ no n:=by
 induction no with
 | nil=>cases h
 | cons x r ih=>
   simp only[from_,List.filter_cons]at ih ⊢;by_cases hx:x=n
   .subst hx
    have hle:(r.filter fun y=>decide (x+1<=y)).length<=(r.filter fun y=>decide (x<=y)).length:=by
     refine List.Sublist.length_le ?_
     have e:(r.filter fun y=>decide (x+1<=y))=(r.filter fun y=>decide (x<=y)).filter fun y=>decide (x+1<=y):=by
      rw[List.filter_filter];refine List.filter_congr fun y _=>?_
      rw[JK,A9,Cp,Cp];omega
     rw[e];exact List.filter_sublist
    rw[if_neg (by simp<;>omega),if_pos (by simp),LF];omega
   .have h':n∈r:=by
     rcases GM.1 h with e|e
     .exact absurd e.symm hx
     .exact e
    have:=ih h';by_cases h1:n<=x
    .rw[if_pos (by rw[Cp];omega),if_pos (by rw[Cp];omega),LF,LF]
     omega
    .rw[if_neg (by rw[Cp];omega),if_neg (by rw[Cp];omega)]
     omega
def VR (no:List Int) (n:Int):from_ no n<=no.length:=Ou _ _
def NQ {no:List Int}: ∀(k:Nat) (n:Int),from_ no n<=k->n<=HC no k n/\HC no k n∉no/\ ∀j,n<=j->j<HC no k n->j∈no
 | 0,n,h=>by
   refine⟨Int.le_refl _,fun hm=>?_,fun j h1 h2=>by simp only[HC]at h2;omega⟩;have:=P6 hm;simp only[HC]at this;omega
 | k + 1,n,h=>by
   rw[HC];split
   .rename_i hc
    rw[List.contains_iff_mem]at hc;have hlt:=P6 hc;obtain⟨h1,h2,h3⟩:=NQ (no:=no) k (n+1) (by omega);refine⟨by omega,h2,fun j hj1 hj2=>?_⟩;by_cases e:j=n
    .subst e;exact hc
    .exact h3 j (by omega) hj2
   .rename_i hc
    exact⟨Int.le_refl _,fun hm=>hc (List.contains_iff_mem.2 hm),fun j h1 h2=>by omega⟩
def kI {no:List Int} {k:Nat} {n:Int} (h:n∈no):HC no (k+1) n=HC no k (n+1):=by rw[HC,if_pos (List.contains_iff_mem.2 h)]
def cZ {no:List Int} {k:Nat} {n:Int} (h:n∉no):HC no k n=n:=by
 cases k with
 | zero=>rfl
 | succ k=>rw[HC,if_neg (fun hc=>h (List.contains_iff_mem.1 hc))]
def QB {no:List Int} {k k':Nat} {n:Int} (h:from_ no n<=k) (h':from_ no n<=k'):HC no k n=HC no k' n:=by
 obtain⟨a1,a2,a3⟩:=NQ k n h;obtain⟨b1,b2,b3⟩:=NQ k' n h';rcases Int.lt_trichotomy (HC no k n) (HC no k' n)with hl|he|hg
 .exact absurd (b3 _ a1 hl) a2
 .exact he
 .exact absurd (a3 _ b1 hg) b2
def Eo (k:Kn):Int:=HC k.no k.no.length k.low
def IE (kf:Int->List Int->Kn) (a:Int) (p:List Int):Bool:=(kf a p).AG.all fun s=> !(kf a (p++[s])).Ab
def Ek (kf:Int->List Int->Kn) (a:Int) (p:List Int) (c:Nat):Bool:=H2 (kf a p).BM (1|||2 ^ c)&&((kf a p).Dz&&&(1|||2 ^ c)==0&&IE kf a p)
def GJ (kf:Int->List Int->Kn) (a:Int) (p:List Int):Bool:=decide (Eo (kf a p)<=(kf a p).high)&&Ek kf a p 1
def DY (kf:Int->List Int->Kn) (a:Int) (p:List Int):Bool:= !(kf a p).whole&&Ek kf a p 2
def PX (w:AF) (kf:Int->List Int->Kn) (a:Int):Nat->List Int->Bool
 | 0,p=>GJ kf a p||(DY kf a p||(PU w (kf a p) (fun s=>(kf a (p++[s])).Ab) (fun _=>false)).2)
 | d+1,p=>GJ kf a p||(DY kf a p||(PU w (kf a p) (fun s=>(kf a (p++[s])).Ab) (fun s=>PX w kf a d (p++[s]))).2)
def gU (w:AF) (kf:Int->List Int->Kn):Bool:=(BS 3).all fun a=>PX w kf a 2 []
def cF {n:Nat} {ls:List Fact} (h:Hj n ls) (a:Int) (p:List Int):IE (kn ls) a p=Da n ls a p:=by
 rw[IE,Da,KC h];congr 1;funext s;rw[Kv,Bool.not_not]
def Y1 {n m:Nat} {ls:List Fact} (hn:n<=64) (hc:HD n ls) (h:Hj m ls) (a:Int) (p:List Int):GJ (kn ls) a p=((GI ls a p).isSome&&Da m ls a p):=by
 have hcore:=Mf ls a p;have hc2:HD n (ls.filter (Fv a p)):=fun l hl=>hc l (Ik.1 hl).1
 simp only[Db,Prod.mk.injEq]at hcore;obtain⟨c1,c2,c3,c4,c5,-⟩:=hcore;rw[GJ,Ek,cF h,c4,c5,<-Bool.and_assoc (H2 _ _),eE hn hc2,<-Bool.and_assoc];congr 1;have hf:=Ts (ls.filter (Fv a p)) k0;rw[GI,show t0=(k0.low,k0.high,k0.no) from rfl,hf,Eo,c2,c3,c1];obtain⟨h1,h2,h3⟩:=NQ (no:=(Ea (ls.filter (Fv a p)) k0).no) _ (Ea (ls.filter (Fv a p)) k0).low (VR _ _);have hs:=lE (high:=(Ea (ls.filter (Fv a p)) k0).high) h1 h2 h3;cases(ls.filter (Fv a p)).all fun l=>sy (Ad l)with
 | false=>simp
 | true=>rw[if_pos rfl,Option.bind_some,hs,Bool.and_true]
def VE {n m:Nat} {ls:List Fact} (hn:n<=64) (hc:HD n ls) (h:Hj m ls) (a:Int) (p:List Int):DY (kn ls) a p=E0 m ls a p:=by
 have hcore:=Mf ls a p;have hc2:HD n (ls.filter (Fv a p)):=fun l hl=>hc l (Ik.1 hl).1
 simp only[Db,Prod.mk.injEq]at hcore;obtain⟨-,-,-,c4,c5,c6⟩:=hcore;rw[DY,Ek,cF h,c4,c5,c6,E0,<-Za hn hc2];simp only[Bool.and_assoc]
def jx {w:AF} {ls:List Fact} (ho:ordered w.parents) (how: ∀s:Int,0<=s->s<w.owner.length->3<=Bl w s/\Bl w s<3+w.parents.length) (hn:3+w.parents.length<=64) (hc:HD (3+w.parents.length) ls) (hp:Hj w.owner.length ls) (a:Int): ∀(d:Nat) (p:List Int),PX w (kn ls) a d p=MO w ls a d p
 | 0,p=>by
   rw[PX,MO,Y1 hn hc hp,VE hn hc hp,sB ho how hc hp fun s=>Kv ls a (p++[s])]
 | d+1,p=>by
   rw[PX,MO,Y1 hn hc hp,VE hn hc hp,sB ho how hc hp fun s=>Kv ls a (p++[s])];have e:(fun s=>PX w (kn ls) a d (p++[s]))=fun s=>MO w ls a d (p++[s]):=funext fun s=>jx ho how hn hc hp a d (p++[s])
   rw[e]
def th {w:AF} {ls:List Fact} (ho:ordered w.parents) (how: ∀s:Int,0<=s->s<w.owner.length->3<=Bl w s/\Bl w s<3+w.parents.length) (hn:3+w.parents.length<=64) (hc:HD (3+w.parents.length) ls) (hp:Hj w.owner.length ls):gU w (kn ls)=FW w ls:=by
 rw[gU,FW];congr 1;funext a;exact jx ho how hn hc hp a 2 []
end Go.Gl
namespace Go.Gl
open Go.Proofs
attribute [local irreducible] Au Am Ae AR AK AY AQ AS AJ AX AM AO Ao A0 Sat AU Ay Af W
section
variable {S:Type} (g:FuncId) (fi ca:List V) (H:S->List At) (f:Int->Bool) (J:S->Prop) (D:Int->Prop)
def Sv {v:V} {xs:List Int} (hst:O5 zP (.f (.func g) fi ca) eI (fun s=> .own v 1 (iL xs)::H s) f J D) (hD: ∀x∈xs,D x) (hxl:xs.length<=Aa) (s0:S) (hj0:J s0) :
    BQ zP 117 [v,.f (.func g) fi ca] (.own v 1 (iL xs)::H s0) fun r post=>r= .ret (eI (O3 f xs 0))/\ ∃s',J s'/\post= .own v 1 (iL xs)::H s':=by
 intro Z hs;have hM:=Mx;refine ju kZ ?_;refine zz ?_;(repeat clear U K);repeat intro K U
 refine B1 xs.length (fun k (_:S)=>[(8,eI (A4 k))]) (fun _ s=> .own v 1 (iL xs)::H s) (fun k s=>J s/\O3 f xs 0=O3 f (xs.drop k) k) s0 rfl ⟨hj0,rfl⟩ hs ?_;clear hs hj0;rintro k s Z hk ⟨hj,hn⟩ hs;have hck:A4 k=k:=Ag (by omega);rcases A8 xs hk with⟨y,hy,hlt⟩|hke
 .rw[drop_cons hy]at hn
  have hDy:=hD y (Bp hy);rw[O3]at hn
  conv=>whnf
  repeat'((first|clear U K|apply st|(apply zk;intro K U)|refine zY ?_|refine ze fun x hx=>?_|fail)<;>conv=>whnf)
  obtain rfl:x=y:=by rw[hck,Fi,hy]at hx;exact(Option.some.inj hx).symm
  refine hst.use hDy hj hs ?_;clear hs hj;intro s Z hj hs;cases hyes:f x
  .rw[hyes,if_neg (by decide)]at hn
   refine zz ?_;(repeat clear U K);repeat intro K U
   exact⟨hlt,_,rfl,⟨hj,hn⟩,hs⟩
  .rw[hyes,if_pos rfl]at hn
   refine zz ?_;(repeat clear U K);repeat intro K U
   rw[hn];exact AI ⟨_,⟨by rw[hck],s,hj,rfl⟩,hs⟩
 .rw[Ai hke,O3]at hn
  refine zz ?_;(repeat clear U K);repeat intro K U
  rw[hn];exact AI ⟨_,⟨rfl,s,hj,rfl⟩,hs⟩
def Pg {v:V} {xs:List Int} (hst:O5 zP (.f (.func g) fi ca) eI (fun s=> .own v 1 (iL xs)::H s) f J D) (hD: ∀x∈xs,D x) (hxl:xs.length<=Aa) (s0:S) (hj0:J s0) :
    BQ zP 49 [v,.f (.func g) fi ca] (.own v 1 (iL xs)::H s0) fun r post=>r= .ret (.b (xs.any f))/\ ∃s',J s'/\post= .own v 1 (iL xs)::H s':=by
 intro Z hs;refine sS kZ ?_
 conv=>whnf
 repeat'((first|clear U K|apply st|(apply zk;intro K U)|fail)<;>conv=>whnf)
 refine(Sv g fi ca H f J D hst hD hxl s0 hj0).use (rest:=[]) (by simpa using hs) ?_;rintro r post Z ⟨rfl,s',hj,rfl⟩ hs;refine zz ?_;(repeat clear U K);repeat intro K U
 exact AI ⟨_,⟨by rw[<-XY f xs 0],s',hj,rfl⟩,by simpa using hs⟩
def pX {v:V} {xs:List Int} (hst:O5 zP (.f (.func g) fi ca) eI (fun s=> .own v 1 (iL xs)::H s) f J D):O5 zP (.f (.func 301) [] [.rp [.f (.func g) fi ca]]) eI (fun s=> .own v 1 (iL xs)::H s) (fun y=> !f y) J D:=by
 intro y s hd hj Z hs;refine BO ?_;show Au zP 301 ([]++[eI y]++[.rp [.f (.func g) fi ca]]) Z _;refine jh kZ ?_;refine zz ?_;(repeat clear U K);repeat intro K U
 refine hst.use hd hj hs ?_;clear hs;intro s' Z hj' hs;refine zz ?_;(repeat clear U K);repeat intro K U
 exact AI ⟨rfl,s',hj',hs⟩
def cY {v:V} {xs:List Int} (hst:O5 zP (.f (.func g) fi ca) eI (fun s=> .own v 1 (iL xs)::H s) f J D) (hD: ∀x∈xs,D x) (hxl:xs.length<=Aa) (s0:S) (hj0:J s0) :
    BQ zP 246 [v,.f (.func g) fi ca] (.own v 1 (iL xs)::H s0) fun r post=>r= .ret (.b (xs.all f))/\ ∃s',J s'/\post= .own v 1 (iL xs)::H s':=by
 intro Z hs;refine jm kZ ?_
 conv=>whnf
 repeat'((first|clear U K|apply st|(apply zk;intro K U)|fail)<;>conv=>whnf)
 refine(Pg 301 [] [.rp [.f (.func g) fi ca]] H _ J D (pX g fi ca H f J D hst) hD hxl s0 hj0).use (rest:=[]) (by simpa using hs) ?_;rintro r post Z ⟨rfl,s',hj,rfl⟩ hs;refine zz ?_;(repeat clear U K);repeat intro K U
 refine AI ⟨_,⟨?_,s',hj,rfl⟩,by simpa using hs⟩;rw[List.all_eq_not_any_not]
end
abbrev Jj (l:Fact):List V:=xF (Ad l).1++[.b (Ad l).2]
abbrev D3 (ls:List Fact):List (List V):=ls.map Jj
def oo (xs ys:List Int) (f g:Bool):Pure zP 95 [.l (iL xs) f,.l (iL ys) g] (.b (xs==ys)):=by
 refine Pure.fit (by kernel_rfl) fun hf=>?_
 have hx:=MS hf.1;have hy:=MS hf.2.1;have hM:=Mx;refine ABC kZ ?_;have hs:=Sn
 conv=>whnf
 repeat'((first|clear U K|apply st|(apply zk;intro K U)|refine zY ?_|(refine zd (fun hc=>?_) (fun hc=>?_)<;>try exact⟨⟩)|fail)<;>conv=>whnf)
 .exact AH (by(have:(xs==ys)=false:=by(simp;intro e;subst e;simp at hc));rw[this])
 have hl:xs.length=ys.length:=by omega
 refine B1 xs.length (fun k (_:Unit)=>[(13,eI (A4 k))]) (fun _ _=>[]) (fun k _=>(xs==ys)=(xs.drop k==ys.drop k)) () rfl rfl Sat.nil ?_;clear hs;rintro k - Z hk hn hs;rcases A8 xs hk with⟨x,hxk,hlt⟩|hke
 .obtain⟨y,hyk⟩: ∃y,ys[k]? =some y:=⟨_,Cs (by omega)⟩
  rw[drop_cons hxk,drop_cons hyk]at hn
  conv=>whnf
  repeat'((first|clear U K|apply st|(apply zk;intro K U)|refine zY ?_|refine za (fun hc=>?_) fun hc=>?_|fail)<;>conv=>whnf)
  .exact AH (by rw[hn];simp[*])
  .exact⟨hlt,(),rfl,by rw[hn];simp[*],hs⟩
 .refine zz ?_;(repeat clear U K);repeat intro K U
  exact AH (by rw[hn,Ai hke,Ai (by omega)];rfl)
def pv (a b:Bool) (u:V):Pure zP 293 [.l [] a,.l [] b,u] (.b true):=by
 refine w9 kZ ?_;have hs:=Sn;have hM:=Mx
 conv=>whnf
 repeat'((first|clear U K|apply st|(apply zk;intro K U)|refine zY ?_|(refine zb (fun hc=>?_) (fun hc=>?_)<;>try exact⟨⟩)|fail)<;>conv=>whnf)
 refine B1 0 (fun k (_:Unit)=>[(17,eI (A4 k))]) (fun _ _=>[]) (fun _ _=>True) () rfl trivial Sat.nil ?_;clear hs;rintro k - Z hk - hs;obtain rfl:k=0:=by omega
 conv=>whnf
 repeat'((first|clear U K|apply st|(apply zk;intro K U)|refine zY ?_|(refine zd (fun hc=>?_) (fun hc=>?_)<;>try exact⟨⟩)|fail)<;>conv=>whnf)
 .exfalso
  simp at hc
 .exact AH rfl
def oq (f g:Fact) (hf:f.kids= []) (hg:g.kids= []):Pure zP 227 [.a (xF f),.a (xF g)] (.b (F5 f g)):=by
 have e:F5 f g=(f.op==g.op&&(f.arg==g.arg&&(f.cls==g.cls&&(f.n==g.n&&f.path==g.path)))):=by
  rw[M0,hf,hg];simp[Sm]
 obtain⟨o,a,p,c,n,k⟩:=f;obtain⟨o',a',p',c',n',k'⟩:=g;simp only[Fact.kids]at hf hg;subst hf;subst hg;refine xw kZ ?_;have hs:=Sn;rw[e]
 conv=>whnf
 repeat'((first|clear U K|apply st|(apply zk;intro K U)|refine zY ?_|refine Pure.use (oo _ _ _ _) ?_|refine Pure.use (pv _ _ _) ?_|refine za (fun hc=>?_) fun hc=>?_|fail)<;>conv=>whnf)
 all_goals simp only[Fact.op,Fact.arg,Fact.cls,Fact.n,Fact.path]at *
 all_goals exact AH (by simp[*])
def Um:Ec Jj 7:=fun l=>by
 refine⟨rfl,fun v hv=>?_⟩;rcases Dy.1 hv with hv|hv
 .exact(Is (Ad l).1).2 v (by show v∈Fh (Ad l).1;rw[Bh];exact hv)
 .simp at hv;subst hv;rfl
def Sz (x y:Fact):Bool:=(Ad x).2==(Ad y).2&&F5 (Ad x).1 (Ad y).1
abbrev aO (l:Fact):Prop:=(Ad l).1.kids= []
abbrev tE (f:Fact->Bool):Fact->Unit->Bool×Unit:=fun y _=>(f y,())
def ot (x:Fact) (hx1:aO x) (n:Nat):DG zP (.f (.func 266) [] [.p n 0]) (fun y=> .a (Jj y)) (fun _:Unit=>[.box n (Jj x)]) (tE (Sz x)) (fun y _=>aO y):=by
 intro y s hy1 Z hs;refine BO ?_;show Au zP 266 ([]++[.a (Jj y)]++[.p n 0]) Z _;refine xW kZ ?_;unfold Sz
 conv=>whnf
 repeat'((first|clear U K|apply st|(apply zk;intro K U)|refine zY ?_|refine Pure.use (oq _ _ hx1 hy1) ?_|refine za (fun hc=>?_) fun hc=>?_|fail)<;>conv=>whnf)
 all_goals exact AI ⟨by simp[tE, *],hs⟩
section
variable {S:Type} (g:FuncId) (fi ca:List V) (H:S->List At)
def Su (stp:Fact->S->Bool×S) (D:Fact->S->Prop) {v:V} {xs:List Fact} (hst:DG zP (.f (.func g) fi ca) (fun y=> .a (Jj y)) (fun s=> .own v 7 (D3 xs)::H s) stp D) (hxl:xs.length<=Aa) (s0:S) (hd:Yb stp D xs s0) :
    BQ zP 313 [v,.f (.func g) fi ca] (.own v 7 (D3 xs)::H s0) fun r post=>r= .ret (eI (Bv stp xs 0 s0).1)/\post= .own v 7 (D3 xs)::H (Bv stp xs 0 s0).2:=by
 intro Z hs;have hM:=Mx;refine we kZ ?_;refine zz ?_;(repeat clear U K);repeat intro K U
 refine B1 xs.length (fun k (_:S)=>[(8,eI (A4 k))]) (fun _ s=> .own v 7 (D3 xs)::H s) (fun k s=>Yb stp D (xs.drop k) s/\Bv stp xs 0 s0=Bv stp (xs.drop k) k s) s0 rfl ⟨hd,rfl⟩ hs ?_;clear hs;rintro k s Z hk ⟨hd,hn⟩ hs;have hck:A4 k=k:=Ag (by omega);rcases A8 xs hk with⟨y,hy,hlt⟩|hke
 .rw[drop_cons hy]at hn hd
  obtain⟨hd1,hd2⟩:=hd;rw[Bv]at hn
  conv=>whnf
  repeat'((first|clear U K|apply st|(apply zk;intro K U)|refine zY ?_|refine ze fun x hx=>?_|fail)<;>conv=>whnf)
  obtain rfl:x=y:=by rw[hck,Fi,hy]at hx;exact(Option.some.inj hx).symm
  refine hst.use hd1 hs ?_;clear hs;intro Z hs;cases hyes:(stp x s).1
  .rw[hyes,if_neg (by decide)]at hn
   refine zz ?_;(repeat clear U K);repeat intro K U
   exact⟨hlt,_,rfl,⟨hd2,hn⟩,hs⟩
  .rw[hyes,if_pos rfl]at hn
   refine zz ?_;(repeat clear U K);repeat intro K U
   rw[hn];exact AI ⟨_,⟨by rw[hck],rfl⟩,hs⟩
 .rw[Ai hke,Bv]at hn
  refine zz ?_;(repeat clear U K);repeat intro K U
  rw[hn];exact AI ⟨_,⟨rfl,rfl⟩,hs⟩
def Ot (stp:Fact->S->Bool×S) (D:Fact->S->Prop) {v:V} {xs:List Fact} (hst:DG zP (.f (.func g) fi ca) (fun y=> .a (Jj y)) (fun s=> .own v 7 (D3 xs)::H s) stp D) (hxl:xs.length<=Aa) (s0:S) (hd:Yb stp D xs s0) :
    BQ zP 265 [v,.f (.func g) fi ca] (.own v 7 (D3 xs)::H s0) fun r post=>r= .ret (.b (decide ((Bv stp xs 0 s0).1≥0)))/\post= .own v 7 (D3 xs)::H (Bv stp xs 0 s0).2:=by
 intro Z hs;refine xX kZ ?_
 conv=>whnf
 repeat'((first|clear U K|apply st|(apply zk;intro K U)|fail)<;>conv=>whnf)
 refine(Su g fi ca H stp D hst hxl s0 hd).use (rest:=[]) (by simpa using hs) ?_;rintro r post Z ⟨rfl,rfl⟩ hs;refine zz ?_;(repeat clear U K);repeat intro K U
 exact AI ⟨_,⟨rfl,rfl⟩,by simpa using hs⟩
end
def mh (a:List Fact) (f:Bool) (hl:a.length<=1000000):BQ zP 264 [.l (D3 a) f] [] fun r post=> ∃v,r= .ret v/\post= [.own v 7 (D3 a)]:=by
 intro Z hs;have hM:=Mx;refine xY kZ ?_
 conv=>whnf
 repeat'((first|clear U K|apply st|(apply zk;intro K U)|fail)<;>conv=>whnf)
 refine⟨fun e t=>?_,fun _=>?_⟩
 .have hxe:a= []:=List.map_eq_nil_iff.1 e
  subst hxe
  conv=>whnf
  repeat'((first|clear U K|apply st|(apply zk;intro K U)|refine za (fun hc=>?_) fun hc=>?_|fail)<;>conv=>whnf)
  .exact AI ⟨_,⟨_,rfl,rfl⟩,Cq hs 7⟩
  .replace hs:=Cq hs 7
   refine Fe hs 0 (xs:=[]) (ys:=[]) rfl (by simp) Um fun v Z hs=>?_
   refine zz ?_;(repeat clear U K);repeat intro K U
   exact AI ⟨_,⟨_,rfl,rfl⟩,hs⟩
 .refine zz ?_;(repeat clear U K);repeat intro K U
  replace hs:=Cq hs 7;refine Fe hs 0 (xs:=[]) (ys:=a) rfl (by simp;omega) Um fun v Z hs=>?_
  refine zz ?_;(repeat clear U K);repeat intro K U
  exact AI ⟨_,⟨_,rfl,rfl⟩,hs⟩
def W4 {w:AF} {x:Fact} (h:DV w x):x=if(Ad x).2 then EZ (Ad x).1 else(Ad x).1:=by
 obtain⟨g,hn,hl,rfl|rfl⟩:=h
 .have:=Fy hl
  have h5: ¬x.op=5:=by omega
  simp only[Ad,if_neg h5];rfl
 .rfl
def aw {w:AF} {x y:Fact} (hx1:DV w x) (hy1:DV w y):Sz x y=F5 x y:=by
 rw[JK,OQ];simp only[Sz,A9,C0,OQ];constructor
 .rintro⟨h1,h2⟩
  rw[W4 hx1,W4 hy1,h1,h2]
 .rintro rfl
  exact⟨rfl,rfl⟩
def Tc {w:AF} {x:Fact} (h:DV w x):aO x:=by
 obtain⟨-,hn,hl⟩:=IN h;have hlo:=Fy hl;have har:=Bn _ hn;rw[NL,A9,C0]at har
 have h0:Ch (Ad x).1.op=0:=by
  have h5: ¬(Ad x).1.op=5:=by omega
  have h6: ¬((Ad x).1.op=6\/(Ad x).1.op=7):=by omega
  simp[Ch,h5,h6]
  try omega
 rw[h0]at har;exact YW.1 har.1
def ei {w:AF} (a b:List Fact) (f g:Bool) (hla: ∀x∈a,DV w x) (hlb: ∀x∈b,DV w x) (hl:a.length+b.length<1000000):Pure zP 190 [.l (D3 a) f,.l (D3 b) g] (.l (D3 (Ca a b)) false):=by
 have hM:=Mx;refine Pure.of ?_;refine yP kZ ?_;have hs:=Sn
 conv=>whnf
 repeat'((first|clear U K|apply st|(apply zk;intro K U)|fail)<;>conv=>whnf)
 refine(mh a f (by omega)).use (rest:=[]) (by simpa using hs) ?_;clear hs;rintro r post Z ⟨v,rfl,rfl⟩ hs;refine zz ?_;(repeat clear U K);repeat intro K U
 refine B1 b.length (fun k v=>[(5,v),(12,eI (A4 k))]) (fun k v=>[.own v 7 (D3 (Ca a (b.take k)))]) (fun _ _=>True) v rfl trivial hs ?_;clear hs;rintro k v Z hk - hs;have hml:=Oa a (b.take k);rw[Jl]at hml;rcases A8 b hk with⟨x,hxk,hlt⟩|hke
 .have hsn:=R0 a (b.take k) x
  rw[<-AN hxk]at hsn;have hxg:=hlb x (Bp hxk)
  have hmem: ∀y∈Ca a (b.take k),DV w y:=fun y hy=>by
   rcases Th _ _ _ hy with h|h
   .exact hla y h
   .exact hlb y (List.mem_of_mem_take h)
  generalize Ca a (b.take k)=m at *
  have hany:m.any (Sz x)=m.any (F5 x):=by
   rw[JK,Ij,Ij];exact⟨fun⟨y,hy,h⟩=>⟨y,hy,by rw[<-aw hxg (hmem y hy)];exact h⟩,fun⟨y,hy,h⟩=>⟨y,hy,by rw[aw hxg (hmem y hy)];exact h⟩⟩
  conv=>whnf
  repeat'((first|clear U K|apply st|(apply zk;intro K U)|refine zY ?_|refine zs fun Z hs=>?_|refine zo fun nn hnn Z hs=>?_|fail)<;>conv=>whnf)
  generalize nn=n7 at *;have hs2:Sat Z [.own v 7 (D3 m),.box n7 (Jj x)]:=hs.perm (.swap _ _ _);clear hs hnn;refine(Ot 266 [] [.p n7 0] (fun _:Unit=>[.box n7 (Jj x)]) (tE (Sz x)) (fun y _=>aO y) ((ot x (Tc hxg) n7).more [_]) (by omega) () (Hl fun y hy _=>Tc (hmem y hy))).use (rest:=[]) hs2 ?_;clear hs2;rintro r post Z ⟨rfl,rfl⟩ hs;rw[NI,hany];cases hy:m.any (F5 x)
  .rw[hy,if_neg Bool.false_ne_true]at hsn
   refine zz ?_;(repeat clear U K);repeat intro K U
   refine G0 (GR (x:=x) (xs:=m) (enc:=Jj) hs 0 rfl (by omega) Um fun v Z hs hsl=>?_);refine zz ?_;(repeat clear U K);repeat intro K U
   exact⟨hlt,v,rfl,trivial,by rw[hsn];exact hs.less (.cons₂ _ (Jf _))⟩
  .rw[hy,if_pos rfl]at hsn
   refine zz ?_;(repeat clear U K);repeat intro K U
   exact⟨hlt,v,rfl,trivial,by rw[hsn];exact hs.less (.cons₂ _ (Jf _))⟩
 .refine zz ?_;(repeat clear U K);repeat intro K U
  exact gD (Eg hs 0 rfl (vf:= .l (D3 (Ca a b)) false) (by rw[Aq hke])) fun r Z h=>h.1
end Go.Gl
namespace Go.Gl
open Go.Proofs
abbrev kR:AV:=(.seq [0,3] (.DB [⟨(some 3),.Pa (.t 1),none⟩,
 ⟨(some 4),.mv (.c .pn),none⟩])
 (.seq [0,3,5,6] (.He [0,3,5,6] [⟨0,⟨(some 8),.mv (.t 0),none⟩,[],[]⟩,
  ⟨1,⟨(some 9),.JU (.t 8),none⟩,[],[]⟩,
  ⟨2,⟨(some 10),.GS 1 (.t 9),none⟩,[],[]⟩,
  ⟨3,⟨(some 11),.load none (.t 10),none⟩,[],[]⟩,
  ⟨4,⟨(some 12),.load (some 4) (.t 3),none⟩,[],[]⟩,
  ⟨5,⟨(some 13),.lookup (.a [.i64,.i64,.i64,.i64]) .pn true (.t 11) (.t 12),none⟩,[],[]⟩,
  ⟨6,⟨(some 7),.mv (.t 13),none⟩,[],[]⟩,
  ⟨7,⟨(some 14),.extract 0 (.t 7),none⟩,[],[]⟩,
  ⟨8,⟨(some 15),.extract 1 (.t 7),none⟩,[],[]⟩,
  ⟨9,⟨(some 5),.mv (.t 14),none⟩,[],[]⟩,
  ⟨10,⟨(some 6),.mv (.t 15),none⟩,[],[]⟩])
 (.seq [5] (.seq [0,3,5,17] (.DB [⟨(some 16),.mv (.t 6),none⟩,
  ⟨(some 17),.not (.t 16),none⟩])
 (.cond (.t 17)
 (.seq [0,3,5] (.DB [⟨(some 18),.build [(.i .i64 0),(.i .i64 0),(.l [] true)] [(0,1,(.c (.i .i64 (-1000000000)))),(1,1,(.c (.i .i64 1000000000)))],none⟩,
  ⟨(some 19),.build [(.i .i64 0),(.i .i64 0),(.l [] true),(.i .u64 0),(.i .u64 0),(.b false),(.b false),(.l [] true)] [(0,3,(.t 18))],none⟩,
  ⟨(some 20),.box (.t 19),none⟩,
  ⟨(some 5),.mv (.t 20),none⟩])
 (.He [5] [⟨0,⟨(some 21),.mv (.t 0),none⟩,[],[]⟩,
  ⟨1,⟨(some 22),.JU (.t 21),none⟩,[],[]⟩,
  ⟨2,⟨(some 23),.GS 1 (.t 22),none⟩,[],[]⟩,
  ⟨3,⟨(some 24),.load none (.t 23),none⟩,[],[]⟩,
  ⟨4,⟨(some 25),.load (some 4) (.t 3),none⟩,[],[]⟩,
  ⟨5,⟨(some 26),.mv (.t 5),none⟩,[],[]⟩,
  ⟨6,⟨none,.Em (.a [.i64,.i64,.i64,.i64]) (.t 24) (.t 25) (.t 26),none⟩,[],[]⟩]))
 .skip))
 (.seq [4] (.DB [⟨(some 27),.mv (.t 5),none⟩,
  ⟨(some 4),.mv (.t 27),none⟩])
 .ret))))
def o5:Tryz.f198.body.bind (res Tryz.prog Tryz.f198.ntmps [] [3])=some (erase kR):=by kernel_rfl
def qu {args:List V} (hn:args.length<=28) {Z:AE} {Q:R->AE->Prop} (h:W Tryz.prog kR (gz [4] Q) (BA 0 args) Z):Au Tryz.prog 198 args Z Q:=
 L5 Tryz.func198 (by kernel_rfl) o5 rfl hn (np h)
end Go.Gl
namespace Go.Gl
open Go.Proofs
attribute [local irreducible] Au Am Ae AR AK AY AQ AS AJ AX AM AO Ao A0 Sat AU Ay Af W
abbrev Vv (w:AF) (us:List Nat) (L:Nat):V:= .rp [.rp (wC w us),.m L]
def LD (es es':List B8):Prop:= ∃new:List B8,es'=es++new/\ ∀x∈new,x.k=k0
def LD.refl (es:List B8):LD es es:=⟨[],by simp,by simp⟩
def LD.trans {a b c:List B8} (h1:LD a b) (h2:LD b c):LD a c:=by
 obtain⟨x,rfl,hx⟩:=h1;obtain⟨y,rfl,hy⟩:=h2;refine⟨x++y,by simp,fun z hz=>?_⟩;rcases Dy.1 hz with h|h
 .exact hx z h
 .exact hy z h
def LD.mem {a b:List B8} (h:LD a b) {e:B8} (he:e∈a):e∈b:=by
 obtain⟨x,rfl,_⟩:=h;exact Pk _ he
structure oO (kf:Int->List Int->Kn) (es es':List B8) (a:Int) (p:List Int) (e:B8):Prop where
 inv:B2 kf es'
 ext:LD es es'
 mem:e∈es'
 is:e.is a p=true
def oO.k {kf:Int->List Int->Kn} {es es':List B8} {a:Int} {p:List Int} {e:B8} (h:oO kf es es' a p e):e.k=kf a p:=by
 have:=h.inv.val e h.mem;obtain⟨h1,h2⟩:=Gt.1 h.is;rw[this,h1,h2]
def N6 {Z:AE} {l:List At} (h:Sat Z l) (i:Nat) {n:Nat} {kvs:List (V×V)} {ks:KS} {z vk:V} {ok:Bool} {o:Option V} (hi:l[i]? =some (.map n kvs)) (hk:BW ks vk=true) (hks: ∀kv∈kvs,BW ks kv.1=true) (hf:Cn vk kvs=o) {K:V->Prop} (h':K (found z ok o)) :
    AM Z ks z ok (.m n) vk K:=Kb h i hi hk hks (hf ▸ h')
def MX (w:AF) (us:List Nat) {kf:Int->List Int->Kn} {L:Nat} {es:List B8} (h:B2 kf es) {a:Int} {p:List Int} (hp:p.length<=2) :
    BQ zP 198 [Vv w us L,CL a p] (CN L es) fun r post=> ∃es' e,oO kf es es' a p e/\r= .ret (.p e.b 0)/\post=CN L es':=by
 intro Z hs;refine qu kZ ?_;unfold CN at hs;rcases iH a p es with hn|⟨pre,e,post,rfl,he,hpre⟩
 .have hf:=Q6 hp h.len hn
  conv=>whnf
  repeat'((first|clear U K|apply st|(apply zk;intro K U)|refine zY ?_|refine N6 hs 0 rfl rfl (IQ _) hf ?_|refine Iz hs 1 rfl rfl (IQ _) fun Z hs=>?_|refine zo fun nn hnn Z hs=>?_|fail)<;>conv=>whnf)
  simp only[List.set_cons_succ,List.set_cons_zero]at hs;change Sat Z (_:: .map L (DZ (CL a p) (.p nn 0) (UK es))::_)at hs;rw[Yx hp nn (.l [] true) (.l [] true) k0 h.len hn]at hs;have hs2:=Cq (Cq hs 1) 1;refine AI ⟨_,⟨es++[⟨a,p,nn,.l [] true,.l [] true,k0⟩],⟨a,p,nn,.l [] true,.l [] true,k0⟩,⟨h.add hp hn _ _ _,⟨_,rfl,by simp⟩,by simp,by simp[B8.is]⟩,rfl,rfl⟩,?_⟩;unfold CN;rw[List.flatMap_append,List.flatMap_cons,List.flatMap_nil,Ez];refine hs2.perm ((List.perm_middle (l₁:=[_,_,_])).trans (.cons _ (Nk.trans (List.Perm.append_left _ (List.reverse_perm _).symm))))
 .have hf:=Q5 hp he h.len hpre
  conv=>whnf
  repeat'((first|clear U K|apply st|(apply zk;intro K U)|refine zY ?_|refine N6 hs 0 rfl rfl (IQ _) hf ?_|fail)<;>conv=>whnf)
  exact AI ⟨_,⟨_,e,⟨h,.refl _,by simp,he⟩,rfl,rfl⟩,hs⟩
def Py (a:Int) (p:List Int) (s:Int) (hp:p.length<2):Pure zP 199 [CL a p,eI s] (CL a (p++[s])):=by
 refine yJ kZ ?_;have hs:=Sn
 match p,hp with
 | [],_=>
   exact zW
 | [x],_=>
   exact zW
def zK {b:Nat} {vn vs:V} {k:Kn} (f:Fact) (c:Bool) (hl:f.op=2\/f.op=3\/f.op=4) (hc:f.op=2->0<=f.cls/\f.cls<64) (hm:k.BM<18446744073709551616) (hn:k.Dz<18446744073709551616) (hno:k.no.length<1000000) (hN: -1000000000<=f.n/\f.n<=1000000000) :
    BQ zP 269 [.p b 0,.a (xF f++[.b c])] (tZ b vn vs k) fun r post=>r= .ret (.t [])/\ ∃vn',post=tZ b vn' vs (B4 k f c):=by
 intro Z hs;have hM:=Mx;refine xU kZ ?_;rw[show xF f++[V.b c]= [eI f.op,eI f.arg,.l (iL f.path) false,eI f.cls,eI f.n,.l (f.kids.map Fh) false,.b c] from rfl];have hw:IntKind.i64.wrap (f.n - 1)=f.n - 1:=wrap64 (by omega) (by omega);cases c<;>rcases hl with h2|h3|h4
 .have hE:B4 k f false= {k with BM:=k.BM|||2 ^ f.cls.toNat}:=by rw[B4,if_pos h2,if_neg Bool.false_ne_true]
  rw[hE]
  conv=>whnf
  repeat'((first|clear U K|apply st|(apply zk;intro K U)|refine zY ?_|refine zs fun Z hs=>?_|refine Pure.use (IG _ _ hm (by omega) (by omega)) ?_|(refine zb (fun hc=>?_) (fun hc=>?_)<;>try exact⟨⟩)|fail)<;>conv=>whnf)
  exact AI ⟨_,⟨rfl,vn,rfl⟩,hs⟩
 .have hE:B4 k f false= {k with high:=if f.n - 1<k.high then f.n - 1 else k.high,whole:=true}:=by rw[B4,if_neg (by omega),if_pos h3,if_neg Bool.false_ne_true]
  rw[hE]
  conv=>whnf
  repeat'((first|clear U K|apply st|(apply zk;intro K U)|refine zY ?_|refine zs fun Z hs=>?_|(refine zb (fun hc=>?_) (fun hc=>?_)<;>try exact⟨⟩)|fail)<;>conv=>whnf)
  rw[hw]at hs;exact AI ⟨_,⟨rfl,vn,rfl⟩,hs⟩
 .have hE:B4 k f false= {k with low:=if f.n > k.low then f.n else k.low,high:=if f.n<k.high then f.n else k.high,whole:=true}:=by rw[B4,if_neg (by omega),if_neg (by omega),if_neg Bool.false_ne_true]
  rw[hE]
  conv=>whnf
  repeat'((first|clear U K|apply st|(apply zk;intro K U)|refine zY ?_|refine rk ?_ ?_|exact fun s e=>by cases e;rfl|refine zs fun Z hs=>?_|(refine zb (fun hc=>?_) (fun hc=>?_)<;>try exact⟨⟩)|fail)<;>conv=>whnf)
  exact AI ⟨_,⟨rfl,vn,rfl⟩,hs⟩
 .have hE:B4 k f true= {k with Dz:=k.Dz|||2 ^ f.cls.toNat}:=by rw[B4,if_pos h2,if_pos rfl]
  rw[hE]
  conv=>whnf
  repeat'((first|clear U K|apply st|(apply zk;intro K U)|refine zY ?_|refine zs fun Z hs=>?_|refine Pure.use (IG _ _ hn (by omega) (by omega)) ?_|(refine zb (fun hc=>?_) (fun hc=>?_)<;>try exact⟨⟩)|fail)<;>conv=>whnf)
  exact AI ⟨_,⟨rfl,vn,rfl⟩,hs⟩
 .have hE:B4 k f true= {k with low:=if f.n > k.low then f.n else k.low}:=by rw[B4,if_neg (by omega),if_pos h3,if_pos rfl]
  rw[hE]
  conv=>whnf
  repeat'((first|clear U K|apply st|(apply zk;intro K U)|refine zY ?_|refine zs fun Z hs=>?_|(refine zb (fun hc=>?_) (fun hc=>?_)<;>try exact⟨⟩)|fail)<;>conv=>whnf)
  exact AI ⟨_,⟨rfl,vn,rfl⟩,hs⟩
 .have hE:B4 k f true= {k with no:=k.no++[f.n]}:=by rw[B4,if_neg (by omega),if_neg (by omega),if_pos rfl]
  rw[hE]
  conv=>whnf
  repeat'((first|clear U K|apply st|(apply zk;intro K U)|refine zY ?_|refine zs fun Z hs=>?_|refine aq fun v Z hs hsl=>?_|(refine zb (fun hc=>?_) (fun hc=>?_)<;>try exact⟨⟩)|fail)<;>conv=>whnf)
  exact AI ⟨_,⟨rfl,_,rfl⟩,hs⟩
end Go.Gl
