import Derived.Test.YtcfkfhaedllcpaaGreatU14
import Derived.Test.YtcfkfhaedllcpaaGreatU17
import Derived.Test.YtcfkfhaedllcpaaGreatU18
import Derived.Test.YtcfkfhaedllcpaaGreatU19
import Derived.Test.YtcfkfhaedllcpaaGreatU20
import Derived.Test.YtcfkfhaedllcpaaGreatU21
set_option linter.all false
set_option linter.defProp false
set_option maxHeartbeats 8000000
noncomputable section
namespace Go.Gl
open Go.Proofs
attribute [local irreducible] BD A3 Au AS AL Ao AU AV AM An AP AT BF BM Sat Af BK Aw W
def Wl {Z:AE}:BD zP 198 [.b false] Z fun r Z'=>r= .BL Cu/\Z'=Z:=by
 refine Vy kZ ?_;refine zz ?_;(repeat clear U K);repeat intro K U
 exact Cy ⟨rfl,rfl⟩
def B6 {x:Bool} {Z:AE} {k kp:V->AE->Prop} (h1:x=true->k (.t []) Z) (h2:x=false->kp Cu Z):BD zP 198 [.b x] Z (qk k kp):=by
 cases x
 .refine BD.mono Wl ?_
  rintro r Z' ⟨rfl,rfl⟩;exact h2 rfl
 .exact Wk.use (h1 rfl)
def EH:Int->List MD->Bool
 | _,[]=>true
 | n,c::r=>decide (c.AH.length<=4)&&(IK n c.AH&&EH (n+c.AH.length) r)
def LU: ∀(cs:List MD) (n:Int),B3 n cs=(EH n cs&&cs.all fun c=>decide (c.parents.length<=3))
 | [],_=>rfl
 | c::r,n=>by
   simp only[B3,EH,NV];rw[LU r];cases decide (c.AH.length<=4)<;>cases decide (c.parents.length<=3)<;>cases IK n c.AH<;>simp
def Mt: ∀(cs:List MD) (n:Int),EH n cs=true->BX cs<=4*cs.length
 | [],_,_=>JE _
 | c::r,n,h=>by
   simp only[EH,Ba,DG]at h;have:=Mt r _ h.2.2;simp only[BX,Fw,List.sum_cons,Om]at *;omega
def Pq {p:Prog} (h:Cn (Aj p)=true):(p.AG.all fun c=>decide (c.parents.length<=3))=true:=by
 rw[JD];intro c hc;obtain⟨i,hi⟩:=List.getElem?_of_mem hc;have:=(Cx h).2 i c.parents (by rw[Aj,NX,hi];rfl);exact decide_eq_true this.1
def L6 (p:Prog):Ar p=(decide (p.AG.length<=10)&&(EH 0 p.AG&&((BX p.AG:Int)==p.AH&&(Cn (Aj p)&&Eh (Ab p) (BX p.AG) 0 p.AG)))):=by
 rw[Ar,LU];cases hg:Cn (Aj p)
 .simp
 .rw[Pq hg,Bool.and_true]
abbrev gR (p:Prog):R->AE->Prop:=fun r Z'=> ∃post:List At,(r=(if Ar p then R.ret (.t [])else R.BL Cu)/\post= [])/\Sat Z' post
def Qr {p:Prog} {Z:AE} (h:Ar p=false):Au Z Cu (gR p):=Cy ⟨_,⟨by rw[h];rfl,rfl⟩,Sat.nil⟩
def om {p:Prog} {Z:AE} {l:List At} (hs:Sat Z l) (h:Ar p=true):A3 Z (.t []) (gR p):=A4 hs (NW _) (.refl _) fun Z' hs'=>⟨_,⟨by rw[h];rfl,rfl⟩,hs'⟩
def R7 (p : Prog):Cl zP 197 [.a (A7 p)] [] fun r post=>r=(if Ar p then R.ret (.t [])else R.BL Cu)/\post= []:=by
 intro Z hs;refine BD.fit (by kernel_rfl) fun hf=>?_
 have hP:=K7 hf.1;have hcl:=hP.1;have hM:=Mx;refine eY kZ ?_;have hcb:=L6 p;by_cases h10:p.AG.length<=10
 rotate_left
 .conv=>whnf
  repeat'((first|clear U K|apply st|(apply zk;intro K U)|refine zY ?_|(refine B6 (fun hc=>?_) (fun hc=>?_)<;>(replace hc:=bp hc)<;>(try simp(disch:=omega) only[BW,wrap64,AJ]at hc)<;>(try(exfalso;omega)))|fail)<;>conv=>whnf)
  all_goals try(exfalso;omega)
  exact Qr (by rw[hcb];simp[h10])
 rw[decide_eq_true h10,Fv]at hcb
 conv=>whnf
 repeat'((first|clear U K|apply st|(apply zk;intro K U)|refine zY ?_|(refine B6 (fun hc=>?_) (fun hc=>?_)<;>(replace hc:=bp hc)<;>(try simp(disch:=omega) only[BW,wrap64,AJ]at hc)<;>(try(exfalso;omega)))|fail)<;>conv=>whnf)
 all_goals try(exfalso;omega)
 refine Cc p.AG.length (fun k (n:Int)=>[(2,eI n),(24,eI (BU k))]) (fun _ _=>[]) (fun k n=>EH 0 p.AG=EH n (p.AG.drop k)/\0<=n/\n+BX (p.AG.drop k)=BX p.AG/\n<=4*k) 0 rfl (by simp) hs ?_;clear hs;rintro k n Z hk ⟨hn,hn0,hn1,hn2⟩ hs;rcases Bd p.AG hk with⟨c,hc,hlt⟩|hke
 .have hcm:=(hP.2 c (Dx hc)).2.1
  have hms:n+(c.AH.length:Int)+BX (p.AG.drop (k+1))=BX p.AG:=by
   rw[drop_cons hc]at hn1;simp only[BX,Fw,List.sum_cons]at hn1 ⊢;omega
  rw[drop_cons hc,EH]at hn;by_cases h4:c.AH.length<=4
  .rw [decide_eq_true h4,Fv]at hn
   conv=>whnf
   repeat'((first|clear U K|apply st|(apply zk;intro K U)|refine zY ?_|refine zs fun Z hs=>?_|(refine B6 (fun hc=>?_) (fun hc=>?_)<;>(replace hc:=bp hc)<;>(try simp(disch:=omega) only[BW,wrap64,AJ]at hc)<;>(try(exfalso;omega)))|refine zo fun nn hnn Z hs=>?_|fail)<;>conv=>whnf)
   all_goals try(exfalso;omega)
   refine Cc c.AH.length (fun j (m:Int)=>[(2,eI m),(36,eI (BU j))]) (fun _ _=>[]) (fun j m=>EH 0 p.AG=(IK m (c.AH.drop j)&&EH (n+c.AH.length) (p.AG.drop (k+1)))/\m=n+j) n rfl ⟨hn,by simp⟩ (hs.take 0) ?_;clear hs hn;rintro j m Z hj ⟨hm,he⟩ hs;rcases Bd c.AH hj with⟨x,hx,hjlt⟩|hje
   .rw[drop_cons hx,IK]at hm
    conv=>whnf
    repeat'((first|clear U K|apply st|(apply zk;intro K U)|refine zY ?_|(refine B6 (fun hc=>?_) (fun hc=>?_)<;>(replace hc:=bp hc))|fail)<;>conv=>whnf)
    .rw[wrap64 (by omega) (by omega)]
     rw[hc,beq_self_eq_true,Fv]at hm;exact⟨hjlt,_,rfl,⟨by rw[<-hc];rw[<-hc]at hm;exact hm,by omega⟩,hs⟩
    .exact Qr (by rw[hcb,hm];simp[hc])
   .rw[Ax hje,IK,Fv]at hm
    refine zz ?_;(repeat clear U K);repeat intro K U
    exact⟨hlt,m,rfl,⟨by rw[hm];congr 1;omega,by omega,by omega,by omega⟩,hs⟩
  .conv=>whnf
   repeat'((first|clear U K|apply st|(apply zk;intro K U)|refine zY ?_|refine zs fun Z hs=>?_|(refine B6 (fun hc=>?_) (fun hc=>?_)<;>(replace hc:=bp hc)<;>(try simp(disch:=omega) only[BW,wrap64,AJ]at hc)<;>(try(exfalso;omega)))|refine zo fun nn hnn Z hs=>?_|fail)<;>conv=>whnf)
   all_goals try(exfalso;omega)
   exact Qr (by rw[hcb,hn];simp[h4])
 .have hne:n=BX p.AG:=by rw[Ax hke]at hn1;simpa[BX]using hn1
  rw[Ax hke]at hn;have hsp:EH 0 p.AG=true:=hn;have hml:=Mt _ _ hsp;rw[hsp,Fv,<-hne]at hcb;cases hgd:Cn (Aj p)
  .rw[hgd]at hcb
   have hck:=P2 (Aj p) false;rw[hgd,if_neg (by decide)]at hck;have hcF:Ar p=false:=by rw[hcb];simp
   conv=>whnf
   repeat'((first|clear U K|apply st|(apply zk;intro K U)|refine zY ?_|(refine B6 (fun hc=>?_) (fun hc=>?_)<;>(replace hc:=bp hc)<;>(try simp(disch:=omega) only[BW,wrap64,AJ]at hc)<;>(try(exfalso;omega))<;>(try(cases hc;done)))|refine Pure.use (Iv _ (by omega)) ?_|refine Pure.use (by assumption) ?_|refine za (fun hc=>?_) fun hc=>?_|fail)<;>conv=>whnf)
   all_goals exact Qr hcF
  .have hck:=P2 (Aj p) false
   rw[hgd,if_pos rfl]at hck;rw[hgd,Fv]at hcb;by_cases hps:n=p.AH
   .rw [hps,beq_self_eq_true,Fv,<-hps]at hcb
    have hslB:B3 0 p.AG=true:=by rw[LU,hsp,Pq hgd];rfl
    have hG:=Cx hgd;have ho:=Jr hG;have hgl:(Aj p).length=p.AG.length:=by simp[Aj]
    conv=>whnf
    repeat'((first|clear U K|apply st|(apply zk;intro K U)|refine zY ?_|(refine B6 (fun hc=>?_) (fun hc=>?_)<;>(replace hc:=bp hc)<;>(try simp(disch:=omega) only[BW,wrap64,AJ]at hc)<;>(try(exfalso;omega)))|refine Pure.use (Iv _ (by omega)) ?_|refine Pure.use (by assumption) ?_|(refine zb (fun hc=>?_) (fun hc=>?_)<;>try exact⟨⟩)|fail)<;>conv=>whnf)
    refine Cc p.AG.length (fun k (_:Unit)=>[(63,eI (BU k))]) (fun _ _=>[]) (fun k _=>Ar p=Eh (Ab p) n k (p.AG.drop k)) () rfl hcb hs ?_;clear hs;rintro i - Z hi hn' hs;rcases Bd p.AG hi with⟨c,hc,hilt⟩|hie
    .rw [drop_cons hc,Eh]at hn'
     have hci:BU i=i:=AJ (by omega);have hw3:IntKind.i64.wrap (BU i+3)=(i:Int)+3:=by rw[hci,wrap64 (by omega) (by omega)]
     have hlin:=cK (Aj p) false ((i:Int)+3) hgd (by omega) (by omega);have hinl:=(hP.2 c (Dx hc)).2.2;have hlb:Xv (Ab p).parents ((i:Int)+3)= !((Be (Aj p)).getD ((i:Int)+3).toNat []).isEmpty:=rfl;cases hem:((Be (Aj p)).getD ((i:Int)+3).toNat []).isEmpty
     .rw [hem]at hlb
      rw[hlb,Bool.not_false,Fv]at hn';rw[hem,if_neg (by decide),<-hw3]at hlin;have hhas:=cT p (i+3) h10 hslB hgd (by omega) (by omega);have hmh:=Wm hslB ho (show 3<=i+3 by omega) (show i+3<3+p.AG.length by omega);have ei3:((i+3:Nat):Int)=(i:Int)+3:=by omega
      rw[ei3,<-hw3]at hhas;rw[ei3]at hmh;generalize (C6 p (i+3) (i+3 - 2)).mergeSort TT=mine at *
      conv=>whnf
      repeat'((first|clear U K|apply st|(apply zk;intro K U)|refine zY ?_|refine zs fun Z hs=>?_|(refine B6 (fun hc=>?_) (fun hc=>?_)<;>(replace hc:=bp hc)<;>(try simp(disch:=omega) only[BW,wrap64,AJ]at hc)<;>(try(exfalso;omega)))|refine Pure.use (by assumption) ?_|refine zo fun nn hnn Z hs=>?_|fail)<;>conv=>whnf)
      generalize nn=mm at *;replace hs:Sat Z [.map mm (Qf [])]:=hs.take 1;refine Cc c.inits.length (fun j (_:List Int)=>[(86,eI (BU j))]) (fun _ M=>[.map mm (Qf M)]) (fun j M=>Ar p=(C8 (Ab p) ((i:Int)+3) n (c.inits.take j) (c.inits.drop j)&&Eh (Ab p) n (i+1) (p.AG.drop (i+1)))/\ ∀s,M.contains s=(c.inits.take j).any fun y=>y.1==s) [] rfl ⟨hn',fun s=>rfl⟩ hs ?_;clear hs;rintro j M Z hj ⟨hm,hMs⟩ hs;rcases Bd c.inits hj with⟨x,hx,hjlt⟩|hje
      .have hpa:((c.inits.take j).all fun y=>y.1 != x.1)= !M.contains x.1:=by
        rw[hMs,List.all_eq_not_any_not];congr 2;funext y;simp[bne]
       have hst:Ar p=((mine.contains x.1&&(!M.contains x.1&&Np x.2))&&(C8 (Ab p) ((i:Int)+3) n (c.inits.take (j+1)) (c.inits.drop (j+1))&&Eh (Ab p) n (i+1) (p.AG.drop (i+1)))):=by
        rw[hm,drop_cons hx,C8,hpa,hmh,<-hne,Aa hx];cases decide (0<=x.1)<;>cases decide (x.1<n)<;>cases hasB (Ab p) ((i:Int)+3) x.1<;>cases Np x.2<;>cases M.contains x.1<;>simp
       have hMs': ∀s,(Nb M x.1).contains s=(c.inits.take (j+1)).any fun y=>y.1==s:=fun s=>by
        rw[Pe,hMs,Aa hx,List.any_append];simp only[aR,List.any_nil,Bool.or_false];congr 1;rw[R9];simp;exact eq_comm
       have hct:=EG mine false x.1;have hbt:=L8 x.2;clear hmh hpa hMs hm;cases eA:mine.contains x.1<;>cases eB:M.contains x.1<;>cases eD:Np x.2<;>rw[eA]at hct<;>rw[eD]at hbt<;>rw[eA,eB,eD]at hst
       all_goals
        conv=>whnf
        repeat'((first|clear U K|apply st|(apply zk;intro K U)|refine zY ?_|refine zs fun Z hs=>?_|(refine B6 (fun hc=>?_) (fun hc=>?_)<;>(replace hc:=bp hc)<;>(try simp(disch:=omega) only[BW,wrap64,AJ]at hc)<;>(try(cases hc;done)))|refine a6 eB ?_|refine jO (fun Z hs=>?_)|refine Pure.use (by assumption) ?_|refine zo fun nn hnn Z hs=>?_|fail)<;>conv=>whnf)
       all_goals first
        | exact⟨hjlt,_,rfl,⟨hst,hMs'⟩,hs.less (Uu _ _)⟩
        | exact Qr (by rw[hst];rfl)
      .rw[Ax hje,C8,Fv]at hm
       refine zz ?_;(repeat clear U K);repeat intro K U
       exact⟨hilt,(),rfl,hm,hs.take 0⟩
     .rw[hem]at hlb
      rw[hem,if_pos rfl,<-hw3]at hlin;have hcF:Ar p=false:=by rw[hn',hlb];rfl
      conv=>whnf
      repeat'((first|clear U K|apply st|(apply zk;intro K U)|refine zY ?_|refine zs fun Z hs=>?_|(refine B6 (fun hc=>?_) (fun hc=>?_)<;>(replace hc:=bp hc)<;>(try(exfalso;omega)))|refine Pure.use (by assumption) ?_|refine zo fun nn hnn Z hs=>?_|fail)<;>conv=>whnf)
      all_goals exact Qr hcF
    .refine zz ?_;(repeat clear U K);repeat intro K U
     exact om hs (by rw[hn',Ax hie];rfl)
   .have hcF:Ar p=false:=by rw[hcb];simp[hps]
    conv=>whnf
    repeat'((first|clear U K|apply st|(apply zk;intro K U)|refine zY ?_|(refine B6 (fun hc=>?_) (fun hc=>?_)<;>(replace hc:=bp hc)<;>(try simp(disch:=omega) only[BW,wrap64,AJ]at hc)<;>(try(cases hc;done)))|refine Pure.use (Iv _ (by omega)) ?_|(refine zb (fun hc=>?_) (fun hc=>?_)<;>try exact⟨⟩)|fail)<;>conv=>whnf)
    all_goals exact Qr hcF
def Tn (f : Fact):Mm f=true->Pure zP 205 [.a (xF f)] (eI (FH f)):=by
 induction f using Fact.ind with
 | h f ih=>
   intro ha;refine Pure.fit (by kernel_rfl) fun hf=>?_
   have⟨h2,h3,h4⟩:=Mj hf.1;have hM:=Mx;rw[Le]at ha;simp only[Ba,DG,List.all_map,JD]at ha;refine eP kZ ?_;have hs:=Sn;by_cases hlf:CI f=true
   .have hlo:=Yh hlf
    have hw:IntKind.i64.wrap (f.arg+1)=f.arg+1:=wrap64 (by omega) (by omega)
    conv=>whnf
    repeat'((first|clear U K|apply st|(apply zk;intro K U)|refine zY ?_|(refine zb (fun hc=>?_) (fun hc=>?_)<;>try exact⟨⟩)|fail)<;>conv=>whnf)
    all_goals try(exfalso;omega)
    all_goals
     refine Cc f.kids.length (fun k (_:Unit)=>[(3,eI (((f.kids.take k).map FH).foldl HU (if CI f then f.arg+1 else 0))),(25,eI (BU k))]) (fun _ _=>[]) (fun _ _=>True) () (by rw[hw,if_pos hlf];rfl) trivial hs ?_;clear hs;rintro k - Z hk - hs;rcases Bd f.kids hk with⟨x,hx,hlt⟩|hke
     .have hxs:=ih x (Dx hx) (ha.2 x (Dx hx))
      conv=>whnf
      repeat'((first|clear U K|apply st|(apply zk;intro K U)|refine zY ?_|refine zs fun Z hs=>?_|refine zC ?_|refine zo fun nn hnn Z hs=>?_|fail)<;>conv=>whnf)
      exact⟨hlt,(),by rw[Em _ _ _ hx];rfl,trivial,hs.take 0⟩
     .refine zz ?_;(repeat clear U K);repeat intro K U
      exact AF (by rw[BN hke,<-HI])
   .have hlo:f.op≠2/\f.op≠3/\f.op≠4:=by
     simp only[CI,Ma,Mb]at hlf;omega
    conv=>whnf
    repeat'((first|clear U K|apply st|(apply zk;intro K U)|refine zY ?_|(refine zb (fun hc=>?_) (fun hc=>?_)<;>try exact⟨⟩)|fail)<;>conv=>whnf)
    all_goals try(exfalso;omega)
    all_goals
     refine Cc f.kids.length (fun k (_:Unit)=>[(3,eI (((f.kids.take k).map FH).foldl HU (if CI f then f.arg+1 else 0))),(25,eI (BU k))]) (fun _ _=>[]) (fun _ _=>True) () (by rw[if_neg hlf];rfl) trivial hs ?_;clear hs;rintro k - Z hk - hs;rcases Bd f.kids hk with⟨x,hx,hlt⟩|hke
     .have hxs:=ih x (Dx hx) (ha.2 x (Dx hx))
      conv=>whnf
      repeat'((first|clear U K|apply st|(apply zk;intro K U)|refine zY ?_|refine zs fun Z hs=>?_|refine zC ?_|refine zo fun nn hnn Z hs=>?_|fail)<;>conv=>whnf)
      exact⟨hlt,(),by rw[Em _ _ _ hx];rfl,trivial,hs.take 0⟩
     .refine zz ?_;(repeat clear U K);repeat intro K U
      exact AF (by rw[BN hke,<-HI])
def T1 (p:Prog) (x:Node) (size:Int):Pure zP 201 [.a (A7 p),.a (GQ x),eI size] (.b (JJ p x size)):=by
 refine Pure.fit (by kernel_rfl) fun hf=>?_
 have⟨p1,p2,p3,p4⟩:=D8 hf.1;have hM:=Mx;have hw:IntKind.i64.wrap (3+((p.AG.map Hm).length:Nat))=3+(p.AG.length:Int):=by rw[BW,wrap64 (by omega) (by omega)]
 refine eT kZ ?_;have hs:=Sn
 conv=>whnf
 repeat'((first|clear U K|apply st|(apply zk;intro K U)|refine zY ?_|refine Pure.use (L8 _) ?_|refine za (fun hc=>?_) fun hc=>?_|fail)<;>conv=>whnf)
 all_goals first
  | (refine AF ?_;simp[JJ, *];done)
  | (refine AF ?_;simp[JJ, *];omega)
  | (refine AF ?_;rw[hw];simp[JJ, *];done)
  | (refine AF ?_;congr 1;rw[R9];simp[JJ, *];omega)
def cH (n:Nat) (hn:n<=120):Pure zP 227 [.i .u64 1,eU n] (.t [.i .u64 0,eU n]):=by
 refine eM kZ ?_;have hs:=Sn
 conv=>whnf
 repeat'((first|clear U K|apply st|(apply zk;intro K U)|refine zY ?_|refine⟨(by decide:(0:Int)<=_),?_⟩|fail)<;>conv=>whnf)
 have ea: ∀m:Nat,m<=120->bits .and .u64 (m:Int) 4294967295=(m:Int):=fun m hm=>by
  have:=XQ (a:=m) (b:=4294967295) (by omega) (by decide)
  have e:m&&&4294967295=m:=by
   have:=Nat.and_two_pow_sub_one_eq_mod m 32;rw[show 2 ^ 32 - 1=4294967295 from rfl]at this;rw[this];omega
  rw[e]at this;exact this
 have e0:=ea 0 (by omega);have e1:=ea 1 (by omega);have en:=ea n hn
 have ef: ∀m:Nat,m<=120->(m:Int).fdiv (2 ^ min (Int.toNat 32) IntKind.u64.bits)=0:=fun m hm=>by
  have:=YA (a:=m) (c:=32) (by decide);rw[show(Int.toNat 32)=32 from rfl,this,Nat.shiftRight_eq_div_pow];have:m / 2 ^ 32=0:=Nat.div_eq_of_lt (by omega);rw[this];rfl
 have f0:=ef 0 (by omega);have f1:=ef 1 (by omega);have fn:=ef n hn;have w0:IntKind.u64.wrap 0=0:=rfl;have wn:IntKind.u64.wrap (n:Int)=n:=Gu (by omega);simp only[Int.natCast_zero,Int.natCast_one,Int.cast_ofNat_Int]at e0 e1 f0 f1;simp only[e0,e1,en,f0,f1,fn,w0,wn,Int.zero_mul,Int.mul_zero,Int.zero_add,Int.add_zero,Int.one_mul];exact AF rfl
def cI (n:Nat) (hn:n<=120):Pure zP 159 [.i .u64 1,eU n] (.t [.i .u64 0,eU n]):=by
 refine fC kZ ?_;have hs:=Sn
 conv=>whnf
 repeat'((first|clear U K|apply st|(apply zk;intro K U)|refine Pure.use (cH n hn) ?_|fail)<;>conv=>whnf)
 all_goals exact AF rfl
def Mh (op:Int):V:=
 if op=5 then .De 272 (.a [])else
 if op=1\/op=2\/op=3\/op=6\/op=18 then .De 271 (eI 0)else
 if op=4\/op=8\/op=17 then .De 271 (eI 1)else
 if op=7\/op=9\/op=11\/op=12\/op=13\/op=14\/op=15\/op=16 then .De 271 (eI 2)else
 if op=10 then .De 271 (eI 3)else .C0
def T8 (op:Int):Pure zP 202 [eI op] (Mh op):=by
 refine eS kZ ?_;have hs:=Sn
 conv=>whnf
 repeat'((first|clear U K|apply st|(apply zk;intro K U)|refine zY ?_|refine za (fun hc=>?_) fun hc=>?_|fail)<;>conv=>whnf)
 all_goals exact AF (by simp[Mh, *])
def gg (n:Int) (p:Prog) (x:Node):Pure zP 431 [eI n,.a (A7 p),.a (GQ x)] (eI n):=by
 refine cr kZ ?_;have hs:=Sn;exact zW
def ZW (p:Prog) (x:Node) (h0:0<=x.n) (h1:x.n<p.Bc.length):Pure zP 432 [.a [],.a (A7 p),.a (GQ x)] (eI (p.Bc.getD x.n.toNat 0)):=by
 refine Pure.fit (by kernel_rfl) fun hf=>?_
 have⟨p1,p2,p3,p4⟩:=D8 hf.2.1
 have hx:p.Bc[x.n.toNat]? =some (p.Bc.getD x.n.toNat 0):=by
  rw[FD,D2 (by omega)];rfl
 refine cn kZ ?_;have hs:=Sn;exact zW
def Dn (p:Prog) (next:Bool) (n size depth:Int) (s:List Int):Option (List Int):=
 if n<0\/(p.nodes.length:Int)<=n\/0<=s.getD n.toNat 0\/12<depth then none else
 match p.nodes[n.toNat]? with
 | none=>none
 | some x=>if C5 p next size x then some (s.set n.toNat size)else none
def U6 {S:Type}:Option S->Rd S
 | some s=> .go s
 | none=> .BL Cu
abbrev jR (y:Int×Int×Int):List V:=[eI y.1,.a [eI y.2.1,eI y.2.2]]
abbrev hOut (nO:Nat) (v:V) (s:List Int):List At:=[.box nO [v],.own v 1 (iL s)]
abbrev dP (p:Prog) (y:Int×Int×Int) (s:List Int):Prop:=0<=y.2.1/\y.2.1<=100/\1<=y.2.2/\y.2.2<=13/\s.length=p.nodes.length
abbrev Qs (p:Prog) (L nW:Nat):V:= .f (.func 265) [] [.rp [.f (.yield L) [] []],.rp (A7 p),.p nW 0]
def RN {p:Prog} {next:Bool} {n size depth:Int} {s s':List Int} (h:Dn p next n size depth s=some s'):0<=n/\n<(p.nodes.length:Int)/\s.getD n.toNat 0<0/\depth<=12/\ ∃x,p.nodes[n.toNat]? =some x/\C5 p next size x=true/\s'=s.set n.toNat size:=by
 unfold Dn at h;split at h
 .cases h
 .rename_i hc
  split at h
  .cases h
  .rename_i x hx
   split at h
   .rename_i hok
    simp only[HQ]at h;exact⟨by omega,by omega,by omega,by omega,x,hx,hok,h.symm⟩
   .cases h
def RM {p:Prog} {next:Bool} {d:Nat} {n size depth:Int} {s:List Int} (hd:depth=13 - (d+1:Nat)) (hd1:1<=depth):Bp p next (d+1) n size s=match Dn p next n size depth s with
    | none=>none
    | some s'=>match p.nodes[n.toNat]? with
      | none=>none
      | some x=>D7 (Bp p next d) x.op size 0 x.kids s':=by
 unfold Dn;simp only[Bp];by_cases h:n<0\/(p.nodes.length:Int)<=n\/0<=s.getD n.toNat 0
 .rw[if_pos h,if_pos (by omega)]
 .rw[if_neg h,if_neg (by omega)]
  cases hx:p.nodes[n.toNat]? with
  | none=>rfl
  | some x=>
    simp only;split
    .rfl
    .rfl
def RP {p:Prog} {next:Bool} {n size depth:Int} {s:List Int} (hd:12<depth):Dn p next n size depth s=none:=by
 unfold Dn;rw[if_pos (by omega)]
def M8 {f:Int->Int->List Int->Option (List Int)} (hf: ∀ {a b s s'},f a b s=some s'->s'.length=s.length) {op size:Int}: ∀(i:Nat) (l:List Int) {s s':List Int},D7 f op size i l s=some s'->s'.length=s.length
 | _,[],s,s',h=>by cases h;rfl
 | i,k::r,s,s',h=>by
   simp only[D7]at h;split at h
   .cases h
   .rename_i s1 h1
    exact(M8 hf (i+1) r h).trans (hf h1)
def HG {p:Prog} {next:Bool}: ∀(d:Nat) {n size:Int} {s s':List Int},Bp p next d n size s=some s'->s'.length=s.length
 | 0,_,_,_,_,h=>by cases h
 | d + 1,n,size,s,s',h=>by
   simp only[Bp]at h;split at h
   .cases h
   .split at h
    .cases h
    .split at h
     .exact(M8 (fun h=>HG d h) 0 _ h).trans (by simp)
     .cases h
def X5 (p : Prog) (next:Bool) {L:Nat} {E:Env} {ok:FuncId->Array Tmp->Code->Code->Nat->Prop} {v:V} {nO:Nat}
    (hY:LM zP L E ok jR (hOut nO v) (fun s=>s.length=p.nodes.length) (fun y s=>U6 (Dn p next y.1 y.2.1 y.2.2 s)) (dP p)) :
    ∀ d : Nat,d<=12-> ∀(n size depth:Int) (s:List Int),depth=13 - d->0<=size->size+d<=100->s.length=p.nodes.length-> ∀(nW:Nat) (rest:List At) (Z:AE),
      Sat Z (.obj L (.loop .ready E ok)::(hOut nO v s++(.box nW [Qs p L nW]::rest)))->
      BD zP 265 [eI n,.a [eI size,eI depth],.rp [.f (.yield L) [] []],.rp (A7 p),.p nW 0] Z
       (Zj L E ok (hOut nO v) (fun s=>s.length=p.nodes.length) (.box nW [Qs p L nW]::rest) (.b true) (.b false) (U6 (Bp p next d n size s))):=by
 intro d
 induction d with
 | zero=>
   intro _ n size depth s hd h0 h1 hl nW rest Z hs;refine Vx kZ ?_;refine zz ?_;(repeat clear U K);repeat intro K U
   refine hY.use (y:=(n,size,depth)) (s:=s) ⟨h0,(by dsimp only;omega),(by dsimp only;omega),(by dsimp only;omega),hl⟩ hs ?_;rw[RP (by dsimp only;omega)];rintro r Z' ⟨rfl,s',hj,hs'⟩
   conv=>whnf
   repeat'((first|clear U K|apply st|fail)<;>conv=>whnf)
   exact Cy ⟨rfl,s',hj,hs'⟩
 | succ d ih =>
   intro hd12 n size depth s hd h0 h1 hl nW rest Z hs;refine BD.fit (by kernel_rfl) fun hf=>?_
   have hM:=Mx
   have hfp:Dg (.a (A7 p)):=by
    have:=hf.2.2.2.1;simp only[ON]at this;simpa only[F4]using this
   have⟨p1,p2,p3,p4⟩:=D8 hfp;refine Vx kZ ?_;refine zz ?_;(repeat clear U K);repeat intro K U
   refine hY.use (y:=(n,size,depth)) (s:=s) ⟨h0,(by dsimp only;omega),(by dsimp only;omega),(by dsimp only;omega),hl⟩ hs ?_;have hw:=RM (p:=p) (next:=next) (n:=n) (size:=size) (s:=s) hd (by omega);cases hv:Dn p next n size depth s with
   | none=>
     rw[hv]at hw;rintro r Z' ⟨rfl,s',hj,hs'⟩
     conv=>whnf
     repeat'((first|clear U K|apply st|fail)<;>conv=>whnf)
     refine Cy ?_;rw[hw];exact⟨rfl,s',hj,hs'⟩
   | some s1 =>
     obtain⟨g0,g1,g2,g3,x,hx,hok,hs1⟩:=RN hv;rw[hv]at hw;simp only[hx]at hw;have hl1:s1.length=p.nodes.length:=by rw[hs1];simpa using hl
     have hkm:=Vs hfp (Dx hx);clear hv hs1;rintro r Z1 ⟨rfl,hs⟩;refine zz ?_;(repeat clear U K);repeat intro K U
     refine Cc x.kids.length (fun k (_:List Int)=>[(23,eI (BU k))]) (fun _ s'=> .obj L (.loop .ready E ok)::(hOut nO v s'++(.box nW [Qs p L nW]::rest))) (fun k s'=>s'.length=p.nodes.length/\Bp p next (d+1) n size s=D7 (Bp p next d) x.op size k (x.kids.drop k) s') s1 rfl ⟨hl1,by simpa using hw⟩ hs ?_;clear hs hw;rintro k s' Z hk ⟨hl',hkids⟩ hs;rcases Bd x.kids hk with⟨kid,hkid,hlt⟩|hke
     .have hck:BU k=k:=AJ (by omega)
      rw[drop_cons hkid,D7]at hkids;have e0:IntKind.i64.wrap (depth+1)=depth+1:=wrap64 (by omega) (by omega);have e1:IntKind.i64.wrap (size+1)=size+1:=wrap64 (by omega) (by omega)
      have hrec: ∀(sz:Int) (Z:AE) (l:List At),0<=sz->sz+d<=100->Sat Z (l++(.obj L (.loop .ready E ok)::(hOut nO v s'++(.box nW [Qs p L nW]::rest))))->BF zP (Qs p L nW) [eI kid,.a [eI sz,eI (depth+1)]] Z
       (Zj L E ok (hOut nO v) (fun s=>s.length=p.nodes.length) (.box nW [Qs p L nW]::rest) (.b true) (.b false) (U6 (Bp p next d kid sz s'))):=fun sz Z l h0 h1 hs=>
       Ct (ih (by omega) kid sz (depth+1) s' (by omega) h0 h1 hl' nW rest Z (hs.less (List.sublist_append_right _ _)))
      conv=>whnf
      repeat'((first|clear U K|apply st|(apply zk;intro K U)|refine zY ?_|refine zs fun Z hs=>?_|(refine zd (fun hc=>?_) (fun hc=>?_)<;>try exact⟨⟩)|refine zo fun nn hnn Z hs=>?_|fail)<;>conv=>whnf)
      all_goals
       simp only[e0,e1]
       first
        | rw[if_pos (by omega)]at hkids
          refine(hrec (size+1) _ [_] (by omega) (by omega) hs).mono ?_
        | rw[if_neg (by omega)]at hkids
          refine(hrec size _ [_] (by omega) (by omega) hs).mono ?_
       cases hw:Bp p next d kid _ s' with
       | none=>
         rw[hw]at hkids;rintro r Z' ⟨rfl,s',hj,hs'⟩
         conv=>whnf
         repeat'((first|clear U K|apply st|fail)<;>conv=>whnf)
         refine Cy ?_;rw[hkids];exact⟨rfl,s',hj,hs'⟩
       | some s2=>
         rw[hw]at hkids;rintro r Z' ⟨rfl,hs'⟩;refine zz ?_;(repeat clear U K);repeat intro K U
         exact⟨hlt,s2,rfl,⟨(HG _ hw).trans hl',hkids⟩,hs'⟩
     .rw[Ax hke,D7]at hkids
      refine zz ?_;(repeat clear U K);repeat intro K U
      refine Cj ?_;rw[hkids];exact⟨rfl,hs⟩
def fv {a b:Nat} {A B:Prop} (e:a=b) (h:A):(a=b->A)/\(a≠b->B):=⟨fun _=>h,fun n=>absurd e n⟩
def jZ {a b:Nat} {A B:Prop} (e:a≠b) (h:B):(a=b->A)/\(a≠b->B):=⟨fun n=>absurd n e,fun _=>h⟩
def WJ {P:Program} {Z:AE} {tab:List (TypeId×FuncId)} {t:TypeId} {f:FuncId} {v:V} {args:List V} {Q:R->AE->Prop} (h:look t tab=some f) (hc:BD P f (v::args) Z Q):BM P tab (.De t v) args Z Q:=by
 unfold BM;simp only[h];exact hc
def XT (p:Prog) (n size depth:Int):Pure zP 200 [.a (A7 p),eI n,.a [eI size,eI depth]] (.f (.func 264) [] [.rp (A7 p),.rp [eI n],.rp [eI size,eI depth]]):=by
 refine eV kZ ?_;have hs:=Sn;exact zW
def cV (p:Prog) (next:Bool) {L:Nat} {E:Env} {ok:FuncId->Array Tmp->Code->Code->Nat->Prop} {v:V} {nO:Nat}
    (hY:LM zP L E ok jR (hOut nO v) (fun s=>s.length=p.nodes.length) (fun y s=>U6 (Dn p next y.1 y.2.1 y.2.2 s)) (dP p)) (n size:Int) (s:List Int) (h0:0<=size) (h1:size<=20) (hl:s.length=p.nodes.length) (rest:List At) (Z:AE)
    (hs : Sat Z (.obj L (.loop .ready E ok)::(hOut nO v s++rest))) :
     BD zP 264 [.f (.yield L) [] [],.rp (A7 p),.rp [eI n],.rp [eI size,eI 1]] Z
      (Zj L E ok (hOut nO v) (fun s=>s.length=p.nodes.length) rest (.t []) (.t []) (U6 (Bp p next 12 n size s))):=by
 refine dt kZ ?_
 conv=>whnf
 repeat'((first|clear U K|apply st|(apply zk;intro K U)|refine zY ?_|refine zs fun Z hs=>?_|refine zo fun nn hnn Z hs=>?_|fail)<;>conv=>whnf)
 have hp:Sat Z (.obj L (.loop .ready E ok)::(hOut nO v s++(.box nn [Qs p L nn]::rest))):=hs.perm (by
  refine(List.Perm.swap _ _ _).trans (.cons _ ?_)
  exact(List.perm_middle (l₁:=hOut nO v s)).symm)
 refine Ct ((X5 p next hY 12 (JE _) n size 1 s rfl h0 (by omega) hl nn rest Z hp).mono ?_);cases hw:Bp p next 12 n size s with
 | none=>
   rintro r Z' ⟨rfl,s',hj,hs'⟩
   conv=>whnf
   repeat'((first|clear U K|apply st|fail)<;>conv=>whnf)
   refine Cy ?_;rw[hw];exact⟨rfl,s',hj,hs'.less (List.Sublist.append_left (Uu _ _) _)⟩
 | some s2=>
   rintro r Z' ⟨rfl,hs'⟩
   conv=>whnf
   repeat'((first|clear U K|apply st|fail)<;>conv=>whnf)
   refine Cj ?_;rw[hw];exact⟨rfl,hs'.less (.cons₂ _ (List.Sublist.append_left (Uu _ _) _))⟩
def QO (p:Prog) (x:Node):(x.op=5/\Mh x.op= .De 272 (.a []))\/(x.op≠5/\ ∃m:Int,Mh x.op= .De 271 (eI m)/\Gm p x=m)\/(Mh x.op= .C0/\Gm p x= -1):=by
 unfold Mh Gm;by_cases h5:x.op=5
 .exact .inl ⟨h5,by rw[if_pos h5]⟩
 .rw[if_neg h5]
  split
  .exact .inr (.inl ⟨h5,_,rfl,rfl⟩)
  split
  .exact .inr (.inl ⟨h5,_,rfl,rfl⟩)
  split
  .exact .inr (.inl ⟨h5,_,rfl,rfl⟩)
  split
  .exact .inr (.inl ⟨h5,_,rfl,rfl⟩)
  .exact .inr (.inr ⟨rfl,by rw[if_neg (by rintro⟨h,_⟩;exact h5 h)]⟩)
def OI {p:Prog} {x:Node} (h:x.op=5) {size:Int} (hn:JJ p x size=true):0<=x.n/\x.n<p.Bc.length/\Gm p x=p.Bc.getD x.n.toNat 0:=by
 have h2:0<=x.n/\x.n<p.Bc.length:=by
  simp only[JJ,h]at hn;simpa using hn
 refine⟨h2.1,h2.2,?_⟩;unfold Gm;rw[h,if_neg (by decide),if_neg (by decide),if_neg (by decide),if_neg (by decide),if_pos ⟨rfl,h2.1,h2.2⟩]
def WR {p:Prog} {next:Bool} {n size depth:Int} {s:List Int} (h:n<0\/(p.nodes.length:Int)<=n\/0<=s.getD n.toNat 0\/12<depth):Dn p next n size depth s=none:=by
 unfold Dn;rw[if_pos h]
def WS {p:Prog} {next:Bool} {n size depth:Int} {s:List Int} {y:Int} {x:Node} (h0:0<=n) (h1:n<(p.nodes.length:Int)) (hy:s[n.toNat]? =some y) (hy0:y<0) (hd:depth<=12) (hx:p.nodes[n.toNat]? =some x):Dn p next n size depth s=if C5 p next size x then some (s.set n.toNat size)else none:=by
 have e:s.getD n.toNat 0=y:=by rw[FD,hy];rfl
 unfold Dn;rw[if_neg (by rw[e];omega),hx]
def iV (p:Prog) (nO:Nat) (v:V) (rest:List At) (o:Option (List Int)) (r:R) (Z:AE):Prop:=
 match o with
 | some s=>r= .ret (.t [])/\Sat Z (hOut nO v s++rest)
 | none=>r= .BL Cu/\ ∃s:List Int,s.length=p.nodes.length/\Sat Z (hOut nO v s++rest)
def OS (p:Prog) (next:Bool) {v:V} {nO:Nat} (hv:(DI v).isSome=true) (n size:Int) (s:List Int) (h0:0<=size) (h1:size<=20) (hl:s.length=p.nodes.length) (rest:List At) (Z:AE) (hs:Sat Z (hOut nO v s++rest)) :
    BD zP 199 [eI n,eI size,.b next,.rp (A7 p),.p nO 0] Z (iV p nO v rest (Bp p next 12 n size s)):=by
 refine BD.fit (by kernel_rfl) fun hf=>?_
 have hM:=Mx
 have hfp:Dg (.a (A7 p)):=by
  have:=hf.2.2.2.1;simp only[ON]at this;simpa only[F4]using this
 have⟨p1,p2,p3,p4⟩:=D8 hfp;refine eW kZ ?_
 conv=>whnf
 repeat'((first|clear U K|apply st|(apply zk;intro K U)|refine zY ?_|refine Pure.use (XT _ _ _ _) ?_|refine zo fun nn hnn Z hs=>?_|fail)<;>conv=>whnf)
 refine BD.mono (cV p next (L:=nn) (v:=v) (nO:=nO) ?_ n size s h0 h1 hl rest Z hs) ?_
 .refine QD (fun y=>rfl) ?_
  clear hs hnn hl h0 h1;rintro⟨k,sz,dp⟩ s ⟨d0,d1,d2,d3,hl⟩ rest Z hs;dsimp only at d0 d1 d2 d3 hl;dsimp only;rw[show jR (k,sz,dp)= [eI k,.a [eI sz,eI dp]] from rfl]
  conv=>whnf
  repeat'((first|apply st|(apply sq;intro K U)|(apply si;intro A B hA hB)|(refine hA _ _ ?_;clear hB B hA A)|(refine hB _ _ _ ?_;clear hB B hA A)|(refine hB _ _ fun Z hsub=>?_;clear hB B hA A)|(apply U;clear U K)|apply dr|refine rk ?_ ?_|exact fun s e=>by cases e;rfl|refine⟨rfl,?_⟩|refine⟨kZ,?_⟩|refine iq fun x hx=>?_|refine ld ?_|refine Qe fun Z hs=>?_|refine oi ?_|refine ol fun x hx=>?_|refine oset fun Z hs=>?_|refine Xe ?_|refine U0 ?_|(refine B6 (fun hc=>?_) (fun hc=>?_)<;>(replace hc:=bp hc)<;>(try simp(disch:=omega) only[BW,wrap64,AJ]at hc)<;>(try(cases hc;done)))|refine Pure.use (T1 _ _ _) ?_|refine Pure.use (T8 _) ?_|(rcases QO p (by assumption)with⟨e5,ek⟩|⟨e5,m,ek,hm⟩|⟨ek,hm⟩<;>rw[ek]<;>clear ek)|refine fv rfl ?_|refine jZ (by decide) ?_|refine WJ rfl (Pure.use (gg _ _ _) ?_)|refine WJ rfl (Pure.use (ZW _ _ (OI (by assumption) (by assumption)).1 (OI (by assumption) (by assumption)).2.1) ?_)|(constructor<;>intro hc<;>(try rw[hc])<;>(replace hc:=bp hc)<;>(try simp(disch:=omega) only[BW,wrap64,AJ]at hc))|(intro nn hnn;generalize hg:BO _ nn _=Z;refine NY hg fun hs=>?_;clear hg)|clear U K)<;>conv=>whnf)
  all_goals first
   | (intro hn;refine My (s:=s) (by rw[WR (by first|omega|(rw[FD,‹s[k.toNat]? =some _›];simp only[Option.getD_some];omega))];rfl) hl (hs.less (by repeat first|exact List.Sublist.refl _|apply List.Sublist.cons)) hn)
   | skip
  all_goals
   have hva:=WS (next:=next) (size:=sz) (depth:=dp) (show 0<=k by omega) (show k<(p.nodes.length:Int) by omega) ‹s[k.toNat]? =some _› (by assumption) (by omega) ‹p.nodes[k.toNat]? =some _›
   rename Node=>x
   have hk5:x.op=5->JJ p x sz=true->Gm p x=p.Bc.getD x.n.toNat 0:=fun h hn=>(OI h hn).2.2
   intro hn
  all_goals first
   | (rw[if_neg (by first|(intro h;rw[C5,hk5 (by assumption) (by assumption)]at h;simp only[Ba,Mb]at h;exact absurd h.1 (by assumption))|(simp[C5, *];done)|(simp[C5, *];omega)|(rw[C5,hk5 (by assumption) (by assumption)];simp[*];done)|(simp[C5, *];intros;omega))]at hva
      refine My (s:=s.set k.toNat sz) (by rw[hva];rfl) (by simpa using hl) ?_ hn
      first
       | exact hs.less (by repeat first|exact List.Sublist.refl _|apply List.Sublist.cons)
       | exact(hs.less (by repeat first|exact List.Sublist.refl _|apply List.Sublist.cons)).up (by assumption))
   | (rw[if_pos (by first|(simp[C5, *];done)|(rw[C5,hk5 (by assumption) (by assumption)];simp[*];done))]at hva
      exact Wb (s:=s.set k.toNat sz) (by rw[hva];rfl) (hs.less (by repeat first|exact List.Sublist.refl _|apply List.Sublist.cons)) hn)
 .cases hw:Bp p next 12 n size s with
  | none=>
    rintro r Z' ⟨rfl,s',hj,hs'⟩
    conv=>whnf
    exact Cy ⟨rfl,s',hj,hs'⟩
  | some s2=>
    rintro r Z' ⟨rfl,hs'⟩;refine Wc hs' fun Z2 hs2=>?_
    conv=>whnf
    exact Cj ⟨rfl,hs2⟩
end Go.Gl
namespace Go.Gl
end Go.Gl
namespace Go.Gl
def Kt (no:List Int):Nat->Int->Int
 | 0,n=>n
 | k+1,n=>if no.contains n then Kt no k (n+1)else n
end Go.Gl
namespace Go.Gl
open Go.Proofs
attribute [local irreducible] BD A3 Au AS AL Ao AU AV AM An AP AT BF BM Sat Af BK Aw W
section
variable {S:Type} (g:FuncId) (fi ca:List V) (H:S->List At) (f:Int->Bool) (J:S->Prop) (D:Int->Prop)
end
section
variable {S:Type} (g:FuncId) (fi ca:List V) (H:S->List At)
end
attribute [local irreducible] Gb
end Go.Gl
namespace Go.Gl
open Go.Proofs
attribute [local irreducible] BD A3 Au AS AL Ao AU AV AM An AP AT BF BM Sat Af BK Aw W
section
variable {α β S:Type} {stp:α->S->Bool×S} {D:α->S->Prop}
end
section
variable {S:Type} {stp:List Fact->S->Bool×S} {D:List Fact->S->Prop}
end
def YK (a:Int) (n:Nat) (h1:1<=n) (hn:n<=120):Cl zP 96 [.l [[eI a]] true,eI n] [] fun r post=> ∃v,r= .ret v/\post= [.own v 1 (iL (List.replicate n a))]/\(DI v).isSome=true:=by
 intro Z hs;have hM:=Mx;have hw1:IntKind.u64.wrap 1=1:=rfl;have hwn:IntKind.u64.wrap (n:Int)=n:=Gu (by omega);have hwi:IntKind.i64.wrap (n:Int)=n:=wrap64 (by omega) (by omega);refine iG kZ ?_
 conv=>whnf
 repeat'((first|clear U K|apply st|(apply zk;intro K U)|refine zY ?_|(refine zb (fun hc=>?_) (fun hc=>?_)<;>try exact⟨⟩)|fail)<;>conv=>whnf)
 rw[show IntKind.u64.wrap (([[eI a]]:List (List V)).length:Nat)=1 from rfl,hwn];refine(cI n hn).use ?_
 conv=>whnf
 repeat'((first|clear U K|apply st|(apply zk;intro K U)|refine zY ?_|(refine zb (fun hc=>?_) (fun hc=>?_)<;>try exact⟨⟩)|fail)<;>conv=>whnf)
 all_goals try(exfalso;omega)
 rw[hwi];refine gI hs (JE n) (by omega) fun v Z hs hv=>?_
 obtain⟨id,rfl⟩:=hv
 conv=>whnf
 repeat'((first|clear U K|apply st|(apply zk;intro K U)|fail)<;>conv=>whnf)
 refine hZ hs 0 (ys:=[[eI a]]) rfl (by simp;omega) (fun e he=>by simp at he;subst he;rfl) (fun e he v hv=>by simp at he;subst he;simp at hv;subst hv;rfl) fun Z hs=>?_
 have hst:([[eI a]]:List (List V))++(List.replicate n [V.i .i64 0]).drop ([[eI a]]:List (List V)).length=List.replicate 1 [eI a]++List.replicate (n - 1) [eI 0]:=by simp[List.drop_replicate]
 rw[hst]at hs;refine zz ?_;(repeat clear U K);repeat intro K U
 refine LC (fun m:Nat=>n - m) (fun m=>[(8,eI m)]) (fun m=>[.own (.sl id n n) 1 (List.replicate m [eI a]++List.replicate (n - m) [eI 0])]) (fun m=>1<=m/\m<=n) 1 rfl ⟨by omega,h1⟩ hs ?_;clear hs hst;rintro m Z ⟨hm1,hmn⟩ hs
 have hgl: ∀e∈(List.replicate m [eI a]++List.replicate (n - m) [eI 0]:List (List V)),e.length=1/\ ∀v∈e,Bm v=true:=fun e he=>by
  rcases FC.1 he with he|he
  .rw[(List.mem_replicate.1 he).2];exact⟨rfl,fun v hv=>by simp at hv;subst hv;rfl⟩
  .rw[(List.mem_replicate.1 he).2];exact⟨rfl,fun v hv=>by simp at hv;subst hv;rfl⟩
 have hlen:(List.replicate m [eI a]++List.replicate (n - m) [eI 0]:List (List V)).length=n:=by simp;omega
 rcases Nat.lt_or_ge m n with hlt|hge
 .have hcpy:(List.replicate m [eI a]++List.replicate (n - m) [eI 0]:List (List V)).take m++(((List.replicate m [eI a]++List.replicate (n - m) [eI 0]:List (List V)).take m).take (min m (n - m))++(List.replicate m [eI a]++List.replicate (n - m) [eI 0]:List (List V)).drop (m+min m (n - m)))=List.replicate (m+min m (n - m)) [eI a]++List.replicate (n - (m+min m (n - m))) [eI 0]:=by
   have e1:(List.replicate m [eI a]++List.replicate (n - m) [eI 0]:List (List V)).take m=List.replicate m [eI a]:=by
    rw[List.take_append_of_le_length (by simp)];simp
   rw[e1,List.take_replicate,List.drop_append,List.drop_replicate,List.drop_replicate,List.length_replicate,<-aS,List.replicate_append_replicate];have e2:m - (m+min m (n - m))=0:=by omega
   have e3:n - m - (m+min m (n - m) - m)=n - (m+min m (n - m)):=by omega
   rw[e2,e3,List.replicate_zero,List.nil_append];congr 2;omega
  conv=>whnf
  repeat'((first|clear U K|apply st|(apply zk;intro K U)|refine zY ?_|(refine zb (fun hc=>?_) (fun hc=>?_)<;>try exact⟨⟩)|fail)<;>conv=>whnf)
  all_goals try(exfalso;omega)
  refine ja ?_;refine zz ?_;(repeat clear U K);repeat intro K U
  refine jb ?_;refine zz ?_;(repeat clear U K);repeat intro K U
  rw[MF,show((n:Int) - m).toNat=n - m by omega];refine hX hs 0 rfl (by rw[hlen];omega) (by rw[hlen];omega) (fun e he=>(hgl e he).1) (fun e he=>(hgl e he).2) fun Z hs=>?_
  rw[hcpy]at hs;refine zz ?_;(repeat clear U K);repeat intro K U
  refine⟨m+min m (n - m),by omega,?_,⟨by omega,by omega⟩,hs⟩;rw[wrap64 (by omega) (by omega)];rfl
 .have hme:m=n:=by omega
  subst hme
  conv=>whnf
  repeat'((first|clear U K|apply st|(apply zk;intro K U)|refine zY ?_|(refine zb (fun hc=>?_) (fun hc=>?_)<;>try exact⟨⟩)|fail)<;>conv=>whnf)
  all_goals try(exfalso;omega)
  refine A4 hs (List.Sublist.refl _) (.refl _) fun Z' hs'=>⟨_,⟨_,rfl,?_,rfl⟩,hs'⟩
  simp[iL]
def Ts (n:Nat) (h1:1<=n) (hn:n<=120):Cl zP 96 [.l [[eI (-1)]] true,eI n] [] fun r post=> ∃v,r= .ret v/\post= [.own v 1 (iL (List.replicate n (-1)))]/\(DI v).isSome=true:=YK (-1) n h1 hn
end Go.Gl
