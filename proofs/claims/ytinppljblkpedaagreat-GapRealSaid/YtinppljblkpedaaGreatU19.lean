import Derived.Test.YtinppljblkpedaaGreatU13
import Derived.Test.YtinppljblkpedaaGreatU14
import Derived.Test.YtinppljblkpedaaGreatU16
import Derived.Test.YtinppljblkpedaaGreatU17
import Derived.Test.YtinppljblkpedaaGreatU18
set_option linter.all false
set_option linter.defProp false
set_option maxHeartbeats 8000000
noncomputable section
namespace Go.Gl
open Go.Proofs
attribute [local irreducible] As Ag AY AQ AL AX AP AR AK AW AM AN Ai Ap Sat AT An AZ W
def MF:Int->List Int->Bool
 | _,[]=>true
 | n,s::r=>s==n&&MF (n+1) r
def Ck:Int->List Rp->Bool
 | _,[]=>true
 | n,c::r=>decide (c.AI.length<=4)&&(decide (c.parents.length<=3)&&(MF n c.AI&&Ck (n+c.AI.length) r))
def ES (w:AF) (c n:Int):List (Int×Int)->List (Int×Int)->Bool
 | _,[]=>true
 | pre,x::r=>decide (0<=x.1)&&(decide (x.1<n)&&(hasB w c x.1&&(Tq x.2&&(pre.all (fun y=>y.1 != x.1)&&ES w c n (pre++[x]) r))))
def nG (g:List (List Int)) (c:Int):Bool:= !((B9 g).getD c.toNat []).isEmpty
def Gr (w:AF) (n:Int):Nat->List Rp->Bool
 | _,[]=>true
 | i,c::r=>nG w.parents ((i:Int)+3)&&(ES w ((i:Int)+3) n [] c.inits&&Gr w n (i+1) r)
def BE (p:Prog):Bool:=decide (p.AO.length<=10)&&(Ck 0 p.AO&&((Br p.AO:Int)==p.AI&&(Dv (Ay p)&&Gr (AH p) (Br p.AO) 0 p.AO)))
def AAD {c:Rp} (h:It (MG c)):c.parents.length<=Ab/\c.AI.length<=Ab/\c.inits.length<=Ab:=by
 simp only[MG,Ey,Gw,Bc]at h;exact⟨h.1.1,h.2.1.1,h.2.2.1.1⟩
def JM {p:Prog} (h:Fc (.a (BF p))):sL p:=by
 refine⟨(Gq h).1,fun c hc=>?_⟩;simp only[BF,J0,Ey,Gw,J9]at h;exact AAD (h.1.2 c hc)
def lW (p:Prog) (hk0:p.AO.length<=1000):Pure zP 59 [.a (BF p)] (.l (EV (Ay p)) false):=Pure.fit (by kernel_rfl) fun hf=>bF p (JM hf.1) hk0
def Fj: ∀(cs:List Rp) (n:Int),Ck n cs=true->Br cs<=4*cs.length/\ ∀c∈cs,c.parents.length<=3/\c.AI.length<=4
 | [],_,_=>⟨Ft _,fun _ h=>by cases h⟩
 | c::r,n,h=>by
   simp only[Ck,A4,B7]at h;have⟨h1,h2⟩:=Fj r _ h.2.2.2;refine⟨by simp only[Br,CK,List.sum_cons,HH]at *;omega,fun d hd=>?_⟩;rcases Ep.1 hd with rfl|hd
   .exact⟨h.2.1,h.1⟩
   .exact h2 d hd
def TH {i:Nat}: ∀(r pre:List Int),Na i pre r=true->pre.Nodup->(pre++r).Nodup/\ ∀c∈r,(3:Int)<=c/\c<3+(i:Int)
 | [],pre,_,h=>⟨by simpa using h,fun _ h=>by cases h⟩
 | c::r,pre,h,hn=>by
   simp only[Na,rl,A4,B7,Bool.not_eq_true']at h;have hc:c∉pre:=by simpa using h.1.2.2
   obtain⟨h1,h2⟩:=TH r (pre++[c]) h.2 (List.nodup_append.2 ⟨hn,by simp,fun a ha b hb=>by simp at hb;subst hb;exact fun e=>hc (e ▸ ha)⟩);refine⟨by simpa using h1,fun d hd=>?_⟩;rcases Ep.1 hd with rfl|hd
   .exact⟨h.1.1,h.1.2.1⟩
   .exact h2 d hd
def Q4: ∀(g:List (List Int)) (k:Nat),JF k g=true-> ∀(i:Nat) (l:List Int),g[i]? =some l->l.length<=3/\l.Nodup/\ ∀c∈l,(3:Int)<=c/\c<3+((k+i:Nat):Int)
 | [],_,_,_,_,h=>by cases h
 | l ::r,k,h,i,l',hi=>by
   simp only[JF,A4,B7]at h;cases i with
   | zero=>
     simp at hi;subst hi;obtain⟨h1,h2⟩:=TH l [] h.2.1 .nil;exact⟨h.1,by simpa using h1,by simpa using h2⟩
   | succ i=>
     simp at hi;have:=Q4 r (k+1) h.2.2 i l' hi;rw[show k+(i+1)=k+1+i by omega];exact this
def D6 {g:List (List Int)} (h:Dv g=true):JJ g:=by
 simp only[Dv,A4,B7]at h;refine⟨h.1,fun i l hi=>?_⟩;have:=Q4 g 0 h.2 i l hi;simpa using this
def N4 {g:List (List Int)} (h:JJ g):ordered g:=by
 intro c p hp;unfold par at hp;split at hp
 .cases hp
 .rename_i h3
  rw[Cq]at hp;cases hq:g[c - 3]? with
  | none=>rw[hq]at hp;cases hp
  | some l=>
    rw[hq]at hp;have:=(h.2 _ _ hq).2.2 p hp;omega
def GV {i:Nat} {cs:List Rp} {c:Int} (h:c∈BN i cs):(3:Int)+i<=c/\c<3+i+cs.length:=by
 induction cs generalizing i with
 | nil=>cases h
 | cons d r ih=>
   simp only[BN,Dn,List.mem_replicate]at h;simp only[HH];rcases h with⟨_,rfl⟩|h
   .omega
   .have:=ih h;omega
def Qs {p:Prog} (h1:p.AO.length<=10) (h2:Ck 0 p.AO=true) (h3:Dv (Ay p)=true):Fu (AH p):=by
 have hl:(AH p).parents.length=p.AO.length:=by simp[AH,Ay]
 refine⟨by omega,N4 (D6 h3),fun c hc=>?_,?_⟩
 .have:=GV hc
  rw[hl];omega
 .have:=(Fj _ _ h2).1
  simp only[AH,CV];omega
def eg (p : Prog):Pure zP 172 [.a (BF p)] (.b (BE p)):=by
 refine Pure.fit (by kernel_rfl) fun hf=>?_
 have hP:=JM hf.1;have hcl:=hP.1;have hM:=Mx;refine xK kZ ?_
 conv=>whnf
 repeat'((first|clear U K|apply st|(apply zk;intro K U)|refine zn ?_|(refine zd (fun hc=>?_) (fun hc=>?_)<;>try exact⟨⟩)|fail)<;>conv=>whnf)
 .exact AG (by simp[BE];intros;omega)
 have h10:p.AO.length<=10:=by omega
 refine B4 p.AO.length (fun k (n:Int)=>[(3,eI n),(4,eI (A7 k))]) (fun _ _=>[]) (fun k n=>Ck 0 p.AO=Ck n (p.AO.drop k)/\0<=n/\n+Br (p.AO.drop k)=Br p.AO/\n<=4*k) 0 rfl (by simp) Sat.nil ?_;rintro k n Z hk ⟨hn,hn0,hn1,hn2⟩ hs
 conv=>whnf
 repeat'((first|clear U K|apply st|(apply zk;intro K U)|refine zn ?_|(refine fc (fun x hx hlt hc=>?_) (fun hk hc=>?_)<;>(try rw[hc])<;>clear hc)|refine Pure.use (lW _ (by omega)) ?_|refine Pure.use (pT _ _) ?_|(refine zd (fun hc=>?_) (fun hc=>?_)<;>try exact⟨⟩)|fail)<;>conv=>whnf)
 .exact AG (by simp only[BE];rw[hn,drop_cons hx,Ck];simp;intros;omega)
 .have hms:n+(x.AI.length:Int)+Br (p.AO.drop (k+1))=Br p.AO:=by
   rw[drop_cons hx]at hn1;simp only[Br,CK,List.sum_cons]at hn1 ⊢;omega
  have hsl:=(hP.2 x (B6 hx)).2.1
  have hn':Ck 0 p.AO=(MF n x.AI&&Ck (n+x.AI.length) (p.AO.drop (k+1))):=by
   have a1:x.AI.length<=4:=by omega
   have a2:x.parents.length<=3:=by omega
   rw[hn,drop_cons hx,Ck];simp only[a1,a2,decide_true,Cc]
  revert x
  rintro c hx hcs h3 hms hsl hn';refine B4 c.AI.length (fun j (m:Int)=>[(3,eI m),(6,eI (A7 j))]) (fun _ _=>[]) (fun j m=>Ck 0 p.AO=(MF m (c.AI.drop j)&&Ck (n+c.AI.length) (p.AO.drop (k+1)))/\m=n+j) n rfl ⟨hn',by simp⟩ Sat.nil ?_;rintro j m Z hj ⟨hm,he⟩ hs
  conv=>whnf
  repeat'((first|clear U K|apply st|(apply zk;intro K U)|refine zn ?_|(refine fc (fun x hx hlt hc=>?_) (fun hk hc=>?_)<;>(try rw[hc])<;>clear hc)|refine za (fun hc=>?_) fun hc=>?_|fail)<;>conv=>whnf)
  .exact AG (by simp only[BE];rw[hm,drop_cons (by assumption),MF];simp[hc])
  .refine⟨hlt,_,rfl,⟨?_,?_⟩,hs⟩
   .rw[hm,drop_cons (by assumption),MF,wrap64 (by omega) (by omega)];simp[hc]
   .rw[wrap64 (by omega) (by omega)];omega
  .refine⟨by assumption,m,rfl,⟨?_,by omega,by omega,by omega⟩,hs⟩
   rw[hm,Aj (by assumption),MF,Cc,he];congr 1;omega
 .exact AG (by simp only[BE];rw[hn,drop_cons hx,Ck];simp;intros;omega)
 .have hne:n=Br p.AO:=by rw[Aj hk]at hn1;simpa[Br]using hn1
  exact AG (by simp only[BE];rw[hc];simp)
 .have hne:n=Br p.AO:=by rw[Aj hk]at hn1;simpa[Br]using hn1
  have hsb:Ck 0 p.AO=true:=by rw[hn,Aj hk];rfl
  have hms:=(Fj _ _ hsb).1;have hok:=Qs h10 hsb hc
  have hcb:BE p=Gr (AH p) n 0 p.AO:=by
   simp only[BE,hsb,hc,<-hne];simp[*]
  refine(UG p hP (by omega) (by omega)).use ?_
  conv=>whnf
  repeat'((first|clear U K|apply st|(apply zk;intro K U)|refine zr fun Z hs=>?_|refine zp fun nn hnn Z hs=>?_|fail)<;>conv=>whnf)
  refine B4 p.AO.length (fun k (_:Unit)=>[(9,eI (A7 k))]) (fun _ _=>[.box nn (A5 (AH p))]) (fun k _=>BE p=Gr (AH p) n k (p.AO.drop k)) () rfl (by rw[hcb];rfl) hs ?_;rintro k - Z hk hn hs
  conv=>whnf
  repeat'((first|clear U K|apply st|(apply zk;intro K U)|refine zn ?_|(refine fc (fun x hx hlt hc=>?_) (fun hk hc=>?_)<;>(try rw[hc])<;>clear hc)|fail)<;>conv=>whnf)
  .have e3 : IntKind.i64.wrap (A7 k+3)=(k:Int)+3:=by rw[AS (by omega),wrap64 (by omega) (by omega)]
   rw[e3];have hgl:(Ay p).length=p.AO.length:=by simp[Ay]
   refine(tr (Ay p) false ((k:Int)+3) (D6 hc) (by omega) (by omega)).use ?_
   conv=>whnf
   repeat'((first|clear U K|apply st|(apply zk;intro K U)|refine zn ?_|refine za (fun hc=>?_) fun hc=>?_|fail)<;>conv=>whnf)
   .have hlb:nG (AH p).parents ((k:Int)+3)=false:=by
     show(!((B9 (Ay p)).getD ((k:Int)+3).toNat []).isEmpty)=false;rw[hc];rfl
    exact AG (by rw[hn,drop_cons hx,Gr,hlb];rfl)
   .have hil:=(hP.2 x (B6 hx)).2.2
    have hn':BE p=(ES (AH p) ((k:Int)+3) n [] x.inits&&Gr (AH p) n (k+1) (p.AO.drop (k+1))):=by
     have hlb:nG (AH p).parents ((k:Int)+3)=true:=by
      show(!((B9 (Ay p)).getD ((k:Int)+3).toNat []).isEmpty)=true;rw[hc];rfl
     rw[hn,drop_cons hx,Gr,hlb];rfl
    revert x
    rintro c hx hil hn';refine B4 c.inits.length (fun j (_:Unit)=>[(14,eI (A7 j))]) (fun _ _=>[.box nn (A5 (AH p))]) (fun j _=>BE p=(ES (AH p) ((k:Int)+3) n (c.inits.take j) (c.inits.drop j)&&Gr (AH p) n (k+1) (p.AO.drop (k+1)))) () rfl (by rw[hn'];rfl) hs ?_;rintro j - Z hj hm hs
    conv=>whnf
    repeat'((first|clear U K|apply st|(apply zk;intro K U)|refine zn ?_|(refine fc (fun x hx hlt hc=>?_) (fun hk hc=>?_)<;>(try rw[hc])<;>clear hc)|refine za (fun hc=>?_) fun hc=>?_|fail)<;>conv=>whnf)
    .refine(uE (AH p) ((k:Int)+3) x.1 hok (by omega) (by rw[show(AH p).parents=Ay p from rfl];omega) (by omega) (by rw[show(AH p).owner=BN 0 p.AO from rfl,CV];omega)).use ?_
     conv=>whnf
     repeat'((first|clear U K|apply st|(apply zk;intro K U)|refine zn ?_|refine Pure.use (q9 _) ?_|refine za (fun hc=>?_) fun hc=>?_|fail)<;>conv=>whnf)
     .exact AG (by rw[hm,drop_cons hx,ES];simp[*])
     .have hm':BE p=((c.inits.take j).all (fun y=>y.1 != x.1)&&(ES (AH p) ((k:Int)+3) n (c.inits.take (j+1)) (c.inits.drop (j+1))&&Gr (AH p) n (k+1) (p.AO.drop (k+1)))):=by
       have b1:decide (0<=x.1)=true:=decide_eq_true (by assumption);have b2:decide (x.1<n)=true:=decide_eq_true (by assumption);rw[hm,drop_cons hx,ES,AU hx,b1,b2,‹hasB _ _ _=true›,hc];simp only[Cc,Bool.and_assoc]
      revert x
      rintro x hxj hx0 hx1 hhb hbt hm';refine B4 j (fun i (_:Unit)=>[(15,eI (A7 i))]) (fun _ _=>[.box nn (A5 (AH p))]) (fun i _=>BE p=(((c.inits.take j).drop i).all (fun y=>y.1 != x.1)&&(ES (AH p) ((k:Int)+3) n (c.inits.take (j+1)) (c.inits.drop (j+1))&&Gr (AH p) n (k+1) (p.AO.drop (k+1))))) () rfl (by rw[hm'];rfl) hs ?_;rintro i - Z hi hl hs;rcases Nat.lt_or_ge i j with hij|hij
      .obtain⟨y,hy⟩: ∃y,c.inits[i]? =some y:=⟨_,Cd (by omega)⟩
       have hy':(c.inits.take j)[i]? =some y:=by rw[List.getElem?_take,if_pos hij,hy]
       conv=>whnf
       repeat'((first|clear U K|apply st|(apply zk;intro K U)|refine zn ?_|(refine zb (fun hc=>?_) (fun hc=>?_)<;>try exact⟨⟩)|fail)<;>conv=>whnf)
       .exact AG (by rw[hl,drop_cons hy',Ri,hc];simp)
       .refine⟨hij,(),rfl,?_,hs⟩
        have hc':(y.1 != x.1)=true:=by simpa using hc
        rw[hl,drop_cons hy',Ri,hc',Cc]
      .conv=>whnf
       repeat'((first|clear U K|apply st|(apply zk;intro K U)|refine zn ?_|(refine zb (fun hc=>?_) (fun hc=>?_)<;>try exact⟨⟩)|fail)<;>conv=>whnf)
       refine⟨by assumption,(),rfl,?_,hs⟩;rw[hl,List.drop_of_length_le (by rw[Je];omega),List.all_nil,Cc]
     .exact AG (by rw[hm,drop_cons hx,ES];simp[*])
    .exact AG (by rw[hm,drop_cons hx,ES];simp;intros;omega)
    .exact AG (by rw[hm,drop_cons hx,ES];simp;intros;omega)
    .refine⟨by assumption,(),rfl,?_,hs⟩
     rw[hm,Aj hk,ES,Cc]
  .exact AG (by rw[hn,Aj hk];rfl)
 .have hne:n=Br p.AO:=by rw[Aj hk]at hn1;simpa[Br]using hn1
  exact AG (by simp only[BE];rw[<-hne];simp[hc])
def F6 (f:Int->Int->List Int->Option (List Int)) (op size:Int):Nat->List Int->List Int->Option (List Int)
 | _,[],s=>some s
 | i,k::r,s=>match f k (if op=9/\i=1 then size+1 else size) s with
   | none=>none
   | some s'=>F6 f op size (i+1) r s'
def EP (p:Prog) (next:Bool) (size:Int) (x:Node):Bool:=((x.kids.length:Int)==Jt p x)&&(NX p x size&&(x.op != 18||next))
def CM (p:Prog) (next:Bool):Nat->Int->Int->List Int->Option (List Int)
 | 0,_,_,_=>none
 | d+1,n,size,s=>
   if n<0\/(p.nodes.length:Int)<=n\/0<=s.getD n.toNat 0 then none else
   match p.nodes[n.toNat]? with
   | none=>none
   | some x=>if EP p next size x then F6 (CM p next d) x.op size 0 x.kids (s.set n.toNat size)else none
def Vv (v:V) (s:List Int) (o:Option (List Int)) (r:R) (post:List At):Prop:=
 ∃s':List Int,s'.length=s.length/\post= [.own v 1 (iL s')]/\((o=some s'/\r= .ret (.b true))\/(o=none/\r= .ret (.b false)))
def Pw {v:V} {s s':List Int} {o:Option (List Int)} {Z:AE} {rest:List At} (hs:Sat Z (.own v 1 (iL s')::rest)) (hl:s'.length=s.length) (ho:o=none):Ag Z (.b false) fun r Z'=> ∃post,Vv v s o r post/\Sat Z' post:=
 Au hs (.cons₂ _ (Oq _)) (.refl _) fun Z' hs'=>⟨_,⟨s',hl,rfl,.inr ⟨ho,rfl⟩⟩,hs'⟩
def iU {p:Prog} (h:Fc (.a (BF p))) {x:Node} (hx:x∈p.nodes):x.kids.length<=Ab:=by
 simp only[BF,J0,Ey,Gw,J9]at h
 have h2:It (JN x):=by
  first|exact h.2.2.2.2.1.2 x hx|exact h.2.2.2.2.2.1.2 x hx|exact h.2.2.2.1.2 x hx|exact h.2.2.1.2 x hx|exact h.2.1.2 x hx
 simp only[JN,Ey,Gw,Bc]at h2
 first|exact h2.2.2.1.1|exact h2.2.2.1|exact h2.1
def O7 {p:Prog} {next:Bool} {d:Nat} {n size:Int} {s:List Int} {x:Node} {y:Int} (h0:0<=n) (h1:n<(p.nodes.length:Int)) (hs:s[n.toNat]? =some y) (hy:y<0) (hx:p.nodes[n.toNat]? =some x) :
    CM p next (d+1) n size s=if EP p next size x then F6 (CM p next d) x.op size 0 x.kids (s.set n.toNat size)else none:=by
 have e:s.getD n.toNat 0=y:=by rw[Cq,hs];rfl
 simp only[CM];rw[if_neg (by rw[e];omega),hx]
def Nr {p:Prog} {next:Bool} {d:Nat} {n size:Int} {s:List Int} (h:n<0\/(p.nodes.length:Int)<=n\/0<=s.getD n.toNat 0):CM p next (d+1) n size s=none:=by
 simp only[CM];rw[if_pos h]
def gg (p : Prog) (next:Bool): ∀d:Nat,d<=12-> ∀(n size depth:Int) (s:List Int) (v:V),depth=13 - d->0<=size->size+d<=100->s.length=p.nodes.length->(Bi v).isSome=true->
    BL zP 173 [.a (BF p),eI n,eI size,eI depth,.b next,v] [.own v 1 (iL s)] (Vv v s (CM p next d n size s)):=by
 intro d
 induction d with
 | zero=>
   intro _ n size depth s v hd h0 h1 hl hv Z hs;refine As.fit (by kernel_rfl) fun hf=>?_
   have⟨p1,p2,p3,p4⟩:=Gq hf.1;have hM:=Mx;refine jD kZ ?_
   conv=>whnf
   repeat'((first|clear U K|apply st|(apply zk;intro K U)|refine zn ?_|refine ze fun x hx=>?_|(refine zb (fun hc=>?_) (fun hc=>?_)<;>try exact⟨⟩)|fail)<;>conv=>whnf)
   all_goals exact Au hs (.refl _) (.refl _) fun Z' hs'=>⟨_,⟨s,rfl,rfl,.inr ⟨rfl,rfl⟩⟩,hs'⟩
 | succ d ih =>
   intro hd12 n size depth s v hd h0 h1 hl hv Z hs;refine As.fit (by kernel_rfl) fun hf=>?_
   have⟨p1,p2,p3,p4⟩:=Gq hf.1;have hM:=Mx;refine jD kZ ?_
   conv=>whnf
   repeat'((first|clear U K|apply st|(apply zk;intro K U)|refine zn ?_|refine rk ?_ ?_|exact fun s e=>by cases e;rfl|refine ze fun x hx=>?_|refine zr fun Z hs=>?_|refine Pure.use (o9 _ _) ?_|refine Pure.use (da _ _ _) ?_|(refine zb (fun hc=>?_) (fun hc=>?_)<;>try exact⟨⟩)|refine zp fun nn hnn Z hs=>?_|fail)<;>conv=>whnf)
   .exact Pw hs (by simp) (by rw[O7 (by assumption) (by assumption) (by assumption) (by assumption) hx];simp[EP, *])
   rotate_left
   .cases hc
   rotate_left
   .exact Pw hs (by simp) (by rw[O7 (by assumption) (by assumption) (by assumption) (by assumption) hx];simp[EP, *])
   .exact Pw hs (by simp) (by rw[O7 (by assumption) (by assumption) (by assumption) (by assumption) hx];simp[EP, *])
   .exact Pw hs rfl (Nr (.inr (.inr (by rw[Cq,hx];exact hc))))
   .exact Pw hs rfl (Nr (.inr (.inl hc)))
   .exact Pw hs rfl (Nr (.inl hc))
   all_goals
    have hW:CM p next (d+1) n size s=F6 (CM p next d) x.op size 0 x.kids (s.set n.toNat size):=by
     rw[O7 (by assumption) (by assumption) (by assumption) (by assumption) hx];simp[EP, *]
    rw[hW]
    rename Node=>nd
    refine B4 nd.kids.length (fun k (_:List Int)=>[(14,eI (A7 k))]) (fun _ s'=>[.own v 1 (iL s'),.obj nn (.cs (JN nd))]) (fun k s'=>s'.length=s.length/\F6 (CM p next d) nd.op size 0 nd.kids (s.set n.toNat size)=F6 (CM p next d) nd.op size k (nd.kids.drop k) s') (s.set n.toNat size) rfl ⟨by simp,by simp⟩ hs ?_;clear hs;rintro k s' Z hk ⟨hl',hkids⟩ hs;have hkm:=iU hf.1 (B6 hx);have hck:A7 k=k:=AS (by omega);by_cases hlt:k<nd.kids.length
    .obtain⟨kid,hkid⟩: ∃kid,nd.kids[k]? =some kid:=⟨_,Cd hlt⟩
     have hrec:=fun kid sz h0 h1=>ih (by omega) kid sz (depth+1) s' v (by omega) h0 h1 (by omega) hv
     conv=>whnf
     repeat'((first|clear U K|apply st|(apply zk;intro K U)|refine zn ?_|(refine fc (fun x hx hlt hc=>?_) (fun hk hc=>?_)<;>(try rw[hc])<;>clear hc)|(refine zb (fun hc=>?_) (fun hc=>?_)<;>try exact⟨⟩)|fail)<;>conv=>whnf)
     all_goals try(exfalso;omega)
     all_goals try refine Jm (enc:=fun i:Int=>[V.i .i64 i]) hkid hkm rfl ?_
     conv=>whnf
     all_goals try(exfalso;omega)
     all_goals
      have hK2:=hkids;rw[drop_cons hx,F6]at hK2
      first
       | rw[if_pos (by omega)]at hK2
         rw[wrap64 (by omega) (by omega),wrap64 (by omega) (by omega)];refine(hrec x (size+1) (by omega) (by omega)).use hs ?_
       | rw[if_neg (by omega)]at hK2
         rw[wrap64 (by omega) (by omega)];refine(hrec x size (by omega) (by omega)).use hs ?_
      rintro r post Z' ⟨s2,hl2,rfl,⟨ho,rfl⟩|⟨ho,rfl⟩⟩ hs
      .rw[ho]at hK2
       conv=>whnf
       repeat'((first|clear U K|apply st|(apply zk;intro K U)|refine zn ?_|(refine zd (fun hc=>?_) (fun hc=>?_)<;>try exact⟨⟩)|fail)<;>conv=>whnf)
       all_goals first|(exfalso;cases hc;done)|exact⟨hlt,s2,rfl,⟨by omega,hK2⟩,hs⟩
      .rw[ho]at hK2
       conv=>whnf
       repeat'((first|clear U K|apply st|(apply zk;intro K U)|refine zn ?_|(refine zd (fun hc=>?_) (fun hc=>?_)<;>try exact⟨⟩)|fail)<;>conv=>whnf)
       all_goals first|exact Pw hs (by omega) hK2|(exfalso;cases hc;done)
    .have hke:k=nd.kids.length:=by omega
     conv=>whnf
     repeat'((first|clear U K|apply st|(apply zk;intro K U)|refine zn ?_|(refine fc (fun x hx hlt hc=>?_) (fun hk hc=>?_)<;>(try rw[hc])<;>clear hc)|(refine zb (fun hc=>?_) (fun hc=>?_)<;>try exact⟨⟩)|fail)<;>conv=>whnf)
     all_goals try(exfalso;omega)
     rw[hke,Aj rfl]at hkids;exact Au hs (.cons₂ _ (Oq _)) (.refl _) fun Z' hs'=>⟨_,⟨s',hl',rfl,.inl ⟨(by first|rw[hW,hkids,F6]|rw[hkids,F6]),rfl⟩⟩,hs'⟩
def RE {w:AF} (f:Fact):Ae w f=true->Pz f=true:=by
 induction f using Fact.ind with
 | h f ih=>
   intro h;rw[BS]at h;simp only[CE,A4,Cu,B7]at h;rw[M9];simp only[A4,B7,List.all_map,Cu,Function.comp_apply,id];exact⟨⟨h.1.2.2.1,h.1.2.2.2.1⟩,fun k hk=>ih k hk (h.2 k hk)⟩
def PZ (p:Prog) (m:MJ):Bool:=decide (1<=m.kind)&&(decide (m.kind<=4)&&(decide (0<=m.gen)&&(decide (m.gen<(p.Ce.length:Int))&&(Ba (AH p) m.fact&&decide (Cj m.fact<=p.Ce.getD m.gen.toNat 0)))))
def runM (p:Prog):List MJ->List Int->Option (List Int)
 | [],s=>some s
 | m::r,s=>if PZ p m then match CM p (LJ m.kind) 12 m.node (p.Ce.getD m.gen.toNat 0) s with
   | none=>none
   | some s'=>runM p r s' else none
def C8 (p:Prog):Bool:=BE p&&(decide (p.Ce.length<=8)&&(decide (p.methods.length<=16)&&(decide (1<=p.nodes.length)&&(decide (p.nodes.length<=120)&&p.Ce.all fun g=>decide (1<=g)&&decide (g<=3)))))
def BQ (p:Prog):Option (List Int):=if C8 p then match runM p p.methods (List.replicate p.nodes.length (-1))with
 | none=>none
 | some s=>match CM p false 12 p.main 0 s with
   | none=>none
   | some s=>if s.all fun n=>decide (0<=n)then some s else none else none
def LK (p:Prog):Option (List Int)->Option (List Int)
 | none=>none
 | some s=>match CM p false 12 p.main 0 s with
   | none=>none
   | some s=>if s.all fun n=>decide (0<=n)then some s else none
def ON (p:Prog):V:=match BQ p with
 | none=> .t [.l [] true,.b false]
 | some s=> .t [.l (iL s) false,.b true]
def qw {p:Prog} (h:BQ p=none):ON p= .t [.l [] true,.b false]:=by simp only[ON,h]
def zf {p:Prog} (h:C8 p=false):ON p= .t [.l [] true,.b false]:=qw (by unfold BQ;rw[h];rfl)
def MQ {p:Prog} {Z:AE} (h:BQ p=none):Ag Z (.t [.l [] true,.b false]) fun r Z'=>r=R.ret (ON p)/\Z'=emp:=by
 rw[qw h];exact AG rfl
def Pv {p:Prog} {Z:AE} (h:C8 p=false):Ag Z (.t [.l [] true,.b false]) fun r Z'=>r=R.ret (ON p)/\Z'=emp:=by
 rw[zf h];exact AG rfl
def ak {p:Prog} (h:C8 p=true):BQ p=LK p (runM p p.methods (List.replicate p.nodes.length (-1))):=by
 unfold BQ;rw[if_pos h];rfl
def Dc {p:Prog} {k:Nat} {x:MJ} {s:List Int} (hx:p.methods[k]? =some x) (hn:BQ p=LK p (runM p (p.methods.drop k) s)) (hok:PZ p x=false):BQ p=none:=by
 rw[hn,drop_cons hx,runM,if_neg (by simp[hok])];rfl
def Sk {p:Prog} {k:Nat} {x:MJ} {s:List Int} (hx:p.methods[k]? =some x) (hn:BQ p=LK p (runM p (p.methods.drop k) s)) (hok:PZ p x=true) (hw:CM p (LJ x.kind) 12 x.node (p.Ce.getD x.gen.toNat 0) s=none):BQ p=none:=by
 rw[hn,drop_cons hx,runM,if_pos hok,hw];rfl
def aB {p:Prog} {k:Nat} {x:MJ} {s s':List Int} (hx:p.methods[k]? =some x) (hn:BQ p=LK p (runM p (p.methods.drop k) s)) (hok:PZ p x=true) (hw:CM p (LJ x.kind) 12 x.node (p.Ce.getD x.gen.toNat 0) s=some s'):BQ p=LK p (runM p (p.methods.drop (k+1)) s'):=by
 rw[hn,drop_cons hx,runM,if_pos hok,hw]
def S5 {p:Prog} (h:C8 p=true) {k:Nat} {x:Int} (hx:p.Ce[k]? =some x):1<=x/\x<=3:=by
 simp only[C8,A4,Cu,B7]at h;exact h.2.2.2.2.2 x (B6 hx)
def tk (p:Prog):Pure zP 90 [.a (BF p)] (ON p):=by
 refine Pure.fit (by kernel_rfl) fun hf=>?_
 have⟨p1,p2,p3,p4⟩:=Gq hf.1;have hM:=Mx;refine AAM kZ ?_;have hs:=Sn
 conv=>whnf
 repeat'((first|apply st|(apply sq;intro K U)|(apply si;intro A B hA hB)|(refine hA _ _ ?_;clear hB B hA A)|(apply U;clear U K)|refine⟨rfl,?_⟩|refine⟨kZ,?_⟩|refine Pure.use (eg _) ?_|(constructor<;>intro hc<;>(try rw[hc])<;>(replace hc:=bp hc)<;>(try simp(disch:=omega) only[Bc,wrap64,AS]at hc))|clear U K)<;>conv=>whnf)
 .exact Pv (by simp[C8];intros;omega)
 rotate_left
 .exact Pv (by simp[C8];intros;omega)
 .exact Pv (by simp[C8];intros;omega)
 .exact Pv (by simp[C8];intros;omega)
 .exact Pv (by simp[C8, *])
 have a1:p.Ce.length<=8:=by omega
 have a2:p.methods.length<=16:=by omega
 have a3:1<=p.nodes.length:=by omega
 have a4:p.nodes.length<=120:=by omega
 have hg:C8 p=p.Ce.all fun g=>decide (1<=g)&&decide (g<=3):=by
  simp only[C8,a1,a2,a3,a4,decide_true,Cc];simp[*]
 refine B4 p.Ce.length (fun k (_:Unit)=>[(4,eI (A7 k))]) (fun _ _=>[]) (fun k _=>C8 p=(p.Ce.drop k).all fun g=>decide (1<=g)&&decide (g<=3)) () rfl (by simpa using hg) hs ?_;clear hs;rintro k - Z hk hn hs
 conv=>whnf
 repeat'((first|apply st|(apply sq;intro K U)|(apply si;intro A B hA hB)|(refine hA _ _ ?_;clear hB B hA A)|(apply U;clear U K)|refine⟨rfl,?_⟩|refine ix ?_|(refine fc (fun x hx hlt hc=>?_) (fun hk hc=>?_)<;>(try rw[hc])<;>clear hc)|(constructor<;>intro hc<;>(try rw[hc])<;>(replace hc:=bp hc))|clear U K)<;>conv=>whnf)
 .exact Pv (by rw[hn,drop_cons hx];simp;intros;omega)
 .exact⟨hlt,(),rfl,by rw[hn,drop_cons hx];simp[*],hs⟩
 .exact Pv (by rw[hn,drop_cons hx];simp;intros;omega)
 have hh:C8 p=true:=by rw[hn,Aj hk];rfl
 have hP:=JM hf.1;have hcB:BE p=true:=by assumption
 have hsb:Ck 0 p.AO=true:=by simp only[BE,A4]at hcB;exact hcB.2.1
 have hc10:p.AO.length<=1000:=by simp only[BE,A4,B7]at hcB;omega
 have hmS:Br p.AO<=Ab:=by have:=(Fj _ _ hsb).1;simp only[BE,A4,B7]at hcB;omega
 have hL:=ak hh;clear hn hg;refine B4 p.nodes.length (fun j v=>[(5,v),(6,eI (A7 j))]) (fun j v=>[.own v 1 (iL (List.replicate j (-1)))]) (fun j v=>1<=j->(Bi v).isSome=true) (.l [] true) rfl (fun h=>by omega) (EY hs 1) ?_;clear hs;rintro j v Z hj hv hs
 conv=>whnf
 repeat'((first|apply st|(apply sq;intro K U)|(apply si;intro A B hA hB)|(refine hA _ _ ?_;clear hB B hA A)|(apply U;clear U K)|refine⟨rfl,?_⟩|refine⟨kZ,?_⟩|refine sn fun Z hs=>?_|refine aq fun v Z hs hsl=>?_|(refine fc (fun x hx hlt hc=>?_) (fun hk hc=>?_)<;>(try rw[hc])<;>clear hc)|refine Pure.use (UG _ (by assumption) (by omega) (by assumption)) ?_|(intro nn hnn;generalize hg:BZ _ nn _=Z;refine al hg fun hs=>?_;clear hg)|clear U K)<;>conv=>whnf)
 .exact⟨hlt,_,rfl,fun _=>hsl,by rw[List.replicate_succ'];exact hs⟩
 have hsv:=hv (by omega);subst hk;refine B4 p.methods.length (fun k (s:List Int)=>[(8,eI (A7 k))]) (fun _ s=>[.own v 1 (iL s),.box nn (A5 (AH p))]) (fun k s=>s.length=p.nodes.length/\BQ p=LK p (runM p (p.methods.drop k) s)) (List.replicate p.nodes.length (-1)) rfl ⟨by simp,hL⟩ hs ?_;clear hs;rintro k s Z hk ⟨hl,hn⟩ hs
 conv=>whnf
 repeat'((first|apply st|(apply sq;intro K U)|(apply si;intro A B hA hB)|(refine hA _ _ ?_;clear hB B hA A)|(apply U;clear U K)|apply dr|refine rk ?_ ?_|exact fun s e=>by cases e;rfl|refine⟨rfl,?_⟩|refine⟨kZ,?_⟩|refine ix ?_|refine iq fun x hx=>?_|refine ld ?_|refine sn fun Z hs=>?_|(refine fc (fun x hx hlt hc=>?_) (fun hk hc=>?_)<;>(try rw[hc])<;>clear hc)|refine Pure.use (lg _ _) ?_|(constructor<;>intro hc<;>(try rw[hc])<;>(replace hc:=bp hc)<;>(try simp(disch:=omega) only[Bc,wrap64,AS]at hc))|(intro nn hnn;generalize hg:BZ _ nn _=Z;refine al hg fun hs=>?_;clear hg)|clear U K)<;>conv=>whnf)
 rotate_left
 .exact MQ (Dc hx hn (by simp[PZ, *]))
 .exact MQ (Dc hx hn (by simp[PZ];intros;omega))
 .exact MQ (Dc hx hn (by simp[PZ];intros;omega))
 .exact MQ (Dc hx hn (by simp[PZ];intros;omega))
 .exact MQ (Dc hx hn (by simp[PZ];intros;omega))
 .refine(gg p false 12 (Ft _) p.main 0 1 s v rfl (by omega) (by omega) hl hsv).use hs ?_
  clear hs;rintro r post Z ⟨s2,hl2,rfl,⟨ho,rfl⟩|⟨ho,rfl⟩⟩ hs
  .conv=>whnf
   repeat'((first|apply st|(apply sq;intro K U)|(apply si;intro A B hA hB)|(refine hA _ _ ?_;clear hB B hA A)|(apply U;clear U K)|(constructor<;>intro hc<;>(try rw[hc])<;>(replace hc:=bp hc)<;>(try simp(disch:=omega) only[Bc,wrap64,AS]at hc))|clear U K)<;>conv=>whnf)
   .cases hc
   have hz:BQ p=if s2.all fun n=>decide (0<=n)then some s2 else none:=by rw[hn,Aj hk,runM,LK,ho]
   refine B4 s2.length (fun j (_:Unit)=>[(10,eI (A7 j))]) (fun _ _=>[.own v 1 (iL s2),.box nn (A5 (AH p))]) (fun j _=>BQ p=if(s2.drop j).all fun n=>decide (0<=n)then some s2 else none) () rfl hz hs ?_;clear hs;rintro j - Z hj hz hs
   conv=>whnf
   repeat'((first|apply st|(apply sq;intro K U)|(apply si;intro A B hA hB)|(refine hA _ _ ?_;clear hB B hA A)|(apply U;clear U K)|refine⟨rfl,?_⟩|refine oc ?_|refine ol fun x hx=>?_|(refine fc (fun x hx hlt hc=>?_) (fun hk hc=>?_)<;>(try rw[hc])<;>clear hc)|refine lo ?_|(constructor<;>intro hc<;>(try rw[hc])<;>(replace hc:=bp hc))|clear U K)<;>conv=>whnf)
   .exact MQ (by rw[hz,drop_cons hx,Ri,if_neg];simp;intros;omega)
   .exact⟨hlt,(),rfl,by rw[hz,drop_cons hx,Ri];simp[*],hs⟩
   .have hz2:BQ p=some s2:=by rw[hz,Aj (by assumption)];rfl
    simp only[ON,hz2];exact Af (.t (.cons (hs.MB 0 rfl) (.cons (.refl _) .nil)))
  .conv=>whnf
   repeat'((first|apply st|(apply sq;intro K U)|(apply si;intro A B hA hB)|(refine hA _ _ ?_;clear hB B hA A)|(apply U;clear U K)|(constructor<;>intro hc<;>(try rw[hc])<;>(replace hc:=bp hc)<;>(try simp(disch:=omega) only[Bc,wrap64,AS]at hc))|clear U K)<;>conv=>whnf)
   .exact MQ (by rw[hn,Aj hk,runM,LK,ho])
   .cases hc
 rename MJ=>m
 rename p.methods[k]? =some m=>hm
 refine(kD m.fact (RE _ (by(have:Ba (AH p) m.fact=true:=by assumption);simp only[Ba,A4]at this;exact this.2.2))).use ?_
 conv=>whnf
 repeat'((first|apply st|(apply sq;intro K U)|(apply si;intro A B hA hB)|(refine hA _ _ ?_;clear hB B hA A)|(apply U;clear U K)|apply dr|refine rk ?_ ?_|exact fun s e=>by cases e;rfl|refine⟨rfl,?_⟩|refine⟨kZ,?_⟩|refine iq fun x hx=>?_|refine ld ?_|refine Pure.use (tc _) ?_|(constructor<;>intro hc<;>(try rw[hc])<;>(replace hc:=bp hc))|clear U K)<;>conv=>whnf)
 .exact MQ (Dc hm hn (by simp[PZ,Cq,hx];intros;omega))
 obtain⟨hx1,hx3⟩:=S5 hh hx;have hgd:p.Ce.getD m.gen.toNat 0=x:=by rw[Cq,hx];rfl
 rename p.Ce[m.gen.toNat]? =some _=>hx2
 have hxe:=Option.some.inj (hx.symm.trans hx2);subst hxe;have hok:PZ p m=true:=by simp only[PZ,hgd,A4,B7];exact⟨by assumption,by omega,by assumption,by assumption,by assumption,by assumption⟩
 refine(gg p (LJ m.kind) 12 (Ft _) m.node x 1 s v rfl (by omega) (by omega) hl hsv).use (rest:=[_,_]) hs ?_;clear hs;rintro r post Z ⟨s2,hl2,rfl,⟨ho,rfl⟩|⟨ho,rfl⟩⟩ hs
 .conv=>whnf
  repeat'((first|apply st|(apply sq;intro K U)|(apply si;intro A B hA hB)|(refine hA _ _ ?_;clear hB B hA A)|(apply U;clear U K)|apply dr|refine⟨rfl,?_⟩|(constructor<;>intro hc<;>(try rw[hc])<;>(replace hc:=bp hc)<;>(try simp(disch:=omega) only[Bc,wrap64,AS]at hc))|clear U K)<;>conv=>whnf)
  .cases hc
  .exact⟨by assumption,s2,rfl,⟨by omega,aB hm hn hok (by rw[hgd];exact ho)⟩,hs.less (.cons₂ _ (.cons₂ _ (Oq _)))⟩
 .conv=>whnf
  repeat'((first|apply st|(apply sq;intro K U)|(apply si;intro A B hA hB)|(refine hA _ _ ?_;clear hB B hA A)|(apply U;clear U K)|apply dr|refine⟨rfl,?_⟩|(constructor<;>intro hc<;>(try rw[hc])<;>(replace hc:=bp hc)<;>(try simp(disch:=omega) only[Bc,wrap64,AS]at hc))|clear U K)<;>conv=>whnf)
  .exact MQ (Sk hm hn hok (by rw[hgd];exact ho))
  .cases hc
def tA (p:Prog):Pure zP 25 [.a (BF p)] (.b (BQ p).isSome):=by
 refine AAo kZ ?_;have h:=tk p;unfold ON at h;cases hl:BQ p with
 | none=>
   rw[hl]at h
   conv=>whnf
   repeat'((first|clear U K|apply st|(apply zk;intro K U)|refine zn ?_|refine zC ?_|fail)<;>conv=>whnf)
   all_goals exact AG (by first|rfl|simp)
 | some s=>
   rw[hl]at h
   conv=>whnf
   repeat'((first|clear U K|apply st|(apply zk;intro K U)|refine zn ?_|refine zC ?_|fail)<;>conv=>whnf)
   all_goals exact AG (by first|rfl|simp)
def I4 (xs ys:List Int) (f g:Bool):Pure zP 34 [.l (iL xs) f,.l (iL ys) g] (.b (xs==ys)):=by
 refine Pure.fit (by kernel_rfl) fun hf=>?_
 have hx:=OR hf.1;have hy:=OR hf.2.1;have hM:=Mx;refine AAl kZ ?_;have hs:=Sn
 conv=>whnf
 repeat'((first|clear U K|apply st|(apply zk;intro K U)|refine zn ?_|(refine zd (fun hc=>?_) (fun hc=>?_)<;>try exact⟨⟩)|fail)<;>conv=>whnf)
 .exact AG (by(have:(xs==ys)=false:=by(simp;intro e;subst e;simp at hc));rw[this])
 have hl:xs.length=ys.length:=by omega
 refine B4 xs.length (fun k (_:Unit)=>[(13,eI (A7 k))]) (fun _ _=>[]) (fun k _=>(xs==ys)=(xs.drop k==ys.drop k)) () rfl rfl Sat.nil ?_;clear hs;rintro k - Z hk hn hs;by_cases hlt:k<xs.length
 .obtain⟨y,hyk⟩: ∃y,ys[k]? =some y:=⟨_,Cd (by omega)⟩
  conv=>whnf
  repeat'((first|clear U K|apply st|(apply zk;intro K U)|refine zn ?_|(refine fc (fun x hx hlt hc=>?_) (fun hk hc=>?_)<;>(try rw[hc])<;>clear hc)|refine za (fun hc=>?_) fun hc=>?_|fail)<;>conv=>whnf)
  .exact AG (by rw[hn,drop_cons hx,drop_cons hyk];simp[hc])
  .exact⟨hlt,(),rfl,by rw[hn,drop_cons hx,drop_cons hyk,hc];simp,hs⟩
  .omega
 .conv=>whnf
  repeat'((first|clear U K|apply st|(apply zk;intro K U)|refine zn ?_|refine ze fun x hx=>?_|(refine fc (fun x hx hlt hc=>?_) (fun hk hc=>?_)<;>(try rw[hc])<;>clear hc)|(refine zb (fun hc=>?_) (fun hc=>?_)<;>try exact⟨⟩)|fail)<;>conv=>whnf)
  exact AG (by rw[hn,Aj hk,Aj (by omega)];rfl)
def Jn:List (Fact->Bool)->List Fact->Bool
 | h::r,k::s=>h k&&Jn r s
 | _,_=>true
def qi (f:Fact) (l:List (Fact->Bool)) (g:Fact):Bool:=f.op==g.op&&(f.arg==g.arg&&(f.cls==g.cls&&(f.n==g.n&&(f.path==g.path&&(f.kids.length==g.kids.length&&Jn l g.kids)))))
def CW (f:Fact):Fact->Bool:=f.Fe qi
def J5 (f g:Fact):CW f g=(f.op==g.op&&(f.arg==g.arg&&(f.cls==g.cls&&(f.n==g.n&&(f.path==g.path&&(f.kids.length==g.kids.length&&Jn (f.kids.map CW) g.kids)))))):=congrFun (Fact.CJ qi f) g
def XE {xs ys:List Fact} (h: ∀x∈xs,∀y,CW x y=true↔x=y) (hl:xs.length=ys.length):Jn (xs.map CW) ys=true↔xs=ys:=by
 induction xs generalizing ys with
 | nil=>cases ys with
   | nil=>simp[Jn]
   | cons _ _=>simp at hl
 | cons x r ih=>cases ys with
   | nil=>simp at hl
   | cons y s=>
     simp only[CK,Jn,A4,List.cons.injEq];rw[h x (.head _) y,ih (fun x hx=>h x (.tail _ hx)) (by simpa using hl)]
def Ev (f g:Fact):CW f g=true↔f=g:=by
 induction f using Fact.ind generalizing g with
 | h f ih=>
   rw[J5];cases f with
   | mk o a p c n k=>cases g with
     | mk o' a' p' c' n' k'=>
       simp only[Fact.op,Fact.arg,Fact.cls,Fact.n,Fact.path,Fact.kids,A4,CF,Fact.mk.injEq]at *;constructor
       .rintro⟨rfl,rfl,rfl,rfl,rfl,hl,h⟩
        exact⟨rfl,rfl,rfl,rfl,rfl,(XE (fun x hx y=>ih x hx y) hl).1 h⟩
       .rintro⟨rfl,rfl,rfl,rfl,rfl,rfl⟩
        exact⟨rfl,rfl,rfl,rfl,rfl,rfl,(XE (fun x hx y=>ih x hx y) rfl).2 rfl⟩
def Z9 (f g:Fact):Pure zP 45 [.a (xF f),.a (xF g)] (.b (CW f g)):=by
 induction f using Fact.ind generalizing g with
 | h f ih=>
   refine Pure.fit (by kernel_rfl) fun hf=>?_
   have⟨h2,h3,h4⟩:=JL hf.1;have⟨g2,g3,g4⟩:=JL hf.2.1;have hM:=Mx;refine AAh kZ ?_;have hs:=Sn
   conv=>whnf
   repeat'((first|clear U K|apply st|(apply zk;intro K U)|refine zn ?_|refine Pure.use (I4 _ _ _ _) ?_|(refine zd (fun hc=>?_) (fun hc=>?_)<;>try exact⟨⟩)|fail)<;>conv=>whnf)
   rotate_left
   all_goals try exact AG (by rw[J5];simp[*]<;>omega)
   rotate_left
   .have hkl:f.kids.length=g.kids.length:=by omega
    refine B4 f.kids.length (fun k (_:Unit)=>[(52,eI (A7 k))]) (fun _ _=>[]) (fun k _=>CW f g=Jn ((f.kids.drop k).map CW) (g.kids.drop k)) () rfl (by rw[J5];simp[*]) Sat.nil ?_;clear hs;rintro k - Z hk hn hs;by_cases hlt:k<f.kids.length
    .obtain⟨y,hyk⟩: ∃y,g.kids[k]? =some y:=⟨_,Cd (by omega)⟩
     conv=>whnf
     repeat'((first|clear U K|apply st|(apply zk;intro K U)|refine zn ?_|(refine fc (fun x hx hlt hc=>?_) (fun hk hc=>?_)<;>(try rw[hc])<;>clear hc)|fail)<;>conv=>whnf)
     .refine(ih x (B6 hx) y).use ?_
      conv=>whnf
      repeat'((first|clear U K|apply st|(apply zk;intro K U)|refine zn ?_|refine za (fun hc=>?_) fun hc=>?_|fail)<;>conv=>whnf)
      .exact AG (by rw[hn,drop_cons hx,drop_cons hyk,CK,Jn,hc];rfl)
      .exact⟨hlt,(),rfl,by rw[hn,drop_cons hx,drop_cons hyk,CK,Jn,hc];rfl,hs⟩
     .omega
    .conv=>whnf
     repeat'((first|clear U K|apply st|(apply zk;intro K U)|refine zn ?_|refine ze fun x hx=>?_|(refine fc (fun x hx hlt hc=>?_) (fun hk hc=>?_)<;>(try rw[hc])<;>clear hc)|fail)<;>conv=>whnf)
     all_goals first|(exfalso;omega)|exact AG (by rw[hn,Aj hk];rfl)
def Ca (f:Fact):Fact:= .mk 5 0 [] 0 0 [f]
def Jd (f g:Fact):Fact:= .mk 6 0 [] 0 0 [f,g]
def tP (f:Fact):Pure zP 46 [.a (xF f)] (.a (xF (Ca f))):=by
 refine AAg kZ ?_;have hs:=Sn
 conv=>whnf
 repeat'((first|clear U K|apply st|(apply zk;intro K U)|refine zX ?_|refine zr fun Z hs=>?_|refine zp fun nn hnn Z hs=>?_|fail)<;>conv=>whnf)
 refine Af (.a (.cons (.refl _) (.cons (.refl _) (.cons Bm (.cons (.refl _) (.cons (.refl _) (.cons ?_ .nil)))))));refine .l (fun h=>by cases h) ?_;simp only[Ca,Fact.kids,List.map,BC];exact C2 _
def yE (f g:Fact):Pure zP 48 [.a (xF f),.a (xF g)] (.a (xF (Jd f g))):=by
 refine AAf kZ ?_;have hs:=Sn
 conv=>whnf
 repeat'((first|clear U K|apply st|(apply zk;intro K U)|refine zX ?_|refine zr fun Z hs=>?_|refine zp fun nn hnn Z hs=>?_|fail)<;>conv=>whnf)
 refine Af (.a (.cons (.refl _) (.cons (.refl _) (.cons Bm (.cons (.refl _) (.cons (.refl _) (.cons ?_ .nil)))))));refine .l (fun h=>by cases h) ?_;simp only[Jd,Fact.kids,List.map,BC];exact C2 _
def qx (l:Fact):Prop:=l.op=5->l.kids≠[]
def Ad (l:Fact):Fact×Bool:=if l.op=5 then(l.kids.headD default,true)else(l,false)
def Bn (path pre:List Int):Bool:=decide (pre.length<=path.length)&&path.take pre.length==pre
def Iq (a:Int) (p:List Int) (l:Fact):Bool:=(Ad l).1.arg==a&&(Ad l).1.path==p
def Eu (ls:List Fact) (a:Int) (p:List Int):Bool:=ls.all fun l=>(Ad l).2|| !((Ad l).1.arg==a&&Bn (Ad l).1.path p)
def Aw (n:Nat):List Int:=(List.range n).map Int.ofNat
def KG (n:Nat):Aw (n+1)=Aw n++[(n:Int)]:=by simp[Aw,List.range_succ]
def G1 (n:Nat):(Aw n).length=n:=by simp[Aw]
def qb (a:Int) (p:List Int) (s:Int) (l:Fact):Bool:=(Ad l).1.arg==a&&Bn (Ad l).1.path (p++[s])
def CN (n:Nat) (ls:List Fact) (a:Int) (p:List Int):List Int:=(Aw n).filter fun s=>ls.any (qb a p s)
def HV (n:Nat) (ls:List Fact) (a:Int) (p:List Int):Bool:=(CN n ls a p).all fun s=>Eu ls a (p++[s])
def YL (ls:List Fact):Prop:= ∀l∈ls,-1000000000<=(Ad l).1.n/\(Ad l).1.n<=1000000000
def VX (x:Fact×Bool) (t:Int×Int×List Int):Option (Int×Int×List Int):=
 if x.1.op=2 then if decide (x.1.cls > 1) != x.2 then none else some t
 else if x.1.op=3 then(if x.2 then some (if x.1.n > t.1 then x.1.n else t.1,t.2.1,t.2.2)else some (t.1,if x.1.n - 1<t.2.1 then x.1.n - 1 else t.2.1,t.2.2))
 else if x.2 then some (t.1,t.2.1,t.2.2++[x.1.n])else some (if x.1.n > t.1 then x.1.n else t.1,if x.1.n<t.2.1 then x.1.n else t.2.1,t.2.2)
def foldI:List Fact->Int×Int×List Int->Option (Int×Int×List Int)
 | [],t=>some t
 | x::r,t=>(VX (Ad x) t).bind (foldI r)
def fS (no:List Int):Nat->Int->Option Int
 | 0,_=>none
 | k+1,n=>if no.all (· != n)then some n else fS no k (n+1)
def VY (t:Int×Int×List Int):Option Int:=fS t.2.2 (t.2.1+1 - t.1).toNat t.1
def t0:Int×Int×List Int:=(-1000000000,1000000000,[])
def NY (ls:List Fact) (a:Int) (p:List Int):Option Int:=(foldI (ls.filter (Iq a p)) t0).bind VY
def SI (x:Fact×Bool):Bool:=((x.1.op==2&&(x.1.cls==0||x.1.cls==2))==x.2)
def Jr (n:Nat) (ls:List Fact) (a:Int) (p:List Int):Bool:=(ls.filter (Iq a p)).all (fun l=> !SI (Ad l))&&HV n ls a p
end Go.Gl
