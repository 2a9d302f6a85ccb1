import Derived.Test.YtcfkfhaedllcpaaGreatW13
import Derived.Test.YtcfkfhaedllcpaaGreatW14
import Derived.Test.YtcfkfhaedllcpaaGreatW16
import Derived.Test.YtcfkfhaedllcpaaGreatW17
import Derived.Test.YtcfkfhaedllcpaaGreatW18
set_option linter.all false
set_option linter.defProp false
set_option maxHeartbeats 8000000
noncomputable section
namespace Go.Gl
open Go.Proofs
attribute [local irreducible] A3 Aq Af AR AJ Ad AQ AT AK Ac AM AN Ax A5 Sat AX A4 Ah W
def LL:Int->List Int->Bool
 | _,[]=>true
 | n,s::r=>s==n&&LL (n+1) r
def Cg:Int->List Qz->Bool
 | _,[]=>true
 | n,c::r=>decide (c.AG.length<=4)&&(decide (c.parents.length<=3)&&(LL n c.AG&&Cg (n+c.AG.length) r))
def D2 (w:AI) (c n:Int):List (Int×Int)->List (Int×Int)->Bool
 | _,[]=>true
 | pre,x::r=>decide (0<=x.1)&&(decide (x.1<n)&&(hasB w c x.1&&(TI x.2&&(pre.all (fun y=>y.1 != x.1)&&D2 w c n (pre++[x]) r))))
def kN (g:List (List Int)) (c:Int):Bool:= !((Bz g).getD c.toNat []).isEmpty
def GA (w:AI) (n:Int):Nat->List Qz->Bool
 | _,[]=>true
 | i,c::r=>kN w.parents ((i:Int)+3)&&(D2 w ((i:Int)+3) n [] c.inits&&GA w n (i+1) r)
def A6 (p:Prog):Bool:=decide (p.AH.length<=10)&&(Cg 0 p.AH&&((Bj p.AH:Int)==p.AG&&(Dd (Ay p)&&GA (AS p) (Bj p.AH) 0 p.AH)))
def xL {c:Qz} (h:Hn (Q6 c)):c.parents.length<=AY/\c.AG.length<=AY/\c.inits.length<=AY:=by
 simp only[Q6,DQ,Gx,BU]at h;exact⟨h.1.1,h.2.1.1,h.2.2.1.1⟩
def Nw {p:Prog} (h:E0 (.a (A9 p))):pw p:=by
 refine⟨(Fk h).1,fun c hc=>?_⟩;simp only[A9,Gy,DQ,Gx,JH]at h;exact xL (h.1.2 c hc)
def iw (p:Prog) (hk0:p.AH.length<=1000):Pure zP 158 [.a (A9 p)] (.l (Ee (Ay p)) false):=Pure.fit (by kernel_rfl) fun hf=>Zj p (Nw hf.1) hk0
def FI: ∀(cs:List Qz) (n:Int),Cg n cs=true->Bj cs<=4*cs.length/\ ∀c∈cs,c.parents.length<=3/\c.AG.length<=4
 | [],_,_=>⟨Io _,fun _ h=>by cases h⟩
 | c::r,n,h=>by
   simp only[Cg,BD,CN]at h;have⟨h1,h2⟩:=FI r _ h.2.2.2;refine⟨by simp only[Bj,Ex,List.sum_cons,LF]at *;omega,fun d hd=>?_⟩;rcases Fm.1 hd with rfl|hd
   .exact⟨h.2.1,h.1⟩
   .exact h2 d hd
def Sj {i:Nat}: ∀(r pre:List Int),Mo i pre r=true->pre.Nodup->(pre++r).Nodup/\ ∀c∈r,(3:Int)<=c/\c<3+(i:Int)
 | [],pre,_,h=>⟨by simpa using h,fun _ h=>by cases h⟩
 | c::r,pre,h,hn=>by
   simp only[Mo,pO,BD,CN,Bool.not_eq_true']at h;have hc:c∉pre:=by simpa using h.1.2.2
   obtain⟨h1,h2⟩:=Sj r (pre++[c]) h.2 (List.nodup_append.2 ⟨hn,by simp,fun a ha b hb=>by simp at hb;subst hb;exact fun e=>hc (e ▸ ha)⟩);refine⟨by simpa using h1,fun d hd=>?_⟩;rcases Fm.1 hd with rfl|hd
   .exact⟨h.1.1,h.1.2.1⟩
   .exact h2 d hd
def QD: ∀(g:List (List Int)) (k:Nat),IV k g=true-> ∀(i:Nat) (l:List Int),g[i]? =some l->l.length<=3/\l.Nodup/\ ∀c∈l,(3:Int)<=c/\c<3+((k+i:Nat):Int)
 | [],_,_,_,_,h=>by cases h
 | l ::r,k,h,i,l',hi=>by
   simp only[IV,BD,CN]at h;cases i with
   | zero=>
     simp at hi;subst hi;obtain⟨h1,h2⟩:=Sj l [] h.2.1 .nil;exact⟨h.1,by simpa using h1,by simpa using h2⟩
   | succ i=>
     simp at hi;have:=QD r (k+1) h.2.2 i l' hi;rw[show k+(i+1)=k+1+i by omega];exact this
def Dn {g:List (List Int)} (h:Dd g=true):Ia g:=by
 simp only[Dd,BD,CN]at h;refine⟨h.1,fun i l hi=>?_⟩;have:=QD g 0 h.2 i l hi;simpa using this
def NW {g:List (List Int)} (h:Ia g):ordered g:=by
 intro c p hp;unfold par at hp;split at hp
 .cases hp
 .rename_i h3
  rw[DH]at hp;cases hq:g[c - 3]? with
  | none=>rw[hq]at hp;cases hp
  | some l=>
    rw[hq]at hp;have:=(h.2 _ _ hq).2.2 p hp;omega
def Fv {i:Nat} {cs:List Qz} {c:Int} (h:c∈BL i cs):(3:Int)+i<=c/\c<3+i+cs.length:=by
 induction cs generalizing i with
 | nil=>cases h
 | cons d r ih=>
   simp only[BL,E4,List.mem_replicate]at h;simp only[LF];rcases h with⟨_,rfl⟩|h
   .omega
   .have:=ih h;omega
def P5 {p:Prog} (h1:p.AH.length<=10) (h2:Cg 0 p.AH=true) (h3:Dd (Ay p)=true):UZ (AS p):=by
 have hl:(AS p).parents.length=p.AH.length:=by simp[AS,Ay]
 refine⟨by omega,NW (Dn h3),fun c hc=>?_,?_⟩
 .have:=Fv hc
  rw[hl];omega
 .have:=(FI _ _ h2).1
  simp only[AS,CU];omega
def dF (p : Prog):Pure zP 128 [.a (A9 p)] (.b (A6 p)):=by
 refine Pure.fit (by kernel_rfl) fun hf=>?_
 have hP:=Nw hf.1;have hcl:=hP.1;have hM:=Mx;refine u0 kZ ?_
 conv=>whnf
 repeat'((first|clear U K|apply st|(apply zk;intro K U)|refine zn ?_|(refine zd (fun hc=>?_) (fun hc=>?_)<;>try exact⟨⟩)|fail)<;>conv=>whnf)
 .exact AF (by simp[A6];intros;omega)
 have h10:p.AH.length<=10:=by omega
 refine B0 p.AH.length (fun k (n:Int)=>[(3,eI n),(4,eI (A8 k))]) (fun _ _=>[]) (fun k n=>Cg 0 p.AH=Cg n (p.AH.drop k)/\0<=n/\n+Bj (p.AH.drop k)=Bj p.AH/\n<=4*k) 0 rfl (by simp) Sat.nil ?_;rintro k n Z hk ⟨hn,hn0,hn1,hn2⟩ hs
 conv=>whnf
 repeat'((first|clear U K|apply st|(apply zk;intro K U)|refine zn ?_|(refine fc (fun x hx hlt hc=>?_) (fun hk hc=>?_)<;>(try rw[hc])<;>clear hc)|refine Pure.use (iw _ (by omega)) ?_|refine Pure.use (mS _ _) ?_|(refine zd (fun hc=>?_) (fun hc=>?_)<;>try exact⟨⟩)|fail)<;>conv=>whnf)
 .exact AF (by simp only[A6];rw[hn,drop_cons hx,Cg];simp;intros;omega)
 .have hms:n+(x.AG.length:Int)+Bj (p.AH.drop (k+1))=Bj p.AH:=by
   rw[drop_cons hx]at hn1;simp only[Bj,Ex,List.sum_cons]at hn1 ⊢;omega
  have hsl:=(hP.2 x (B1 hx)).2.1
  have hn':Cg 0 p.AH=(LL n x.AG&&Cg (n+x.AG.length) (p.AH.drop (k+1))):=by
   have a1:x.AG.length<=4:=by omega
   have a2:x.parents.length<=3:=by omega
   rw[hn,drop_cons hx,Cg];simp only[a1,a2,decide_true,G7]
  revert x
  rintro c hx hcs h3 hms hsl hn';refine B0 c.AG.length (fun j (m:Int)=>[(3,eI m),(6,eI (A8 j))]) (fun _ _=>[]) (fun j m=>Cg 0 p.AH=(LL m (c.AG.drop j)&&Cg (n+c.AG.length) (p.AH.drop (k+1)))/\m=n+j) n rfl ⟨hn',by simp⟩ Sat.nil ?_;rintro j m Z hj ⟨hm,he⟩ hs
  conv=>whnf
  repeat'((first|clear U K|apply st|(apply zk;intro K U)|refine zn ?_|(refine fc (fun x hx hlt hc=>?_) (fun hk hc=>?_)<;>(try rw[hc])<;>clear hc)|refine za (fun hc=>?_) fun hc=>?_|fail)<;>conv=>whnf)
  .exact AF (by simp only[A6];rw[hm,drop_cons (by assumption),LL];simp[hc])
  .refine⟨hlt,_,rfl,⟨?_,?_⟩,hs⟩
   .rw[hm,drop_cons (by assumption),LL,wrap64 (by omega) (by omega)];simp[hc]
   .rw[wrap64 (by omega) (by omega)];omega
  .refine⟨by assumption,m,rfl,⟨?_,by omega,by omega,by omega⟩,hs⟩
   rw[hm,Ao (by assumption),LL,G7,he];congr 1;omega
 .exact AF (by simp only[A6];rw[hn,drop_cons hx,Cg];simp;intros;omega)
 .have hne:n=Bj p.AH:=by rw[Ao hk]at hn1;simpa[Bj]using hn1
  exact AF (by simp only[A6];rw[hc];simp)
 .have hne:n=Bj p.AH:=by rw[Ao hk]at hn1;simpa[Bj]using hn1
  have hsb:Cg 0 p.AH=true:=by rw[hn,Ao hk];rfl
  have hms:=(FI _ _ hsb).1;have hok:=P5 h10 hsb hc
  have hcb:A6 p=GA (AS p) n 0 p.AH:=by
   simp only[A6,hsb,hc,<-hne];simp[*]
  refine(Tj p hP (by omega) (by omega)).use ?_
  conv=>whnf
  repeat'((first|clear U K|apply st|(apply zk;intro K U)|refine zr fun Z hs=>?_|refine zp fun nn hnn Z hs=>?_|fail)<;>conv=>whnf)
  refine B0 p.AH.length (fun k (_:Unit)=>[(9,eI (A8 k))]) (fun _ _=>[.box nn (A1 (AS p))]) (fun k _=>A6 p=GA (AS p) n k (p.AH.drop k)) () rfl (by rw[hcb];rfl) hs ?_;rintro k - Z hk hn hs
  conv=>whnf
  repeat'((first|clear U K|apply st|(apply zk;intro K U)|refine zn ?_|(refine fc (fun x hx hlt hc=>?_) (fun hk hc=>?_)<;>(try rw[hc])<;>clear hc)|fail)<;>conv=>whnf)
  .have e3 : IntKind.i64.wrap (A8 k+3)=(k:Int)+3:=by rw[AO (by omega),wrap64 (by omega) (by omega)]
   rw[e3];have hgl:(Ay p).length=p.AH.length:=by simp[Ay]
   refine(rA (Ay p) false ((k:Int)+3) (Dn hc) (by omega) (by omega)).use ?_
   conv=>whnf
   repeat'((first|clear U K|apply st|(apply zk;intro K U)|refine zn ?_|refine za (fun hc=>?_) fun hc=>?_|fail)<;>conv=>whnf)
   .have hlb:kN (AS p).parents ((k:Int)+3)=false:=by
     show(!((Bz (Ay p)).getD ((k:Int)+3).toNat []).isEmpty)=false;rw[hc];rfl
    exact AF (by rw[hn,drop_cons hx,GA,hlb];rfl)
   .have hil:=(hP.2 x (B1 hx)).2.2
    have hn':A6 p=(D2 (AS p) ((k:Int)+3) n [] x.inits&&GA (AS p) n (k+1) (p.AH.drop (k+1))):=by
     have hlb:kN (AS p).parents ((k:Int)+3)=true:=by
      show(!((Bz (Ay p)).getD ((k:Int)+3).toNat []).isEmpty)=true;rw[hc];rfl
     rw[hn,drop_cons hx,GA,hlb];rfl
    revert x
    rintro c hx hil hn';refine B0 c.inits.length (fun j (_:Unit)=>[(14,eI (A8 j))]) (fun _ _=>[.box nn (A1 (AS p))]) (fun j _=>A6 p=(D2 (AS p) ((k:Int)+3) n (c.inits.take j) (c.inits.drop j)&&GA (AS p) n (k+1) (p.AH.drop (k+1)))) () rfl (by rw[hn'];rfl) hs ?_;rintro j - Z hj hm hs
    conv=>whnf
    repeat'((first|clear U K|apply st|(apply zk;intro K U)|refine zn ?_|(refine fc (fun x hx hlt hc=>?_) (fun hk hc=>?_)<;>(try rw[hc])<;>clear hc)|refine za (fun hc=>?_) fun hc=>?_|fail)<;>conv=>whnf)
    .refine(rM (AS p) ((k:Int)+3) x.1 hok (by omega) (by rw[show(AS p).parents=Ay p from rfl];omega) (by omega) (by rw[show(AS p).owner=BL 0 p.AH from rfl,CU];omega)).use ?_
     conv=>whnf
     repeat'((first|clear U K|apply st|(apply zk;intro K U)|refine zn ?_|refine Pure.use (oX _) ?_|refine za (fun hc=>?_) fun hc=>?_|fail)<;>conv=>whnf)
     .exact AF (by rw[hm,drop_cons hx,D2];simp[*])
     .have hm':A6 p=((c.inits.take j).all (fun y=>y.1 != x.1)&&(D2 (AS p) ((k:Int)+3) n (c.inits.take (j+1)) (c.inits.drop (j+1))&&GA (AS p) n (k+1) (p.AH.drop (k+1)))):=by
       have b1:decide (0<=x.1)=true:=decide_eq_true (by assumption);have b2:decide (x.1<n)=true:=decide_eq_true (by assumption);rw[hm,drop_cons hx,D2,AL hx,b1,b2,‹hasB _ _ _=true›,hc];simp only[G7,Bool.and_assoc]
      revert x
      rintro x hxj hx0 hx1 hhb hbt hm';refine B0 j (fun i (_:Unit)=>[(15,eI (A8 i))]) (fun _ _=>[.box nn (A1 (AS p))]) (fun i _=>A6 p=(((c.inits.take j).drop i).all (fun y=>y.1 != x.1)&&(D2 (AS p) ((k:Int)+3) n (c.inits.take (j+1)) (c.inits.drop (j+1))&&GA (AS p) n (k+1) (p.AH.drop (k+1))))) () rfl (by rw[hm'];rfl) hs ?_;rintro i - Z hi hl hs;rcases Nat.lt_or_ge i j with hij|hij
      .obtain⟨y,hy⟩: ∃y,c.inits[i]? =some y:=⟨_,Cy (by omega)⟩
       have hy':(c.inits.take j)[i]? =some y:=by rw[List.getElem?_take,if_pos hij,hy]
       conv=>whnf
       repeat'((first|clear U K|apply st|(apply zk;intro K U)|refine zn ?_|(refine zb (fun hc=>?_) (fun hc=>?_)<;>try exact⟨⟩)|fail)<;>conv=>whnf)
       .exact AF (by rw[hl,drop_cons hy',LC,hc];simp)
       .refine⟨hij,(),rfl,?_,hs⟩
        have hc':(y.1 != x.1)=true:=by simpa using hc
        rw[hl,drop_cons hy',LC,hc',G7]
      .conv=>whnf
       repeat'((first|clear U K|apply st|(apply zk;intro K U)|refine zn ?_|(refine zb (fun hc=>?_) (fun hc=>?_)<;>try exact⟨⟩)|fail)<;>conv=>whnf)
       refine⟨by assumption,(),rfl,?_,hs⟩;rw[hl,List.drop_of_length_le (by rw[Mf];omega),List.all_nil,G7]
     .exact AF (by rw[hm,drop_cons hx,D2];simp[*])
    .exact AF (by rw[hm,drop_cons hx,D2];simp;intros;omega)
    .exact AF (by rw[hm,drop_cons hx,D2];simp;intros;omega)
    .refine⟨by assumption,(),rfl,?_,hs⟩
     rw[hm,Ao hk,D2,G7]
  .exact AF (by rw[hn,Ao hk];rfl)
 .have hne:n=Bj p.AH:=by rw[Ao hk]at hn1;simpa[Bj]using hn1
  exact AF (by simp only[A6];rw[<-hne];simp[hc])
def FY (f:Int->Int->List Int->Option (List Int)) (op size:Int):Nat->List Int->List Int->Option (List Int)
 | _,[],s=>some s
 | i,k::r,s=>match f k (if op=9/\i=1 then size+1 else size) s with
   | none=>none
   | some s'=>FY f op size (i+1) r s'
def D0 (p:Prog) (next:Bool) (size:Int) (x:Node):Bool:=((x.kids.length:Int)==I6 p x)&&(Mk p x size&&(x.op != 18||next))
def CI (p:Prog) (next:Bool):Nat->Int->Int->List Int->Option (List Int)
 | 0,_,_,_=>none
 | d+1,n,size,s=>
   if n<0\/(p.nodes.length:Int)<=n\/0<=s.getD n.toNat 0 then none else
   match p.nodes[n.toNat]? with
   | none=>none
   | some x=>if D0 p next size x then FY (CI p next d) x.op size 0 x.kids (s.set n.toNat size)else none
def VM (v:V) (s:List Int) (o:Option (List Int)) (r:R) (post:List At):Prop:=
 ∃s':List Int,s'.length=s.length/\post= [.own v 1 (iL s')]/\((o=some s'/\r= .ret (.b true))\/(o=none/\r= .ret (.b false)))
def PH {v:V} {s s':List Int} {o:Option (List Int)} {Z:AE} {rest:List At} (hs:Sat Z (.own v 1 (iL s')::rest)) (hl:s'.length=s.length) (ho:o=none):Aq Z (.b false) fun r Z'=> ∃post,VM v s o r post/\Sat Z' post:=
 Ak hs (.cons₂ _ (KG _)) (.refl _) fun Z' hs'=>⟨_,⟨s',hl,rfl,.inr ⟨ho,rfl⟩⟩,hs'⟩
def fg {p:Prog} (h:E0 (.a (A9 p))) {x:Node} (hx:x∈p.nodes):x.kids.length<=AY:=by
 simp only[A9,Gy,DQ,Gx,JH]at h
 have h2:Hn (Ig x):=by
  first|exact h.2.2.2.2.1.2 x hx|exact h.2.2.2.2.2.1.2 x hx|exact h.2.2.2.1.2 x hx|exact h.2.2.1.2 x hx|exact h.2.1.2 x hx
 simp only[Ig,DQ,Gx,BU]at h2
 first|exact h2.2.2.1.1|exact h2.2.2.1|exact h2.1
def OZ {p:Prog} {next:Bool} {d:Nat} {n size:Int} {s:List Int} {x:Node} {y:Int} (h0:0<=n) (h1:n<(p.nodes.length:Int)) (hs:s[n.toNat]? =some y) (hy:y<0) (hx:p.nodes[n.toNat]? =some x) :
    CI p next (d+1) n size s=if D0 p next size x then FY (CI p next d) x.op size 0 x.kids (s.set n.toNat size)else none:=by
 have e:s.getD n.toNat 0=y:=by rw[DH,hs];rfl
 simp only[CI];rw[if_neg (by rw[e];omega),hx]
def NC {p:Prog} {next:Bool} {d:Nat} {n size:Int} {s:List Int} (h:n<0\/(p.nodes.length:Int)<=n\/0<=s.getD n.toNat 0):CI p next (d+1) n size s=none:=by
 simp only[CI];rw[if_pos h]
def eo (p : Prog) (next:Bool): ∀d:Nat,d<=12-> ∀(n size depth:Int) (s:List Int) (v:V),depth=13 - d->0<=size->size+d<=100->s.length=p.nodes.length->(Be v).isSome=true->
    Bc zP 131 [.a (A9 p),eI n,eI size,eI depth,.b next,v] [.own v 1 (iL s)] (VM v s (CI p next d n size s)):=by
 intro d
 induction d with
 | zero=>
   intro _ n size depth s v hd h0 h1 hl hv Z hs;refine A3.fit (by kernel_rfl) fun hf=>?_
   have⟨p1,p2,p3,p4⟩:=Fk hf.1;have hM:=Mx;refine gD kZ ?_
   conv=>whnf
   repeat'((first|clear U K|apply st|(apply zk;intro K U)|refine zn ?_|refine ze fun x hx=>?_|(refine zb (fun hc=>?_) (fun hc=>?_)<;>try exact⟨⟩)|fail)<;>conv=>whnf)
   all_goals exact Ak hs (.refl _) (.refl _) fun Z' hs'=>⟨_,⟨s,rfl,rfl,.inr ⟨rfl,rfl⟩⟩,hs'⟩
 | succ d ih =>
   intro hd12 n size depth s v hd h0 h1 hl hv Z hs;refine A3.fit (by kernel_rfl) fun hf=>?_
   have⟨p1,p2,p3,p4⟩:=Fk hf.1;have hM:=Mx;refine gD kZ ?_
   conv=>whnf
   repeat'((first|clear U K|apply st|(apply zk;intro K U)|refine zn ?_|refine rk ?_ ?_|exact fun s e=>by cases e;rfl|refine ze fun x hx=>?_|refine zr fun Z hs=>?_|refine Pure.use (mK _ _) ?_|refine Pure.use (bq _ _ _) ?_|(refine zb (fun hc=>?_) (fun hc=>?_)<;>try exact⟨⟩)|refine zp fun nn hnn Z hs=>?_|fail)<;>conv=>whnf)
   .exact PH hs (by simp) (by rw[OZ (by assumption) (by assumption) (by assumption) (by assumption) hx];simp[D0, *])
   rotate_left
   .cases hc
   rotate_left
   .exact PH hs (by simp) (by rw[OZ (by assumption) (by assumption) (by assumption) (by assumption) hx];simp[D0, *])
   .exact PH hs (by simp) (by rw[OZ (by assumption) (by assumption) (by assumption) (by assumption) hx];simp[D0, *])
   .exact PH hs rfl (NC (.inr (.inr (by rw[DH,hx];exact hc))))
   .exact PH hs rfl (NC (.inr (.inl hc)))
   .exact PH hs rfl (NC (.inl hc))
   all_goals
    have hW:CI p next (d+1) n size s=FY (CI p next d) x.op size 0 x.kids (s.set n.toNat size):=by
     rw[OZ (by assumption) (by assumption) (by assumption) (by assumption) hx];simp[D0, *]
    rw[hW]
    rename Node=>nd
    refine B0 nd.kids.length (fun k (_:List Int)=>[(14,eI (A8 k))]) (fun _ s'=>[.own v 1 (iL s'),.obj nn (.cs (Ig nd))]) (fun k s'=>s'.length=s.length/\FY (CI p next d) nd.op size 0 nd.kids (s.set n.toNat size)=FY (CI p next d) nd.op size k (nd.kids.drop k) s') (s.set n.toNat size) rfl ⟨by simp,by simp⟩ hs ?_;clear hs;rintro k s' Z hk ⟨hl',hkids⟩ hs;have hkm:=fg hf.1 (B1 hx);have hck:A8 k=k:=AO (by omega);by_cases hlt:k<nd.kids.length
    .obtain⟨kid,hkid⟩: ∃kid,nd.kids[k]? =some kid:=⟨_,Cy hlt⟩
     have hrec:=fun kid sz h0 h1=>ih (by omega) kid sz (depth+1) s' v (by omega) h0 h1 (by omega) hv
     conv=>whnf
     repeat'((first|clear U K|apply st|(apply zk;intro K U)|refine zn ?_|(refine fc (fun x hx hlt hc=>?_) (fun hk hc=>?_)<;>(try rw[hc])<;>clear hc)|(refine zb (fun hc=>?_) (fun hc=>?_)<;>try exact⟨⟩)|fail)<;>conv=>whnf)
     all_goals try(exfalso;omega)
     all_goals try refine I2 (enc:=fun i:Int=>[V.i .i64 i]) hkid hkm rfl ?_
     conv=>whnf
     all_goals try(exfalso;omega)
     all_goals
      have hK2:=hkids;rw[drop_cons hx,FY]at hK2
      first
       | rw[if_pos (by omega)]at hK2
         rw[wrap64 (by omega) (by omega),wrap64 (by omega) (by omega)];refine(hrec x (size+1) (by omega) (by omega)).use hs ?_
       | rw[if_neg (by omega)]at hK2
         rw[wrap64 (by omega) (by omega)];refine(hrec x size (by omega) (by omega)).use hs ?_
      rintro r post Z' ⟨s2,hl2,rfl,⟨ho,rfl⟩|⟨ho,rfl⟩⟩ hs
      .rw[ho]at hK2
       conv=>whnf
       repeat'((first|clear U K|apply st|(apply zk;intro K U)|refine zn ?_|(refine zd (fun hc=>?_) (fun hc=>?_)<;>try exact⟨⟩)|fail)<;>conv=>whnf)
       all_goals first|(exfalso;cases hc;done)|exact⟨hlt,s2,rfl,⟨by omega,hK2⟩,hs⟩
      .rw[ho]at hK2
       conv=>whnf
       repeat'((first|clear U K|apply st|(apply zk;intro K U)|refine zn ?_|(refine zd (fun hc=>?_) (fun hc=>?_)<;>try exact⟨⟩)|fail)<;>conv=>whnf)
       all_goals first|exact PH hs (by omega) hK2|(exfalso;cases hc;done)
    .have hke:k=nd.kids.length:=by omega
     conv=>whnf
     repeat'((first|clear U K|apply st|(apply zk;intro K U)|refine zn ?_|(refine fc (fun x hx hlt hc=>?_) (fun hk hc=>?_)<;>(try rw[hc])<;>clear hc)|(refine zb (fun hc=>?_) (fun hc=>?_)<;>try exact⟨⟩)|fail)<;>conv=>whnf)
     all_goals try(exfalso;omega)
     rw[hke,Ao rfl]at hkids;exact Ak hs (.cons₂ _ (KG _)) (.refl _) fun Z' hs'=>⟨_,⟨s',hl',rfl,.inl ⟨(by first|rw[hW,hkids,FY]|rw[hkids,FY]),rfl⟩⟩,hs'⟩
def QL {w:AI} (f:Fact):Bh w f=true->Ri f=true:=by
 induction f using Fact.ind with
 | h f ih=>
   intro h;rw[Cp]at h;simp only[C6,BD,E3,CN]at h;rw[Pz];simp only[BD,CN,List.all_map,E3,Function.comp_apply,id];exact⟨⟨h.1.2.2.1,h.1.2.2.2.1⟩,fun k hk=>ih k hk (h.2 k hk)⟩
def OY (p:Prog) (m:OT):Bool:=decide (1<=m.kind)&&(decide (m.kind<=4)&&(decide (0<=m.gen)&&(decide (m.gen<(p.Br.length:Int))&&(C7 (AS p) m.fact&&decide (GC m.fact<=p.Br.getD m.gen.toNat 0)))))
def runM (p:Prog):List OT->List Int->Option (List Int)
 | [],s=>some s
 | m::r,s=>if OY p m then match CI p (J4 m.kind) 12 m.node (p.Br.getD m.gen.toNat 0) s with
   | none=>none
   | some s'=>runM p r s' else none
def Cw (p:Prog):Bool:=A6 p&&(decide (p.Br.length<=8)&&(decide (p.methods.length<=16)&&(decide (1<=p.nodes.length)&&(decide (p.nodes.length<=120)&&p.Br.all fun g=>decide (1<=g)&&decide (g<=3)))))
def BK (p:Prog):Option (List Int):=if Cw p then match runM p p.methods (List.replicate p.nodes.length (-1))with
 | none=>none
 | some s=>match CI p false 12 p.main 0 s with
   | none=>none
   | some s=>if s.all fun n=>decide (0<=n)then some s else none else none
def J5 (p:Prog):Option (List Int)->Option (List Int)
 | none=>none
 | some s=>match CI p false 12 p.main 0 s with
   | none=>none
   | some s=>if s.all fun n=>decide (0<=n)then some s else none
def Nt (p:Prog):V:=match BK p with
 | none=> .t [.l [] true,.b false]
 | some s=> .t [.l (iL s) false,.b true]
def oU {p:Prog} (h:BK p=none):Nt p= .t [.l [] true,.b false]:=by simp only[Nt,h]
def xA {p:Prog} (h:Cw p=false):Nt p= .t [.l [] true,.b false]:=oU (by unfold BK;rw[h];rfl)
def LY {p:Prog} {Z:AE} (h:BK p=none):Aq Z (.t [.l [] true,.b false]) fun r Z'=>r=R.ret (Nt p)/\Z'=emp:=by
 rw[oU h];exact AF rfl
def PG {p:Prog} {Z:AE} (h:Cw p=false):Aq Z (.t [.l [] true,.b false]) fun r Z'=>r=R.ret (Nt p)/\Z'=emp:=by
 rw[xA h];exact AF rfl
def Za {p:Prog} (h:Cw p=true):BK p=J5 p (runM p p.methods (List.replicate p.nodes.length (-1))):=by
 unfold BK;rw[if_pos h];rfl
def DO {p:Prog} {k:Nat} {x:OT} {s:List Int} (hx:p.methods[k]? =some x) (hn:BK p=J5 p (runM p (p.methods.drop k) s)) (hok:OY p x=false):BK p=none:=by
 rw[hn,drop_cons hx,runM,if_neg (by simp[hok])];rfl
def R1 {p:Prog} {k:Nat} {x:OT} {s:List Int} (hx:p.methods[k]? =some x) (hn:BK p=J5 p (runM p (p.methods.drop k) s)) (hok:OY p x=true) (hw:CI p (J4 x.kind) 12 x.node (p.Br.getD x.gen.toNat 0) s=none):BK p=none:=by
 rw[hn,drop_cons hx,runM,if_pos hok,hw];rfl
def ZF {p:Prog} {k:Nat} {x:OT} {s s':List Int} (hx:p.methods[k]? =some x) (hn:BK p=J5 p (runM p (p.methods.drop k) s)) (hok:OY p x=true) (hw:CI p (J4 x.kind) 12 x.node (p.Br.getD x.gen.toNat 0) s=some s'):BK p=J5 p (runM p (p.methods.drop (k+1)) s'):=by
 rw[hn,drop_cons hx,runM,if_pos hok,hw]
def SS {p:Prog} (h:Cw p=true) {k:Nat} {x:Int} (hx:p.Br[k]? =some x):1<=x/\x<=3:=by
 simp only[Cw,BD,E3,CN]at h;exact h.2.2.2.2.2 x (B1 hx)
def qy (p:Prog):Pure zP 71 [.a (A9 p)] (Nt p):=by
 refine Pure.fit (by kernel_rfl) fun hf=>?_
 have⟨p1,p2,p3,p4⟩:=Fk hf.1;have hM:=Mx;refine xW kZ ?_;have hs:=Sn
 conv=>whnf
 repeat'((first|apply st|(apply sq;intro K U)|(apply si;intro A B hA hB)|(refine hA _ _ ?_;clear hB B hA A)|(apply U;clear U K)|refine⟨rfl,?_⟩|refine⟨kZ,?_⟩|refine Pure.use (dF _) ?_|(constructor<;>intro hc<;>(try rw[hc])<;>(replace hc:=bp hc)<;>(try simp(disch:=omega) only[BU,wrap64,AO]at hc))|clear U K)<;>conv=>whnf)
 .exact PG (by simp[Cw];intros;omega)
 rotate_left
 .exact PG (by simp[Cw];intros;omega)
 .exact PG (by simp[Cw];intros;omega)
 .exact PG (by simp[Cw];intros;omega)
 .exact PG (by simp[Cw, *])
 have a1:p.Br.length<=8:=by omega
 have a2:p.methods.length<=16:=by omega
 have a3:1<=p.nodes.length:=by omega
 have a4:p.nodes.length<=120:=by omega
 have hg:Cw p=p.Br.all fun g=>decide (1<=g)&&decide (g<=3):=by
  simp only[Cw,a1,a2,a3,a4,decide_true,G7];simp[*]
 refine B0 p.Br.length (fun k (_:Unit)=>[(4,eI (A8 k))]) (fun _ _=>[]) (fun k _=>Cw p=(p.Br.drop k).all fun g=>decide (1<=g)&&decide (g<=3)) () rfl (by simpa using hg) hs ?_;clear hs;rintro k - Z hk hn hs
 conv=>whnf
 repeat'((first|apply st|(apply sq;intro K U)|(apply si;intro A B hA hB)|(refine hA _ _ ?_;clear hB B hA A)|(apply U;clear U K)|refine⟨rfl,?_⟩|refine ix ?_|(refine fc (fun x hx hlt hc=>?_) (fun hk hc=>?_)<;>(try rw[hc])<;>clear hc)|(constructor<;>intro hc<;>(try rw[hc])<;>(replace hc:=bp hc))|clear U K)<;>conv=>whnf)
 .exact PG (by rw[hn,drop_cons hx];simp;intros;omega)
 .exact⟨hlt,(),rfl,by rw[hn,drop_cons hx];simp[*],hs⟩
 .exact PG (by rw[hn,drop_cons hx];simp;intros;omega)
 have hh:Cw p=true:=by rw[hn,Ao hk];rfl
 have hP:=Nw hf.1;have hcB:A6 p=true:=by assumption
 have hsb:Cg 0 p.AH=true:=by simp only[A6,BD]at hcB;exact hcB.2.1
 have hc10:p.AH.length<=1000:=by simp only[A6,BD,CN]at hcB;omega
 have hmS:Bj p.AH<=AY:=by have:=(FI _ _ hsb).1;simp only[A6,BD,CN]at hcB;omega
 have hL:=Za hh;clear hn hg;refine B0 p.nodes.length (fun j v=>[(5,v),(6,eI (A8 j))]) (fun j v=>[.own v 1 (iL (List.replicate j (-1)))]) (fun j v=>1<=j->(Be v).isSome=true) (.l [] true) rfl (fun h=>by omega) (El hs 1) ?_;clear hs;rintro j v Z hj hv hs
 conv=>whnf
 repeat'((first|apply st|(apply sq;intro K U)|(apply si;intro A B hA hB)|(refine hA _ _ ?_;clear hB B hA A)|(apply U;clear U K)|refine⟨rfl,?_⟩|refine⟨kZ,?_⟩|refine sn fun Z hs=>?_|refine aq fun v Z hs hsl=>?_|(refine fc (fun x hx hlt hc=>?_) (fun hk hc=>?_)<;>(try rw[hc])<;>clear hc)|refine Pure.use (Tj _ (by assumption) (by omega) (by assumption)) ?_|(intro nn hnn;generalize hg:Bd _ nn _=Z;refine al hg fun hs=>?_;clear hg)|clear U K)<;>conv=>whnf)
 .exact⟨hlt,_,rfl,fun _=>hsl,by rw[List.replicate_succ'];exact hs⟩
 have hsv:=hv (by omega);subst hk;refine B0 p.methods.length (fun k (s:List Int)=>[(8,eI (A8 k))]) (fun _ s=>[.own v 1 (iL s),.box nn (A1 (AS p))]) (fun k s=>s.length=p.nodes.length/\BK p=J5 p (runM p (p.methods.drop k) s)) (List.replicate p.nodes.length (-1)) rfl ⟨by simp,hL⟩ hs ?_;clear hs;rintro k s Z hk ⟨hl,hn⟩ hs
 conv=>whnf
 repeat'((first|apply st|(apply sq;intro K U)|(apply si;intro A B hA hB)|(refine hA _ _ ?_;clear hB B hA A)|(apply U;clear U K)|apply dr|refine rk ?_ ?_|exact fun s e=>by cases e;rfl|refine⟨rfl,?_⟩|refine⟨kZ,?_⟩|refine ix ?_|refine iq fun x hx=>?_|refine ld ?_|refine sn fun Z hs=>?_|(refine fc (fun x hx hlt hc=>?_) (fun hk hc=>?_)<;>(try rw[hc])<;>clear hc)|refine Pure.use (jA _ _) ?_|(constructor<;>intro hc<;>(try rw[hc])<;>(replace hc:=bp hc)<;>(try simp(disch:=omega) only[BU,wrap64,AO]at hc))|(intro nn hnn;generalize hg:Bd _ nn _=Z;refine al hg fun hs=>?_;clear hg)|clear U K)<;>conv=>whnf)
 rotate_left
 .exact LY (DO hx hn (by simp[OY, *]))
 .exact LY (DO hx hn (by simp[OY];intros;omega))
 .exact LY (DO hx hn (by simp[OY];intros;omega))
 .exact LY (DO hx hn (by simp[OY];intros;omega))
 .exact LY (DO hx hn (by simp[OY];intros;omega))
 .refine(eo p false 12 (Io _) p.main 0 1 s v rfl (by omega) (by omega) hl hsv).use hs ?_
  clear hs;rintro r post Z ⟨s2,hl2,rfl,⟨ho,rfl⟩|⟨ho,rfl⟩⟩ hs
  .conv=>whnf
   repeat'((first|apply st|(apply sq;intro K U)|(apply si;intro A B hA hB)|(refine hA _ _ ?_;clear hB B hA A)|(apply U;clear U K)|(constructor<;>intro hc<;>(try rw[hc])<;>(replace hc:=bp hc)<;>(try simp(disch:=omega) only[BU,wrap64,AO]at hc))|clear U K)<;>conv=>whnf)
   .cases hc
   have hz:BK p=if s2.all fun n=>decide (0<=n)then some s2 else none:=by rw[hn,Ao hk,runM,J5,ho]
   refine B0 s2.length (fun j (_:Unit)=>[(10,eI (A8 j))]) (fun _ _=>[.own v 1 (iL s2),.box nn (A1 (AS p))]) (fun j _=>BK p=if(s2.drop j).all fun n=>decide (0<=n)then some s2 else none) () rfl hz hs ?_;clear hs;rintro j - Z hj hz hs
   conv=>whnf
   repeat'((first|apply st|(apply sq;intro K U)|(apply si;intro A B hA hB)|(refine hA _ _ ?_;clear hB B hA A)|(apply U;clear U K)|refine⟨rfl,?_⟩|refine oc ?_|refine ol fun x hx=>?_|(refine fc (fun x hx hlt hc=>?_) (fun hk hc=>?_)<;>(try rw[hc])<;>clear hc)|refine lo ?_|(constructor<;>intro hc<;>(try rw[hc])<;>(replace hc:=bp hc))|clear U K)<;>conv=>whnf)
   .exact LY (by rw[hz,drop_cons hx,LC,if_neg];simp;intros;omega)
   .exact⟨hlt,(),rfl,by rw[hz,drop_cons hx,LC];simp[*],hs⟩
   .have hz2:BK p=some s2:=by rw[hz,Ao (by assumption)];rfl
    simp only[Nt,hz2];exact Ap (.t (.cons (hs.GW 0 rfl) (.cons (.refl _) .nil)))
  .conv=>whnf
   repeat'((first|apply st|(apply sq;intro K U)|(apply si;intro A B hA hB)|(refine hA _ _ ?_;clear hB B hA A)|(apply U;clear U K)|(constructor<;>intro hc<;>(try rw[hc])<;>(replace hc:=bp hc)<;>(try simp(disch:=omega) only[BU,wrap64,AO]at hc))|clear U K)<;>conv=>whnf)
   .exact LY (by rw[hn,Ao hk,runM,J5,ho])
   .cases hc
 rename OT=>m
 rename p.methods[k]? =some m=>hm
 refine(gx m.fact (QL _ (by(have:C7 (AS p) m.fact=true:=by assumption);simp only[C7,BD]at this;exact this.2.2))).use ?_
 conv=>whnf
 repeat'((first|apply st|(apply sq;intro K U)|(apply si;intro A B hA hB)|(refine hA _ _ ?_;clear hB B hA A)|(apply U;clear U K)|apply dr|refine rk ?_ ?_|exact fun s e=>by cases e;rfl|refine⟨rfl,?_⟩|refine⟨kZ,?_⟩|refine iq fun x hx=>?_|refine ld ?_|refine Pure.use (qs _) ?_|(constructor<;>intro hc<;>(try rw[hc])<;>(replace hc:=bp hc))|clear U K)<;>conv=>whnf)
 .exact LY (DO hm hn (by simp[OY,DH,hx];intros;omega))
 obtain⟨hx1,hx3⟩:=SS hh hx;have hgd:p.Br.getD m.gen.toNat 0=x:=by rw[DH,hx];rfl
 rename p.Br[m.gen.toNat]? =some _=>hx2
 have hxe:=Option.some.inj (hx.symm.trans hx2);subst hxe;have hok:OY p m=true:=by simp only[OY,hgd,BD,CN];exact⟨by assumption,by omega,by assumption,by assumption,by assumption,by assumption⟩
 refine(eo p (J4 m.kind) 12 (Io _) m.node x 1 s v rfl (by omega) (by omega) hl hsv).use (rest:=[_,_]) hs ?_;clear hs;rintro r post Z ⟨s2,hl2,rfl,⟨ho,rfl⟩|⟨ho,rfl⟩⟩ hs
 .conv=>whnf
  repeat'((first|apply st|(apply sq;intro K U)|(apply si;intro A B hA hB)|(refine hA _ _ ?_;clear hB B hA A)|(apply U;clear U K)|apply dr|refine⟨rfl,?_⟩|(constructor<;>intro hc<;>(try rw[hc])<;>(replace hc:=bp hc)<;>(try simp(disch:=omega) only[BU,wrap64,AO]at hc))|clear U K)<;>conv=>whnf)
  .cases hc
  .exact⟨by assumption,s2,rfl,⟨by omega,ZF hm hn hok (by rw[hgd];exact ho)⟩,hs.less (.cons₂ _ (.cons₂ _ (KG _)))⟩
 .conv=>whnf
  repeat'((first|apply st|(apply sq;intro K U)|(apply si;intro A B hA hB)|(refine hA _ _ ?_;clear hB B hA A)|(apply U;clear U K)|apply dr|refine⟨rfl,?_⟩|(constructor<;>intro hc<;>(try rw[hc])<;>(replace hc:=bp hc)<;>(try simp(disch:=omega) only[BU,wrap64,AO]at hc))|clear U K)<;>conv=>whnf)
  .exact LY (R1 hm hn hok (by rw[hgd];exact ho))
  .cases hc
def qV (p:Prog):Pure zP 21 [.a (A9 p)] (.b (BK p).isSome):=by
 refine xe kZ ?_;have h:=qy p;unfold Nt at h;cases hl:BK p with
 | none=>
   rw[hl]at h
   conv=>whnf
   repeat'((first|clear U K|apply st|(apply zk;intro K U)|refine zn ?_|refine zC ?_|fail)<;>conv=>whnf)
   all_goals exact AF (by first|rfl|simp)
 | some s=>
   rw[hl]at h
   conv=>whnf
   repeat'((first|clear U K|apply st|(apply zk;intro K U)|refine zn ?_|refine zC ?_|fail)<;>conv=>whnf)
   all_goals exact AF (by first|rfl|simp)
def Ks (xs ys:List Int) (f g:Bool):Pure zP 17 [.l (iL xs) f,.l (iL ys) g] (.b (xs==ys)):=by
 refine Pure.fit (by kernel_rfl) fun hf=>?_
 have hx:=LX hf.1;have hy:=LX hf.2.1;have hM:=Mx;refine xf kZ ?_;have hs:=Sn
 conv=>whnf
 repeat'((first|clear U K|apply st|(apply zk;intro K U)|refine zn ?_|(refine zd (fun hc=>?_) (fun hc=>?_)<;>try exact⟨⟩)|fail)<;>conv=>whnf)
 .exact AF (by(have:(xs==ys)=false:=by(simp;intro e;subst e;simp at hc));rw[this])
 have hl:xs.length=ys.length:=by omega
 refine B0 xs.length (fun k (_:Unit)=>[(13,eI (A8 k))]) (fun _ _=>[]) (fun k _=>(xs==ys)=(xs.drop k==ys.drop k)) () rfl rfl Sat.nil ?_;clear hs;rintro k - Z hk hn hs;by_cases hlt:k<xs.length
 .obtain⟨y,hyk⟩: ∃y,ys[k]? =some y:=⟨_,Cy (by omega)⟩
  conv=>whnf
  repeat'((first|clear U K|apply st|(apply zk;intro K U)|refine zn ?_|(refine fc (fun x hx hlt hc=>?_) (fun hk hc=>?_)<;>(try rw[hc])<;>clear hc)|refine za (fun hc=>?_) fun hc=>?_|fail)<;>conv=>whnf)
  .exact AF (by rw[hn,drop_cons hx,drop_cons hyk];simp[hc])
  .exact⟨hlt,(),rfl,by rw[hn,drop_cons hx,drop_cons hyk,hc];simp,hs⟩
  .omega
 .conv=>whnf
  repeat'((first|clear U K|apply st|(apply zk;intro K U)|refine zn ?_|refine ze fun x hx=>?_|(refine fc (fun x hx hlt hc=>?_) (fun hk hc=>?_)<;>(try rw[hc])<;>clear hc)|(refine zb (fun hc=>?_) (fun hc=>?_)<;>try exact⟨⟩)|fail)<;>conv=>whnf)
  exact AF (by rw[hn,Ao hk,Ao (by omega)];rfl)
def RA:List (Fact->Bool)->List Fact->Bool
 | h::r,k::s=>h k&&RA r s
 | _,_=>true
def oK (f:Fact) (l:List (Fact->Bool)) (g:Fact):Bool:=f.op==g.op&&(f.arg==g.arg&&(f.cls==g.cls&&(f.n==g.n&&(f.path==g.path&&(f.kids.length==g.kids.length&&RA l g.kids)))))
def FW (f:Fact):Fact->Bool:=f.Hp oK
def Lx (f g:Fact):FW f g=(f.op==g.op&&(f.arg==g.arg&&(f.cls==g.cls&&(f.n==g.n&&(f.path==g.path&&(f.kids.length==g.kids.length&&RA (f.kids.map FW) g.kids)))))):=congrFun (Fact.Du oK f) g
def WG {xs ys:List Fact} (h: ∀x∈xs,∀y,FW x y=true↔x=y) (hl:xs.length=ys.length):RA (xs.map FW) ys=true↔xs=ys:=by
 induction xs generalizing ys with
 | nil=>cases ys with
   | nil=>simp[RA]
   | cons _ _=>simp at hl
 | cons x r ih=>cases ys with
   | nil=>simp at hl
   | cons y s=>
     simp only[Ex,RA,BD,List.cons.injEq];rw[h x (.head _) y,ih (fun x hx=>h x (.tail _ hx)) (by simpa using hl)]
def NK (f g:Fact):FW f g=true↔f=g:=by
 induction f using Fact.ind generalizing g with
 | h f ih=>
   rw[Lx];cases f with
   | mk o a p c n k=>cases g with
     | mk o' a' p' c' n' k'=>
       simp only[Fact.op,Fact.arg,Fact.cls,Fact.n,Fact.path,Fact.kids,BD,EU,Fact.mk.injEq]at *;constructor
       .rintro⟨rfl,rfl,rfl,rfl,rfl,hl,h⟩
        exact⟨rfl,rfl,rfl,rfl,rfl,(WG (fun x hx y=>ih x hx y) hl).1 h⟩
       .rintro⟨rfl,rfl,rfl,rfl,rfl,rfl⟩
        exact⟨rfl,rfl,rfl,rfl,rfl,rfl,(WG (fun x hx y=>ih x hx y) rfl).2 rfl⟩
def lD (f g:Fact):Pure zP 320 [.a (xF f),.a (xF g)] (.b (FW f g)):=by
 induction f using Fact.ind generalizing g with
 | h f ih=>
   refine Pure.fit (by kernel_rfl) fun hf=>?_
   have⟨h2,h3,h4⟩:=J8 hf.1;have⟨g2,g3,g4⟩:=J8 hf.2.1;have hM:=Mx;refine tE kZ ?_;have hs:=Sn
   conv=>whnf
   repeat'((first|clear U K|apply st|(apply zk;intro K U)|refine zn ?_|refine Pure.use (Ks _ _ _ _) ?_|(refine zd (fun hc=>?_) (fun hc=>?_)<;>try exact⟨⟩)|fail)<;>conv=>whnf)
   rotate_left
   all_goals try exact AF (by rw[Lx];simp[*]<;>omega)
   rotate_left
   .have hkl:f.kids.length=g.kids.length:=by omega
    refine B0 f.kids.length (fun k (_:Unit)=>[(52,eI (A8 k))]) (fun _ _=>[]) (fun k _=>FW f g=RA ((f.kids.drop k).map FW) (g.kids.drop k)) () rfl (by rw[Lx];simp[*]) Sat.nil ?_;clear hs;rintro k - Z hk hn hs;by_cases hlt:k<f.kids.length
    .obtain⟨y,hyk⟩: ∃y,g.kids[k]? =some y:=⟨_,Cy (by omega)⟩
     conv=>whnf
     repeat'((first|clear U K|apply st|(apply zk;intro K U)|refine zn ?_|(refine fc (fun x hx hlt hc=>?_) (fun hk hc=>?_)<;>(try rw[hc])<;>clear hc)|fail)<;>conv=>whnf)
     .refine(ih x (B1 hx) y).use ?_
      conv=>whnf
      repeat'((first|clear U K|apply st|(apply zk;intro K U)|refine zn ?_|refine za (fun hc=>?_) fun hc=>?_|fail)<;>conv=>whnf)
      .exact AF (by rw[hn,drop_cons hx,drop_cons hyk,Ex,RA,hc];rfl)
      .exact⟨hlt,(),rfl,by rw[hn,drop_cons hx,drop_cons hyk,Ex,RA,hc];rfl,hs⟩
     .omega
    .conv=>whnf
     repeat'((first|clear U K|apply st|(apply zk;intro K U)|refine zn ?_|refine ze fun x hx=>?_|(refine fc (fun x hx hlt hc=>?_) (fun hk hc=>?_)<;>(try rw[hc])<;>clear hc)|fail)<;>conv=>whnf)
     all_goals first|(exfalso;omega)|exact AF (by rw[hn,Ao hk];rfl)
def FV (f:Fact):Fact:= .mk 5 0 [] 0 0 [f]
def OS (f g:Fact):Fact:= .mk 6 0 [] 0 0 [f,g]
def fP (f:Fact):Pure zP 194 [.a (xF f)] (.a (xF (FV f))):=by
 refine uS kZ ?_;have hs:=Sn
 conv=>whnf
 repeat'((first|clear U K|apply st|(apply zk;intro K U)|refine zX ?_|refine zr fun Z hs=>?_|refine zp fun nn hnn Z hs=>?_|fail)<;>conv=>whnf)
 refine Ap (.a (.cons (.refl _) (.cons (.refl _) (.cons H2 (.cons (.refl _) (.cons (.refl _) (.cons ?_ .nil)))))));refine .l (fun h=>by cases h) ?_;simp only[FV,Fact.kids,List.map,BV];exact Ea _
def vJ (f g:Fact):Pure zP 193 [.a (xF f),.a (xF g)] (.a (xF (OS f g))):=by
 refine uT kZ ?_;have hs:=Sn
 conv=>whnf
 repeat'((first|clear U K|apply st|(apply zk;intro K U)|refine zX ?_|refine zr fun Z hs=>?_|refine zp fun nn hnn Z hs=>?_|fail)<;>conv=>whnf)
 refine Ap (.a (.cons (.refl _) (.cons (.refl _) (.cons H2 (.cons (.refl _) (.cons (.refl _) (.cons ?_ .nil)))))));refine .l (fun h=>by cases h) ?_;simp only[OS,Fact.kids,List.map,BV];exact Ea _
def F8 (l:Fact):Prop:=l.op=5->l.kids≠[]
def Av (l:Fact):Fact×Bool:=if l.op=5 then(l.kids.headD default,true)else(l,false)
def HP (l:Fact) (h:F8 l):Pure zP 355 [.a (xF l)] (.t [.a (xF (Av l).1),.b (Av l).2]):=by
 refine Pure.fit (by kernel_rfl) fun hf=>?_
 have⟨h2,h3,h4⟩:=J8 hf.1;refine sm kZ ?_;have hs:=Sn;by_cases h5:l.op=5
 .have hk:0<l.kids.length:=List.length_pos_iff.2 (h h5)
  conv=>whnf
  repeat'((first|clear U K|apply st|(apply zk;intro K U)|refine zX ?_|refine ze fun x hx=>?_|refine zr fun Z hs=>?_|(refine zb (fun hc=>?_) (fun hc=>?_)<;>try exact⟨⟩)|refine zp fun nn hnn Z hs=>?_|fail)<;>conv=>whnf)
  all_goals try(exfalso;omega)
  refine AF ?_
  have:l.kids.headD default=x:=by
   cases hl:l.kids with
   | nil=>rw[hl]at hk;simp at hk
   | cons y r=>rw[hl]at hx;simpa using hx
  simp only[Av,if_pos h5,this];rfl
 .conv=>whnf
  repeat'((first|clear U K|apply st|(apply zk;intro K U)|refine zX ?_|refine zr fun Z hs=>?_|(refine zb (fun hc=>?_) (fun hc=>?_)<;>try exact⟨⟩)|refine zp fun nn hnn Z hs=>?_|fail)<;>conv=>whnf)
  all_goals try(exfalso;omega)
  refine AF ?_;simp only[Av,if_neg h5];rfl
def Bp (path pre:List Int):Bool:=decide (pre.length<=path.length)&&path.take pre.length==pre
def Sr (xs ys:List Int) (f g:Bool):Pure zP 380 [.l (iL xs) f,.l (iL ys) g] (.b (Bp xs ys)):=by
 refine Pure.fit (by kernel_rfl) fun hf=>?_
 have hx:=LX hf.1;have hy:=LX hf.2.1;have hM:=Mx;refine sT kZ ?_;have hs:=Sn
 conv=>whnf
 repeat'((first|clear U K|apply st|(apply zk;intro K U)|refine zX ?_|refine Pure.use (Ks _ _ _ _) ?_|(refine zd (fun hc=>?_) (fun hc=>?_)<;>try exact⟨⟩)|fail)<;>conv=>whnf)
 .refine AF ?_
  have:ys.length<=xs.length:=by omega
  simp[Bp,this]
 .refine AF ?_
  have: ¬ys.length<=xs.length:=by omega
  simp[Bp,this]
def GY (w:AI) (ls:List Fact) (a:Int) (p:List Int) (c:Bool):List V:=[.l (Ee w.parents) false,.l (iL w.owner) false,.l (facts ls) false,eI a,.l (iL p) false,.b c]
def JY (w:AI) (ls:List Fact) (a:Int) (p:List Int) (c:Bool) (s:Int) (hp:p.length<100):Pure zP 358 [.a (GY w ls a p c),eI s] (.a (GY w ls a (p++[s]) c)):=by
 have hM:=Mx;refine sg kZ ?_;have hs:=Sn
 conv=>whnf
 repeat'((first|clear U K|apply st|(apply zk;intro K U)|refine zX ?_|refine zp fun nn hnn Z hs=>?_|fail)<;>conv=>whnf)
 replace hs:=El hs 1;refine F9 hs 1 (xs:=[]) (ys:=p) rfl (by simp;omega) BZ fun v Z hs=>?_
 conv=>whnf
 repeat'((first|apply st|refine zX ?_|refine rk ?_ ?_|exact fun s e=>by cases e;rfl|refine aq fun v Z hs hsl=>?_|fail)<;>conv=>whnf)
 obtain⟨n,l,cc,rfl⟩:=eM hsl
 conv=>whnf
 repeat'((first|clear U K|apply st|refine zX ?_|refine zr fun Z hs=>?_|fail)<;>conv=>whnf)
 exact Ap (.a (.cons (.refl _) (.cons (.refl _) (.cons (.refl _) (.cons (.refl _) (.cons (hs.GW 1 rfl) (.cons (.refl _) .nil)))))))
end Go.Gl
