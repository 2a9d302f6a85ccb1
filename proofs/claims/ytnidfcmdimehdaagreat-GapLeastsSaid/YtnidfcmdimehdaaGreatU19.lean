import Derived.Test.YtnidfcmdimehdaaGreatU13
import Derived.Test.YtnidfcmdimehdaaGreatU14
import Derived.Test.YtnidfcmdimehdaaGreatU16
import Derived.Test.YtnidfcmdimehdaaGreatU17
import Derived.Test.YtnidfcmdimehdaaGreatU18
set_option linter.all false
set_option linter.defProp false
set_option maxHeartbeats 8000000
noncomputable section
namespace Go.Gl
open Go.Proofs
attribute [local irreducible] As Af AV AQ AI AU AP AR AJ AT AM AN Ag Ar Sat AS Ap AX W
def Lz:Int->List Int->Bool
 | _,[]=>true
 | n,s::r=>s==n&&Lz (n+1) r
def Ch:Int->List Rp->Bool
 | _,[]=>true
 | n,c::r=>decide (c.AL.length<=4)&&(decide (c.parents.length<=3)&&(Lz n c.AL&&Ch (n+c.AL.length) r))
def ER (w:AE) (c n:Int):List (Int×Int)->List (Int×Int)->Bool
 | _,[]=>true
 | pre,x::r=>decide (0<=x.1)&&(decide (x.1<n)&&(hasB w c x.1&&(Tp x.2&&(pre.all (fun y=>y.1 != x.1)&&ER w c n (pre++[x]) r))))
def lg (g:List (List Int)) (c:Int):Bool:= !((B6 g).getD c.toNat []).isEmpty
def Gc (w:AE) (n:Int):Nat->List Rp->Bool
 | _,[]=>true
 | i,c::r=>lg w.parents ((i:Int)+3)&&(ER w ((i:Int)+3) n [] c.inits&&Gc w n (i+1) r)
def BA (p:Prog):Bool:=decide (p.AK.length<=10)&&(Ch 0 p.AK&&((Bl p.AK:Int)==p.AL&&(Dz (A0 p)&&Gc (AG p) (Bl p.AK) 0 p.AK)))
def yk {c:Rp} (h:Ih (LP c)):c.parents.length<=AZ/\c.AL.length<=AZ/\c.inits.length<=AZ:=by
 simp only[LP,Dg,Hj,Bh]at h;exact⟨h.1.1,h.2.1.1,h.2.2.1.1⟩
def H6 {p:Prog} (h:Fb (.a (A3 p))):qq p:=by
 refine⟨(F0 h).1,fun c hc=>?_⟩;simp only[A3,Hk,Dg,Hj,J5]at h;exact yk (h.1.2 c hc)
def jy (p:Prog) (hk0:p.AK.length<=1000):Pure zP 76 [.a (A3 p)] (.l (EF (A0 p)) false):=Pure.fit (by kernel_rfl) fun hf=>aQ p (H6 hf.1) hk0
def Fj: ∀(cs:List Rp) (n:Int),Ch n cs=true->Bl cs<=4*cs.length/\ ∀c∈cs,c.parents.length<=3/\c.AL.length<=4
 | [],_,_=>⟨G0 _,fun _ h=>by cases h⟩
 | c::r,n,h=>by
   simp only[Ch,A7,CF]at h;have⟨h1,h2⟩:=Fj r _ h.2.2.2;refine⟨by simp only[Bl,Cn,List.sum_cons,JU]at *;omega,fun d hd=>?_⟩;rcases Ff.1 hd with rfl|hd
   .exact⟨h.2.1,h.1⟩
   .exact h2 d hd
def TG {i:Nat}: ∀(r pre:List Int),NS i pre r=true->pre.Nodup->(pre++r).Nodup/\ ∀c∈r,(3:Int)<=c/\c<3+(i:Int)
 | [],pre,_,h=>⟨by simpa using h,fun _ h=>by cases h⟩
 | c::r,pre,h,hn=>by
   simp only[NS,qX,A7,CF,Bool.not_eq_true']at h;have hc:c∉pre:=by simpa using h.1.2.2
   obtain⟨h1,h2⟩:=TG r (pre++[c]) h.2 (List.nodup_append.2 ⟨hn,by simp,fun a ha b hb=>by simp at hb;subst hb;exact fun e=>hc (e ▸ ha)⟩);refine⟨by simpa using h1,fun d hd=>?_⟩;rcases Ff.1 hd with rfl|hd
   .exact⟨h.1.1,h.1.2.1⟩
   .exact h2 d hd
def Qy: ∀(g:List (List Int)) (k:Nat),JF k g=true-> ∀(i:Nat) (l:List Int),g[i]? =some l->l.length<=3/\l.Nodup/\ ∀c∈l,(3:Int)<=c/\c<3+((k+i:Nat):Int)
 | [],_,_,_,_,h=>by cases h
 | l ::r,k,h,i,l',hi=>by
   simp only[JF,A7,CF]at h;cases i with
   | zero=>
     simp at hi;subst hi;obtain⟨h1,h2⟩:=TG l [] h.2.1 .nil;exact⟨h.1,by simpa using h1,by simpa using h2⟩
   | succ i=>
     simp at hi;have:=Qy r (k+1) h.2.2 i l' hi;rw[show k+(i+1)=k+1+i by omega];exact this
def D8 {g:List (List Int)} (h:Dz g=true):JI g:=by
 simp only[Dz,A7,CF]at h;refine⟨h.1,fun i l hi=>?_⟩;have:=Qy g 0 h.2 i l hi;simpa using this
def Kl {g:List (List Int)} (h:JI g):ordered g:=by
 intro c p hp;unfold par at hp;split at hp
 .cases hp
 .rename_i h3
  rw[Co]at hp;cases hq:g[c - 3]? with
  | none=>rw[hq]at hp;cases hp
  | some l=>
    rw[hq]at hp;have:=(h.2 _ _ hq).2.2 p hp;omega
def GQ {i:Nat} {cs:List Rp} {c:Int} (h:c∈BO i cs):(3:Int)+i<=c/\c<3+i+cs.length:=by
 induction cs generalizing i with
 | nil=>cases h
 | cons d r ih=>
   simp only[BO,Du,List.mem_replicate]at h;simp only[JU];rcases h with⟨_,rfl⟩|h
   .omega
   .have:=ih h;omega
def Qo {p:Prog} (h1:p.AK.length<=10) (h2:Ch 0 p.AK=true) (h3:Dz (A0 p)=true):Ig (AG p):=by
 have hl:(AG p).parents.length=p.AK.length:=by simp[AG,A0]
 refine⟨by omega,Kl (D8 h3),fun c hc=>?_,?_⟩
 .have:=GQ hc
  rw[hl];omega
 .have:=(Fj _ _ h2).1
  simp only[AG,CX];omega
def db (p : Prog):Pure zP 101 [.a (A3 p)] (.b (BA p)):=by
 refine Pure.fit (by kernel_rfl) fun hf=>?_
 have hP:=H6 hf.1;have hcl:=hP.1;have hM:=Mx;refine wh kZ ?_
 conv=>whnf
 repeat'((first|clear U K|apply st|(apply zk;intro K U)|refine zn ?_|(refine zd (fun hc=>?_) (fun hc=>?_)<;>try exact⟨⟩)|fail)<;>conv=>whnf)
 .exact AF (by simp[BA];intros;omega)
 have h10:p.AK.length<=10:=by omega
 refine Ba p.AK.length (fun k (n:Int)=>[(3,eI n),(4,eI (Au k))]) (fun _ _=>[]) (fun k n=>Ch 0 p.AK=Ch n (p.AK.drop k)/\0<=n/\n+Bl (p.AK.drop k)=Bl p.AK/\n<=4*k) 0 rfl (by simp) Sat.nil ?_;rintro k n Z hk ⟨hn,hn0,hn1,hn2⟩ hs
 conv=>whnf
 repeat'((first|clear U K|apply st|(apply zk;intro K U)|refine zn ?_|(refine fc (fun x hx hlt hc=>?_) (fun hk hc=>?_)<;>(try rw[hc])<;>clear hc)|refine Pure.use (jy _ (by omega)) ?_|refine Pure.use (nj _ _) ?_|(refine zd (fun hc=>?_) (fun hc=>?_)<;>try exact⟨⟩)|fail)<;>conv=>whnf)
 .exact AF (by simp only[BA];rw[hn,drop_cons hx,Ch];simp;intros;omega)
 .have hms:n+(x.AL.length:Int)+Bl (p.AK.drop (k+1))=Bl p.AK:=by
   rw[drop_cons hx]at hn1;simp only[Bl,Cn,List.sum_cons]at hn1 ⊢;omega
  have hsl:=(hP.2 x (BY hx)).2.1
  have hn':Ch 0 p.AK=(Lz n x.AL&&Ch (n+x.AL.length) (p.AK.drop (k+1))):=by
   have a1:x.AL.length<=4:=by omega
   have a2:x.parents.length<=3:=by omega
   rw[hn,drop_cons hx,Ch];simp only[a1,a2,decide_true,Db]
  revert x
  rintro c hx hcs h3 hms hsl hn';refine Ba c.AL.length (fun j (m:Int)=>[(3,eI m),(6,eI (Au j))]) (fun _ _=>[]) (fun j m=>Ch 0 p.AK=(Lz m (c.AL.drop j)&&Ch (n+c.AL.length) (p.AK.drop (k+1)))/\m=n+j) n rfl ⟨hn',by simp⟩ Sat.nil ?_;rintro j m Z hj ⟨hm,he⟩ hs
  conv=>whnf
  repeat'((first|clear U K|apply st|(apply zk;intro K U)|refine zn ?_|(refine fc (fun x hx hlt hc=>?_) (fun hk hc=>?_)<;>(try rw[hc])<;>clear hc)|refine za (fun hc=>?_) fun hc=>?_|fail)<;>conv=>whnf)
  .exact AF (by simp only[BA];rw[hm,drop_cons (by assumption),Lz];simp[hc])
  .refine⟨hlt,_,rfl,⟨?_,?_⟩,hs⟩
   .rw[hm,drop_cons (by assumption),Lz,wrap64 (by omega) (by omega)];simp[hc]
   .rw[wrap64 (by omega) (by omega)];omega
  .refine⟨by assumption,m,rfl,⟨?_,by omega,by omega,by omega⟩,hs⟩
   rw[hm,Ad (by assumption),Lz,Db,he];congr 1;omega
 .exact AF (by simp only[BA];rw[hn,drop_cons hx,Ch];simp;intros;omega)
 .have hne:n=Bl p.AK:=by rw[Ad hk]at hn1;simpa[Bl]using hn1
  exact AF (by simp only[BA];rw[hc];simp)
 .have hne:n=Bl p.AK:=by rw[Ad hk]at hn1;simpa[Bl]using hn1
  have hsb:Ch 0 p.AK=true:=by rw[hn,Ad hk];rfl
  have hms:=(Fj _ _ hsb).1;have hok:=Qo h10 hsb hc
  have hcb:BA p=Gc (AG p) n 0 p.AK:=by
   simp only[BA,hsb,hc,<-hne];simp[*]
  refine(O4 p hP (by omega) (by omega)).use ?_
  conv=>whnf
  repeat'((first|clear U K|apply st|(apply zk;intro K U)|refine zr fun Z hs=>?_|refine zp fun nn hnn Z hs=>?_|fail)<;>conv=>whnf)
  refine Ba p.AK.length (fun k (_:Unit)=>[(9,eI (Au k))]) (fun _ _=>[.box nn (Ax (AG p))]) (fun k _=>BA p=Gc (AG p) n k (p.AK.drop k)) () rfl (by rw[hcb];rfl) hs ?_;rintro k - Z hk hn hs
  conv=>whnf
  repeat'((first|clear U K|apply st|(apply zk;intro K U)|refine zn ?_|(refine fc (fun x hx hlt hc=>?_) (fun hk hc=>?_)<;>(try rw[hc])<;>clear hc)|fail)<;>conv=>whnf)
  .have e3 : IntKind.i64.wrap (Au k+3)=(k:Int)+3:=by rw[AW (by omega),wrap64 (by omega) (by omega)]
   rw[e3];have hgl:(A0 p).length=p.AK.length:=by simp[A0]
   refine(sS (A0 p) false ((k:Int)+3) (D8 hc) (by omega) (by omega)).use ?_
   conv=>whnf
   repeat'((first|clear U K|apply st|(apply zk;intro K U)|refine zn ?_|refine za (fun hc=>?_) fun hc=>?_|fail)<;>conv=>whnf)
   .have hlb:lg (AG p).parents ((k:Int)+3)=false:=by
     show(!((B6 (A0 p)).getD ((k:Int)+3).toNat []).isEmpty)=false;rw[hc];rfl
    exact AF (by rw[hn,drop_cons hx,Gc,hlb];rfl)
   .have hil:=(hP.2 x (BY hx)).2.2
    have hn':BA p=(ER (AG p) ((k:Int)+3) n [] x.inits&&Gc (AG p) n (k+1) (p.AK.drop (k+1))):=by
     have hlb:lg (AG p).parents ((k:Int)+3)=true:=by
      show(!((B6 (A0 p)).getD ((k:Int)+3).toNat []).isEmpty)=true;rw[hc];rfl
     rw[hn,drop_cons hx,Gc,hlb];rfl
    revert x
    rintro c hx hil hn';refine Ba c.inits.length (fun j (_:Unit)=>[(14,eI (Au j))]) (fun _ _=>[.box nn (Ax (AG p))]) (fun j _=>BA p=(ER (AG p) ((k:Int)+3) n (c.inits.take j) (c.inits.drop j)&&Gc (AG p) n (k+1) (p.AK.drop (k+1)))) () rfl (by rw[hn'];rfl) hs ?_;rintro j - Z hj hm hs
    conv=>whnf
    repeat'((first|clear U K|apply st|(apply zk;intro K U)|refine zn ?_|(refine fc (fun x hx hlt hc=>?_) (fun hk hc=>?_)<;>(try rw[hc])<;>clear hc)|refine za (fun hc=>?_) fun hc=>?_|fail)<;>conv=>whnf)
    .refine(gI (AG p) ((k:Int)+3) x.1 hok (by omega) (by rw[show(AG p).parents=A0 p from rfl];omega) (by omega) (by rw[show(AG p).owner=BO 0 p.AK from rfl,CX];omega)).use ?_
     conv=>whnf
     repeat'((first|clear U K|apply st|(apply zk;intro K U)|refine zn ?_|refine Pure.use (pb _) ?_|refine za (fun hc=>?_) fun hc=>?_|fail)<;>conv=>whnf)
     .exact AF (by rw[hm,drop_cons hx,ER];simp[*])
     .have hm':BA p=((c.inits.take j).all (fun y=>y.1 != x.1)&&(ER (AG p) ((k:Int)+3) n (c.inits.take (j+1)) (c.inits.drop (j+1))&&Gc (AG p) n (k+1) (p.AK.drop (k+1)))):=by
       have b1:decide (0<=x.1)=true:=decide_eq_true (by assumption);have b2:decide (x.1<n)=true:=decide_eq_true (by assumption);rw[hm,drop_cons hx,ER,AO hx,b1,b2,‹hasB _ _ _=true›,hc];simp only[Db,Bool.and_assoc]
      revert x
      rintro x hxj hx0 hx1 hhb hbt hm';refine Ba j (fun i (_:Unit)=>[(15,eI (Au i))]) (fun _ _=>[.box nn (Ax (AG p))]) (fun i _=>BA p=(((c.inits.take j).drop i).all (fun y=>y.1 != x.1)&&(ER (AG p) ((k:Int)+3) n (c.inits.take (j+1)) (c.inits.drop (j+1))&&Gc (AG p) n (k+1) (p.AK.drop (k+1))))) () rfl (by rw[hm'];rfl) hs ?_;rintro i - Z hi hl hs;rcases Nat.lt_or_ge i j with hij|hij
      .obtain⟨y,hy⟩: ∃y,c.inits[i]? =some y:=⟨_,CQ (by omega)⟩
       have hy':(c.inits.take j)[i]? =some y:=by rw[List.getElem?_take,if_pos hij,hy]
       conv=>whnf
       repeat'((first|clear U K|apply st|(apply zk;intro K U)|refine zn ?_|(refine zb (fun hc=>?_) (fun hc=>?_)<;>try exact⟨⟩)|fail)<;>conv=>whnf)
       .exact AF (by rw[hl,drop_cons hy',Jd,hc];simp)
       .refine⟨hij,(),rfl,?_,hs⟩
        have hc':(y.1 != x.1)=true:=by simpa using hc
        rw[hl,drop_cons hy',Jd,hc',Db]
      .conv=>whnf
       repeat'((first|clear U K|apply st|(apply zk;intro K U)|refine zn ?_|(refine zb (fun hc=>?_) (fun hc=>?_)<;>try exact⟨⟩)|fail)<;>conv=>whnf)
       refine⟨by assumption,(),rfl,?_,hs⟩;rw[hl,List.drop_of_length_le (by rw[Ib];omega),List.all_nil,Db]
     .exact AF (by rw[hm,drop_cons hx,ER];simp[*])
    .exact AF (by rw[hm,drop_cons hx,ER];simp;intros;omega)
    .exact AF (by rw[hm,drop_cons hx,ER];simp;intros;omega)
    .refine⟨by assumption,(),rfl,?_,hs⟩
     rw[hm,Ad hk,ER,Db]
  .exact AF (by rw[hn,Ad hk];rfl)
 .have hne:n=Bl p.AK:=by rw[Ad hk]at hn1;simpa[Bl]using hn1
  exact AF (by simp only[BA];rw[<-hne];simp[hc])
def Fy (f:Int->Int->List Int->Option (List Int)) (op size:Int):Nat->List Int->List Int->Option (List Int)
 | _,[],s=>some s
 | i,k::r,s=>match f k (if op=9/\i=1 then size+1 else size) s with
   | none=>none
   | some s'=>Fy f op size (i+1) r s'
def EO (p:Prog) (next:Bool) (size:Int) (x:Node):Bool:=((x.kids.length:Int)==Jq p x)&&(NO p x size&&(x.op != 18||next))
def CK (p:Prog) (next:Bool):Nat->Int->Int->List Int->Option (List Int)
 | 0,_,_,_=>none
 | d+1,n,size,s=>
   if n<0\/(p.nodes.length:Int)<=n\/0<=s.getD n.toNat 0 then none else
   match p.nodes[n.toNat]? with
   | none=>none
   | some x=>if EO p next size x then Fy (CK p next d) x.op size 0 x.kids (s.set n.toNat size)else none
def Vp (v:V) (s:List Int) (o:Option (List Int)) (r:R) (post:List At):Prop:=
 ∃s':List Int,s'.length=s.length/\post= [.own v 1 (iL s')]/\((o=some s'/\r= .ret (.b true))\/(o=none/\r= .ret (.b false)))
def Pt {v:V} {s s':List Int} {o:Option (List Int)} {Z:AD} {rest:List At} (hs:Sat Z (.own v 1 (iL s')::rest)) (hl:s'.length=s.length) (ho:o=none):Af Z (.b false) fun r Z'=> ∃post,Vp v s o r post/\Sat Z' post:=
 Aj hs (.cons₂ _ (Ie _)) (.refl _) fun Z' hs'=>⟨_,⟨s',hl,rfl,.inr ⟨ho,rfl⟩⟩,hs'⟩
def gN {p:Prog} (h:Fb (.a (A3 p))) {x:Node} (hx:x∈p.nodes):x.kids.length<=AZ:=by
 simp only[A3,Hk,Dg,Hj,J5]at h
 have h2:Ih (JL x):=by
  first|exact h.2.2.2.2.1.2 x hx|exact h.2.2.2.2.2.1.2 x hx|exact h.2.2.2.1.2 x hx|exact h.2.2.1.2 x hx|exact h.2.1.2 x hx
 simp only[JL,Dg,Hj,Bh]at h2
 first|exact h2.2.2.1.1|exact h2.2.2.1|exact h2.1
def O5 {p:Prog} {next:Bool} {d:Nat} {n size:Int} {s:List Int} {x:Node} {y:Int} (h0:0<=n) (h1:n<(p.nodes.length:Int)) (hs:s[n.toNat]? =some y) (hy:y<0) (hx:p.nodes[n.toNat]? =some x) :
    CK p next (d+1) n size s=if EO p next size x then Fy (CK p next d) x.op size 0 x.kids (s.set n.toNat size)else none:=by
 have e:s.getD n.toNat 0=y:=by rw[Co,hs];rfl
 simp only[CK];rw[if_neg (by rw[e];omega),hx]
def Nn {p:Prog} {next:Bool} {d:Nat} {n size:Int} {s:List Int} (h:n<0\/(p.nodes.length:Int)<=n\/0<=s.getD n.toNat 0):CK p next (d+1) n size s=none:=by
 simp only[CK];rw[if_pos h]
def fV (p : Prog) (next:Bool): ∀d:Nat,d<=12-> ∀(n size depth:Int) (s:List Int) (v:V),depth=13 - d->0<=size->size+d<=100->s.length=p.nodes.length->(Bd v).isSome=true->
    BL zP 104 [.a (A3 p),eI n,eI size,eI depth,.b next,v] [.own v 1 (iL s)] (Vp v s (CK p next d n size s)):=by
 intro d
 induction d with
 | zero=>
   intro _ n size depth s v hd h0 h1 hl hv Z hs;refine As.fit (by kernel_rfl) fun hf=>?_
   have⟨p1,p2,p3,p4⟩:=F0 hf.1;have hM:=Mx;refine gr kZ ?_
   conv=>whnf
   repeat'((first|clear U K|apply st|(apply zk;intro K U)|refine zn ?_|refine ze fun x hx=>?_|(refine zb (fun hc=>?_) (fun hc=>?_)<;>try exact⟨⟩)|fail)<;>conv=>whnf)
   all_goals exact Aj hs (.refl _) (.refl _) fun Z' hs'=>⟨_,⟨s,rfl,rfl,.inr ⟨rfl,rfl⟩⟩,hs'⟩
 | succ d ih =>
   intro hd12 n size depth s v hd h0 h1 hl hv Z hs;refine As.fit (by kernel_rfl) fun hf=>?_
   have⟨p1,p2,p3,p4⟩:=F0 hf.1;have hM:=Mx;refine gr kZ ?_
   conv=>whnf
   repeat'((first|clear U K|apply st|(apply zk;intro K U)|refine zn ?_|refine rk ?_ ?_|exact fun s e=>by cases e;rfl|refine ze fun x hx=>?_|refine zr fun Z hs=>?_|refine Pure.use (nU _ _) ?_|refine Pure.use (cS _ _ _) ?_|(refine zb (fun hc=>?_) (fun hc=>?_)<;>try exact⟨⟩)|refine zp fun nn hnn Z hs=>?_|fail)<;>conv=>whnf)
   .exact Pt hs (by simp) (by rw[O5 (by assumption) (by assumption) (by assumption) (by assumption) hx];simp[EO, *])
   rotate_left
   .cases hc
   rotate_left
   .exact Pt hs (by simp) (by rw[O5 (by assumption) (by assumption) (by assumption) (by assumption) hx];simp[EO, *])
   .exact Pt hs (by simp) (by rw[O5 (by assumption) (by assumption) (by assumption) (by assumption) hx];simp[EO, *])
   .exact Pt hs rfl (Nn (.inr (.inr (by rw[Co,hx];exact hc))))
   .exact Pt hs rfl (Nn (.inr (.inl hc)))
   .exact Pt hs rfl (Nn (.inl hc))
   all_goals
    have hW:CK p next (d+1) n size s=Fy (CK p next d) x.op size 0 x.kids (s.set n.toNat size):=by
     rw[O5 (by assumption) (by assumption) (by assumption) (by assumption) hx];simp[EO, *]
    rw[hW]
    rename Node=>nd
    refine Ba nd.kids.length (fun k (_:List Int)=>[(14,eI (Au k))]) (fun _ s'=>[.own v 1 (iL s'),.obj nn (.cs (JL nd))]) (fun k s'=>s'.length=s.length/\Fy (CK p next d) nd.op size 0 nd.kids (s.set n.toNat size)=Fy (CK p next d) nd.op size k (nd.kids.drop k) s') (s.set n.toNat size) rfl ⟨by simp,by simp⟩ hs ?_;clear hs;rintro k s' Z hk ⟨hl',hkids⟩ hs;have hkm:=gN hf.1 (BY hx);have hck:Au k=k:=AW (by omega);by_cases hlt:k<nd.kids.length
    .obtain⟨kid,hkid⟩: ∃kid,nd.kids[k]? =some kid:=⟨_,CQ hlt⟩
     have hrec:=fun kid sz h0 h1=>ih (by omega) kid sz (depth+1) s' v (by omega) h0 h1 (by omega) hv
     conv=>whnf
     repeat'((first|clear U K|apply st|(apply zk;intro K U)|refine zn ?_|(refine fc (fun x hx hlt hc=>?_) (fun hk hc=>?_)<;>(try rw[hc])<;>clear hc)|(refine zb (fun hc=>?_) (fun hc=>?_)<;>try exact⟨⟩)|fail)<;>conv=>whnf)
     all_goals try(exfalso;omega)
     all_goals try refine Jl (enc:=fun i:Int=>[V.i .i64 i]) hkid hkm rfl ?_
     conv=>whnf
     all_goals try(exfalso;omega)
     all_goals
      have hK2:=hkids;rw[drop_cons hx,Fy]at hK2
      first
       | rw[if_pos (by omega)]at hK2
         rw[wrap64 (by omega) (by omega),wrap64 (by omega) (by omega)];refine(hrec x (size+1) (by omega) (by omega)).use hs ?_
       | rw[if_neg (by omega)]at hK2
         rw[wrap64 (by omega) (by omega)];refine(hrec x size (by omega) (by omega)).use hs ?_
      rintro r post Z' ⟨s2,hl2,rfl,⟨ho,rfl⟩|⟨ho,rfl⟩⟩ hs
      .rw[ho]at hK2
       conv=>whnf
       repeat'((first|clear U K|apply st|(apply zk;intro K U)|refine zn ?_|(refine zd (fun hc=>?_) (fun hc=>?_)<;>try exact⟨⟩)|fail)<;>conv=>whnf)
       all_goals first|(exfalso;cases hc;done)|exact⟨hlt,s2,rfl,⟨by omega,hK2⟩,hs⟩
      .rw[ho]at hK2
       conv=>whnf
       repeat'((first|clear U K|apply st|(apply zk;intro K U)|refine zn ?_|(refine zd (fun hc=>?_) (fun hc=>?_)<;>try exact⟨⟩)|fail)<;>conv=>whnf)
       all_goals first|exact Pt hs (by omega) hK2|(exfalso;cases hc;done)
    .have hke:k=nd.kids.length:=by omega
     conv=>whnf
     repeat'((first|clear U K|apply st|(apply zk;intro K U)|refine zn ?_|(refine fc (fun x hx hlt hc=>?_) (fun hk hc=>?_)<;>(try rw[hc])<;>clear hc)|(refine zb (fun hc=>?_) (fun hc=>?_)<;>try exact⟨⟩)|fail)<;>conv=>whnf)
     all_goals try(exfalso;omega)
     rw[hke,Ad rfl]at hkids;exact Aj hs (.cons₂ _ (Ie _)) (.refl _) fun Z' hs'=>⟨_,⟨s',hl',rfl,.inl ⟨(by first|rw[hW,hkids,Fy]|rw[hkids,Fy]),rfl⟩⟩,hs'⟩
def Q8 {w:AE} (f:Fact):An w f=true->SS f=true:=by
 induction f using Fact.ind with
 | h f ih=>
   intro h;rw[Be]at h;simp only[Cf,A7,DT,CF]at h;rw[Qk];simp only[A7,CF,List.all_map,DT,Function.comp_apply,id];exact⟨⟨h.1.2.2.1,h.1.2.2.2.1⟩,fun k hk=>ih k hk (h.2 k hk)⟩
def PW (p:Prog) (m:L5):Bool:=decide (1<=m.kind)&&(decide (m.kind<=4)&&(decide (0<=m.gen)&&(decide (m.gen<(p.Cc.length:Int))&&(Bv (AG p) m.fact&&decide (Gd m.fact<=p.Cc.getD m.gen.toNat 0)))))
def runM (p:Prog):List L5->List Int->Option (List Int)
 | [],s=>some s
 | m::r,s=>if PW p m then match CK p (K5 m.kind) 12 m.node (p.Cc.getD m.gen.toNat 0) s with
   | none=>none
   | some s'=>runM p r s' else none
def Cx (p:Prog):Bool:=BA p&&(decide (p.Cc.length<=8)&&(decide (p.methods.length<=16)&&(decide (1<=p.nodes.length)&&(decide (p.nodes.length<=120)&&p.Cc.all fun g=>decide (1<=g)&&decide (g<=3)))))
def BQ (p:Prog):Option (List Int):=if Cx p then match runM p p.methods (List.replicate p.nodes.length (-1))with
 | none=>none
 | some s=>match CK p false 12 p.main 0 s with
   | none=>none
   | some s=>if s.all fun n=>decide (0<=n)then some s else none else none
def K6 (p:Prog):Option (List Int)->Option (List Int)
 | none=>none
 | some s=>match CK p false 12 p.main 0 s with
   | none=>none
   | some s=>if s.all fun n=>decide (0<=n)then some s else none
def OG (p:Prog):V:=match BQ p with
 | none=> .t [.l [] true,.b false]
 | some s=> .t [.l (iL s) false,.b true]
def pW {p:Prog} (h:BQ p=none):OG p= .t [.l [] true,.b false]:=by simp only[OG,h]
def yW {p:Prog} (h:Cx p=false):OG p= .t [.l [] true,.b false]:=pW (by unfold BQ;rw[h];rfl)
def MB {p:Prog} {Z:AD} (h:BQ p=none):Af Z (.t [.l [] true,.b false]) fun r Z'=>r=R.ret (OG p)/\Z'=emp:=by
 rw[pW h];exact AF rfl
def Ps {p:Prog} {Z:AD} (h:Cx p=false):Af Z (.t [.l [] true,.b false]) fun r Z'=>r=R.ret (OG p)/\Z'=emp:=by
 rw[yW h];exact AF rfl
def aF {p:Prog} (h:Cx p=true):BQ p=K6 p (runM p p.methods (List.replicate p.nodes.length (-1))):=by
 unfold BQ;rw[if_pos h];rfl
def Dd {p:Prog} {k:Nat} {x:L5} {s:List Int} (hx:p.methods[k]? =some x) (hn:BQ p=K6 p (runM p (p.methods.drop k) s)) (hok:PW p x=false):BQ p=none:=by
 rw[hn,drop_cons hx,runM,if_neg (by simp[hok])];rfl
def Sj {p:Prog} {k:Nat} {x:L5} {s:List Int} (hx:p.methods[k]? =some x) (hn:BQ p=K6 p (runM p (p.methods.drop k) s)) (hok:PW p x=true) (hw:CK p (K5 x.kind) 12 x.node (p.Cc.getD x.gen.toNat 0) s=none):BQ p=none:=by
 rw[hn,drop_cons hx,runM,if_pos hok,hw];rfl
def Zq {p:Prog} {k:Nat} {x:L5} {s s':List Int} (hx:p.methods[k]? =some x) (hn:BQ p=K6 p (runM p (p.methods.drop k) s)) (hok:PW p x=true) (hw:CK p (K5 x.kind) 12 x.node (p.Cc.getD x.gen.toNat 0) s=some s'):BQ p=K6 p (runM p (p.methods.drop (k+1)) s'):=by
 rw[hn,drop_cons hx,runM,if_pos hok,hw]
def S4 {p:Prog} (h:Cx p=true) {k:Nat} {x:Int} (hx:p.Cc[k]? =some x):1<=x/\x<=3:=by
 simp only[Cx,A7,DT,CF]at h;exact h.2.2.2.2.2 x (BY hx)
def sP (p:Prog):Pure zP 47 [.a (A3 p)] (OG p):=by
 refine Pure.fit (by kernel_rfl) fun hf=>?_
 have⟨p1,p2,p3,p4⟩:=F0 hf.1;have hM:=Mx;refine zQ kZ ?_;have hs:=Sn
 conv=>whnf
 repeat'((first|apply st|(apply sq;intro K U)|(apply si;intro A B hA hB)|(refine hA _ _ ?_;clear hB B hA A)|(apply U;clear U K)|refine⟨rfl,?_⟩|refine⟨kZ,?_⟩|refine Pure.use (db _) ?_|(constructor<;>intro hc<;>(try rw[hc])<;>(replace hc:=bp hc)<;>(try simp(disch:=omega) only[Bh,wrap64,AW]at hc))|clear U K)<;>conv=>whnf)
 .exact Ps (by simp[Cx];intros;omega)
 rotate_left
 .exact Ps (by simp[Cx];intros;omega)
 .exact Ps (by simp[Cx];intros;omega)
 .exact Ps (by simp[Cx];intros;omega)
 .exact Ps (by simp[Cx, *])
 have a1:p.Cc.length<=8:=by omega
 have a2:p.methods.length<=16:=by omega
 have a3:1<=p.nodes.length:=by omega
 have a4:p.nodes.length<=120:=by omega
 have hg:Cx p=p.Cc.all fun g=>decide (1<=g)&&decide (g<=3):=by
  simp only[Cx,a1,a2,a3,a4,decide_true,Db];simp[*]
 refine Ba p.Cc.length (fun k (_:Unit)=>[(4,eI (Au k))]) (fun _ _=>[]) (fun k _=>Cx p=(p.Cc.drop k).all fun g=>decide (1<=g)&&decide (g<=3)) () rfl (by simpa using hg) hs ?_;clear hs;rintro k - Z hk hn hs
 conv=>whnf
 repeat'((first|apply st|(apply sq;intro K U)|(apply si;intro A B hA hB)|(refine hA _ _ ?_;clear hB B hA A)|(apply U;clear U K)|refine⟨rfl,?_⟩|refine ix ?_|(refine fc (fun x hx hlt hc=>?_) (fun hk hc=>?_)<;>(try rw[hc])<;>clear hc)|(constructor<;>intro hc<;>(try rw[hc])<;>(replace hc:=bp hc))|clear U K)<;>conv=>whnf)
 .exact Ps (by rw[hn,drop_cons hx];simp;intros;omega)
 .exact⟨hlt,(),rfl,by rw[hn,drop_cons hx];simp[*],hs⟩
 .exact Ps (by rw[hn,drop_cons hx];simp;intros;omega)
 have hh:Cx p=true:=by rw[hn,Ad hk];rfl
 have hP:=H6 hf.1;have hcB:BA p=true:=by assumption
 have hsb:Ch 0 p.AK=true:=by simp only[BA,A7]at hcB;exact hcB.2.1
 have hc10:p.AK.length<=1000:=by simp only[BA,A7,CF]at hcB;omega
 have hmS:Bl p.AK<=AZ:=by have:=(Fj _ _ hsb).1;simp only[BA,A7,CF]at hcB;omega
 have hL:=aF hh;clear hn hg;refine Ba p.nodes.length (fun j v=>[(5,v),(6,eI (Au j))]) (fun j v=>[.own v 1 (iL (List.replicate j (-1)))]) (fun j v=>1<=j->(Bd v).isSome=true) (.l [] true) rfl (fun h=>by omega) (Ce hs 1) ?_;clear hs;rintro j v Z hj hv hs
 conv=>whnf
 repeat'((first|apply st|(apply sq;intro K U)|(apply si;intro A B hA hB)|(refine hA _ _ ?_;clear hB B hA A)|(apply U;clear U K)|refine⟨rfl,?_⟩|refine⟨kZ,?_⟩|refine sn fun Z hs=>?_|refine aq fun v Z hs hsl=>?_|(refine fc (fun x hx hlt hc=>?_) (fun hk hc=>?_)<;>(try rw[hc])<;>clear hc)|refine Pure.use (O4 _ (by assumption) (by omega) (by assumption)) ?_|(intro nn hnn;generalize hg:Bz _ nn _=Z;refine al hg fun hs=>?_;clear hg)|clear U K)<;>conv=>whnf)
 .exact⟨hlt,_,rfl,fun _=>hsl,by rw[List.replicate_succ'];exact hs⟩
 have hsv:=hv (by omega);subst hk;refine Ba p.methods.length (fun k (s:List Int)=>[(8,eI (Au k))]) (fun _ s=>[.own v 1 (iL s),.box nn (Ax (AG p))]) (fun k s=>s.length=p.nodes.length/\BQ p=K6 p (runM p (p.methods.drop k) s)) (List.replicate p.nodes.length (-1)) rfl ⟨by simp,hL⟩ hs ?_;clear hs;rintro k s Z hk ⟨hl,hn⟩ hs
 conv=>whnf
 repeat'((first|apply st|(apply sq;intro K U)|(apply si;intro A B hA hB)|(refine hA _ _ ?_;clear hB B hA A)|(apply U;clear U K)|apply dr|refine rk ?_ ?_|exact fun s e=>by cases e;rfl|refine⟨rfl,?_⟩|refine⟨kZ,?_⟩|refine ix ?_|refine iq fun x hx=>?_|refine ld ?_|refine sn fun Z hs=>?_|(refine fc (fun x hx hlt hc=>?_) (fun hk hc=>?_)<;>(try rw[hc])<;>clear hc)|refine Pure.use (j3 _ _) ?_|(constructor<;>intro hc<;>(try rw[hc])<;>(replace hc:=bp hc)<;>(try simp(disch:=omega) only[Bh,wrap64,AW]at hc))|(intro nn hnn;generalize hg:Bz _ nn _=Z;refine al hg fun hs=>?_;clear hg)|clear U K)<;>conv=>whnf)
 rotate_left
 .exact MB (Dd hx hn (by simp[PW, *]))
 .exact MB (Dd hx hn (by simp[PW];intros;omega))
 .exact MB (Dd hx hn (by simp[PW];intros;omega))
 .exact MB (Dd hx hn (by simp[PW];intros;omega))
 .exact MB (Dd hx hn (by simp[PW];intros;omega))
 .refine(fV p false 12 (G0 _) p.main 0 1 s v rfl (by omega) (by omega) hl hsv).use hs ?_
  clear hs;rintro r post Z ⟨s2,hl2,rfl,⟨ho,rfl⟩|⟨ho,rfl⟩⟩ hs
  .conv=>whnf
   repeat'((first|apply st|(apply sq;intro K U)|(apply si;intro A B hA hB)|(refine hA _ _ ?_;clear hB B hA A)|(apply U;clear U K)|(constructor<;>intro hc<;>(try rw[hc])<;>(replace hc:=bp hc)<;>(try simp(disch:=omega) only[Bh,wrap64,AW]at hc))|clear U K)<;>conv=>whnf)
   .cases hc
   have hz:BQ p=if s2.all fun n=>decide (0<=n)then some s2 else none:=by rw[hn,Ad hk,runM,K6,ho]
   refine Ba s2.length (fun j (_:Unit)=>[(10,eI (Au j))]) (fun _ _=>[.own v 1 (iL s2),.box nn (Ax (AG p))]) (fun j _=>BQ p=if(s2.drop j).all fun n=>decide (0<=n)then some s2 else none) () rfl hz hs ?_;clear hs;rintro j - Z hj hz hs
   conv=>whnf
   repeat'((first|apply st|(apply sq;intro K U)|(apply si;intro A B hA hB)|(refine hA _ _ ?_;clear hB B hA A)|(apply U;clear U K)|refine⟨rfl,?_⟩|refine oc ?_|refine ol fun x hx=>?_|(refine fc (fun x hx hlt hc=>?_) (fun hk hc=>?_)<;>(try rw[hc])<;>clear hc)|refine lo ?_|(constructor<;>intro hc<;>(try rw[hc])<;>(replace hc:=bp hc))|clear U K)<;>conv=>whnf)
   .exact MB (by rw[hz,drop_cons hx,Jd,if_neg];simp;intros;omega)
   .exact⟨hlt,(),rfl,by rw[hz,drop_cons hx,Jd];simp[*],hs⟩
   .have hz2:BQ p=some s2:=by rw[hz,Ad (by assumption)];rfl
    simp only[OG,hz2];exact AY (.t (.cons (hs.Ic 0 rfl) (.cons (.refl _) .nil)))
  .conv=>whnf
   repeat'((first|apply st|(apply sq;intro K U)|(apply si;intro A B hA hB)|(refine hA _ _ ?_;clear hB B hA A)|(apply U;clear U K)|(constructor<;>intro hc<;>(try rw[hc])<;>(replace hc:=bp hc)<;>(try simp(disch:=omega) only[Bh,wrap64,AW]at hc))|clear U K)<;>conv=>whnf)
   .exact MB (by rw[hn,Ad hk,runM,K6,ho])
   .cases hc
 rename L5=>m
 rename p.methods[k]? =some m=>hm
 refine(jB m.fact (Q8 _ (by(have:Bv (AG p) m.fact=true:=by assumption);simp only[Bv,A7]at this;exact this.2.2))).use ?_
 conv=>whnf
 repeat'((first|apply st|(apply sq;intro K U)|(apply si;intro A B hA hB)|(refine hA _ _ ?_;clear hB B hA A)|(apply U;clear U K)|apply dr|refine rk ?_ ?_|exact fun s e=>by cases e;rfl|refine⟨rfl,?_⟩|refine⟨kZ,?_⟩|refine iq fun x hx=>?_|refine ld ?_|refine Pure.use (sH _) ?_|(constructor<;>intro hc<;>(try rw[hc])<;>(replace hc:=bp hc))|clear U K)<;>conv=>whnf)
 .exact MB (Dd hm hn (by simp[PW,Co,hx];intros;omega))
 obtain⟨hx1,hx3⟩:=S4 hh hx;have hgd:p.Cc.getD m.gen.toNat 0=x:=by rw[Co,hx];rfl
 rename p.Cc[m.gen.toNat]? =some _=>hx2
 have hxe:=Option.some.inj (hx.symm.trans hx2);subst hxe;have hok:PW p m=true:=by simp only[PW,hgd,A7,CF];exact⟨by assumption,by omega,by assumption,by assumption,by assumption,by assumption⟩
 refine(fV p (K5 m.kind) 12 (G0 _) m.node x 1 s v rfl (by omega) (by omega) hl hsv).use (rest:=[_,_]) hs ?_;clear hs;rintro r post Z ⟨s2,hl2,rfl,⟨ho,rfl⟩|⟨ho,rfl⟩⟩ hs
 .conv=>whnf
  repeat'((first|apply st|(apply sq;intro K U)|(apply si;intro A B hA hB)|(refine hA _ _ ?_;clear hB B hA A)|(apply U;clear U K)|apply dr|refine⟨rfl,?_⟩|(constructor<;>intro hc<;>(try rw[hc])<;>(replace hc:=bp hc)<;>(try simp(disch:=omega) only[Bh,wrap64,AW]at hc))|clear U K)<;>conv=>whnf)
  .cases hc
  .exact⟨by assumption,s2,rfl,⟨by omega,Zq hm hn hok (by rw[hgd];exact ho)⟩,hs.less (.cons₂ _ (.cons₂ _ (Ie _)))⟩
 .conv=>whnf
  repeat'((first|apply st|(apply sq;intro K U)|(apply si;intro A B hA hB)|(refine hA _ _ ?_;clear hB B hA A)|(apply U;clear U K)|apply dr|refine⟨rfl,?_⟩|(constructor<;>intro hc<;>(try rw[hc])<;>(replace hc:=bp hc)<;>(try simp(disch:=omega) only[Bh,wrap64,AW]at hc))|clear U K)<;>conv=>whnf)
  .exact MB (Sj hm hn hok (by rw[hgd];exact ho))
  .cases hc
def rY (p:Prog):Pure zP 13 [.a (A3 p)] (.b (BQ p).isSome):=by
 refine zw kZ ?_;have h:=sP p;unfold OG at h;cases hl:BQ p with
 | none=>
   rw[hl]at h
   conv=>whnf
   repeat'((first|clear U K|apply st|(apply zk;intro K U)|refine zn ?_|refine zC ?_|fail)<;>conv=>whnf)
   all_goals exact AF (by first|rfl|simp)
 | some s=>
   rw[hl]at h
   conv=>whnf
   repeat'((first|clear U K|apply st|(apply zk;intro K U)|refine zn ?_|refine zC ?_|fail)<;>conv=>whnf)
   all_goals exact AF (by first|rfl|simp)
def Ep (xs ys:List Int) (f g:Bool):Pure zP 17 [.l (iL xs) f,.l (iL ys) g] (.b (xs==ys)):=by
 refine Pure.fit (by kernel_rfl) fun hf=>?_
 have hx:=L8 hf.1;have hy:=L8 hf.2.1;have hM:=Mx;refine zt kZ ?_;have hs:=Sn
 conv=>whnf
 repeat'((first|clear U K|apply st|(apply zk;intro K U)|refine zn ?_|(refine zd (fun hc=>?_) (fun hc=>?_)<;>try exact⟨⟩)|fail)<;>conv=>whnf)
 .exact AF (by(have:(xs==ys)=false:=by(simp;intro e;subst e;simp at hc));rw[this])
 have hl:xs.length=ys.length:=by omega
 refine Ba xs.length (fun k (_:Unit)=>[(13,eI (Au k))]) (fun _ _=>[]) (fun k _=>(xs==ys)=(xs.drop k==ys.drop k)) () rfl rfl Sat.nil ?_;clear hs;rintro k - Z hk hn hs;by_cases hlt:k<xs.length
 .obtain⟨y,hyk⟩: ∃y,ys[k]? =some y:=⟨_,CQ (by omega)⟩
  conv=>whnf
  repeat'((first|clear U K|apply st|(apply zk;intro K U)|refine zn ?_|(refine fc (fun x hx hlt hc=>?_) (fun hk hc=>?_)<;>(try rw[hc])<;>clear hc)|refine za (fun hc=>?_) fun hc=>?_|fail)<;>conv=>whnf)
  .exact AF (by rw[hn,drop_cons hx,drop_cons hyk];simp[hc])
  .exact⟨hlt,(),rfl,by rw[hn,drop_cons hx,drop_cons hyk,hc];simp,hs⟩
  .omega
 .conv=>whnf
  repeat'((first|clear U K|apply st|(apply zk;intro K U)|refine zn ?_|refine ze fun x hx=>?_|(refine fc (fun x hx hlt hc=>?_) (fun hk hc=>?_)<;>(try rw[hc])<;>clear hc)|(refine zb (fun hc=>?_) (fun hc=>?_)<;>try exact⟨⟩)|fail)<;>conv=>whnf)
  exact AF (by rw[hn,Ad hk,Ad (by omega)];rfl)
def Jm:List (Fact->Bool)->List Fact->Bool
 | h::r,k::s=>h k&&Jm r s
 | _,_=>true
def pD (f:Fact) (l:List (Fact->Bool)) (g:Fact):Bool:=f.op==g.op&&(f.arg==g.arg&&(f.cls==g.cls&&(f.n==g.n&&(f.path==g.path&&(f.kids.length==g.kids.length&&Jm l g.kids)))))
def CR (f:Fact):Fact->Bool:=f.Fv pD
def J0 (f g:Fact):CR f g=(f.op==g.op&&(f.arg==g.arg&&(f.cls==g.cls&&(f.n==g.n&&(f.path==g.path&&(f.kids.length==g.kids.length&&Jm (f.kids.map CR) g.kids)))))):=congrFun (Fact.CT pD f) g
def Wt {xs ys:List Fact} (h: ∀x∈xs,∀y,CR x y=true↔x=y) (hl:xs.length=ys.length):Jm (xs.map CR) ys=true↔xs=ys:=by
 induction xs generalizing ys with
 | nil=>cases ys with
   | nil=>simp[Jm]
   | cons _ _=>simp at hl
 | cons x r ih=>cases ys with
   | nil=>simp at hl
   | cons y s=>
     simp only[Cn,Jm,A7,List.cons.injEq];rw[h x (.head _) y,ih (fun x hx=>h x (.tail _ hx)) (by simpa using hl)]
def E2 (f g:Fact):CR f g=true↔f=g:=by
 induction f using Fact.ind generalizing g with
 | h f ih=>
   rw[J0];cases f with
   | mk o a p c n k=>cases g with
     | mk o' a' p' c' n' k'=>
       simp only[Fact.op,Fact.arg,Fact.cls,Fact.n,Fact.path,Fact.kids,A7,Cd,Fact.mk.injEq]at *;constructor
       .rintro⟨rfl,rfl,rfl,rfl,rfl,hl,h⟩
        exact⟨rfl,rfl,rfl,rfl,rfl,(Wt (fun x hx y=>ih x hx y) hl).1 h⟩
       .rintro⟨rfl,rfl,rfl,rfl,rfl,rfl⟩
        exact⟨rfl,rfl,rfl,rfl,rfl,rfl,(Wt (fun x hx y=>ih x hx y) rfl).2 rfl⟩
def UN (f g:Fact):Pure zP 41 [.a (xF f),.a (xF g)] (.b (CR f g)):=by
 induction f using Fact.ind generalizing g with
 | h f ih=>
   refine Pure.fit (by kernel_rfl) fun hf=>?_
   have⟨h2,h3,h4⟩:=JK hf.1;have⟨g2,g3,g4⟩:=JK hf.2.1;have hM:=Mx;refine zV kZ ?_;have hs:=Sn
   conv=>whnf
   repeat'((first|clear U K|apply st|(apply zk;intro K U)|refine zn ?_|refine Pure.use (Ep _ _ _ _) ?_|(refine zd (fun hc=>?_) (fun hc=>?_)<;>try exact⟨⟩)|fail)<;>conv=>whnf)
   rotate_left
   all_goals try exact AF (by rw[J0];simp[*]<;>omega)
   rotate_left
   .have hkl:f.kids.length=g.kids.length:=by omega
    refine Ba f.kids.length (fun k (_:Unit)=>[(52,eI (Au k))]) (fun _ _=>[]) (fun k _=>CR f g=Jm ((f.kids.drop k).map CR) (g.kids.drop k)) () rfl (by rw[J0];simp[*]) Sat.nil ?_;clear hs;rintro k - Z hk hn hs;by_cases hlt:k<f.kids.length
    .obtain⟨y,hyk⟩: ∃y,g.kids[k]? =some y:=⟨_,CQ (by omega)⟩
     conv=>whnf
     repeat'((first|clear U K|apply st|(apply zk;intro K U)|refine zn ?_|(refine fc (fun x hx hlt hc=>?_) (fun hk hc=>?_)<;>(try rw[hc])<;>clear hc)|fail)<;>conv=>whnf)
     .refine(ih x (BY hx) y).use ?_
      conv=>whnf
      repeat'((first|clear U K|apply st|(apply zk;intro K U)|refine zn ?_|refine za (fun hc=>?_) fun hc=>?_|fail)<;>conv=>whnf)
      .exact AF (by rw[hn,drop_cons hx,drop_cons hyk,Cn,Jm,hc];rfl)
      .exact⟨hlt,(),rfl,by rw[hn,drop_cons hx,drop_cons hyk,Cn,Jm,hc];rfl,hs⟩
     .omega
    .conv=>whnf
     repeat'((first|clear U K|apply st|(apply zk;intro K U)|refine zn ?_|refine ze fun x hx=>?_|(refine fc (fun x hx hlt hc=>?_) (fun hk hc=>?_)<;>(try rw[hc])<;>clear hc)|fail)<;>conv=>whnf)
     all_goals first|(exfalso;omega)|exact AF (by rw[hn,Ad hk];rfl)
def Ca (f:Fact):Fact:= .mk 5 0 [] 0 0 [f]
def Jb (f g:Fact):Fact:= .mk 6 0 [] 0 0 [f,g]
def X8 (f:Fact):Pure zP 42 [.a (xF f)] (.a (xF (Ca f))):=by
 refine zU kZ ?_;have hs:=Sn
 conv=>whnf
 repeat'((first|clear U K|apply st|(apply zk;intro K U)|refine zX ?_|refine zr fun Z hs=>?_|refine zp fun nn hnn Z hs=>?_|fail)<;>conv=>whnf)
 refine AY (.a (.cons (.refl _) (.cons (.refl _) (.cons BS (.cons (.refl _) (.cons (.refl _) (.cons ?_ .nil)))))));refine .l (fun h=>by cases h) ?_;simp only[Ca,Fact.kids,List.map,A9];exact CU _
def iA (f g:Fact):Pure zP 44 [.a (xF f),.a (xF g)] (.a (xF (Jb f g))):=by
 refine zT kZ ?_;have hs:=Sn
 conv=>whnf
 repeat'((first|clear U K|apply st|(apply zk;intro K U)|refine zX ?_|refine zr fun Z hs=>?_|refine zp fun nn hnn Z hs=>?_|fail)<;>conv=>whnf)
 refine AY (.a (.cons (.refl _) (.cons (.refl _) (.cons BS (.cons (.refl _) (.cons (.refl _) (.cons ?_ .nil)))))));refine .l (fun h=>by cases h) ?_;simp only[Jb,Fact.kids,List.map,A9];exact CU _
def E0 (l:Fact):Prop:=l.op=5->l.kids≠[]
def Ac (l:Fact):Fact×Bool:=if l.op=5 then(l.kids.headD default,true)else(l,false)
def Gk (l:Fact) (h:E0 l):Pure zP 319 [.a (xF l)] (.t [.a (xF (Ac l).1),.b (Ac l).2]):=by
 refine Pure.fit (by kernel_rfl) fun hf=>?_
 have⟨h2,h3,h4⟩:=JK hf.1;refine tK kZ ?_;have hs:=Sn;by_cases h5:l.op=5
 .have hk:0<l.kids.length:=List.length_pos_iff.2 (h h5)
  conv=>whnf
  repeat'((first|clear U K|apply st|(apply zk;intro K U)|refine zX ?_|refine ze fun x hx=>?_|refine zr fun Z hs=>?_|(refine zb (fun hc=>?_) (fun hc=>?_)<;>try exact⟨⟩)|refine zp fun nn hnn Z hs=>?_|fail)<;>conv=>whnf)
  all_goals try(exfalso;omega)
  refine AF ?_
  have:l.kids.headD default=x:=by
   cases hl:l.kids with
   | nil=>rw[hl]at hk;simp at hk
   | cons y r=>rw[hl]at hx;simpa using hx
  simp only[Ac,if_pos h5,this];rfl
 .conv=>whnf
  repeat'((first|clear U K|apply st|(apply zk;intro K U)|refine zX ?_|refine zr fun Z hs=>?_|(refine zb (fun hc=>?_) (fun hc=>?_)<;>try exact⟨⟩)|refine zp fun nn hnn Z hs=>?_|fail)<;>conv=>whnf)
  all_goals try(exfalso;omega)
  refine AF ?_;simp only[Ac,if_neg h5];rfl
def BV (path pre:List Int):Bool:=decide (pre.length<=path.length)&&path.take pre.length==pre
def TO (xs ys:List Int) (f g:Bool):Pure zP 328 [.l (iL xs) f,.l (iL ys) g] (.b (BV xs ys)):=by
 refine Pure.fit (by kernel_rfl) fun hf=>?_
 have hx:=L8 hf.1;have hy:=L8 hf.2.1;have hM:=Mx;refine tC kZ ?_;have hs:=Sn
 conv=>whnf
 repeat'((first|clear U K|apply st|(apply zk;intro K U)|refine zX ?_|refine Pure.use (Ep _ _ _ _) ?_|(refine zd (fun hc=>?_) (fun hc=>?_)<;>try exact⟨⟩)|fail)<;>conv=>whnf)
 .refine AF ?_
  have:ys.length<=xs.length:=by omega
  simp[BV,this]
 .refine AF ?_
  have: ¬ys.length<=xs.length:=by omega
  simp[BV,this]
def FI (w:AE) (ls:List Fact) (a:Int) (p:List Int) (c:Bool):List V:=[.l (EF w.parents) false,.l (iL w.owner) false,.l (facts ls) false,eI a,.l (iL p) false,.b c]
def Io (w:AE) (ls:List Fact) (a:Int) (p:List Int) (c:Bool) (s:Int) (hp:p.length<100):Pure zP 322 [.a (FI w ls a p c),eI s] (.a (FI w ls a (p++[s]) c)):=by
 have hM:=Mx;refine tH kZ ?_;have hs:=Sn
 conv=>whnf
 repeat'((first|clear U K|apply st|(apply zk;intro K U)|refine zX ?_|refine zp fun nn hnn Z hs=>?_|fail)<;>conv=>whnf)
 replace hs:=Ce hs 1;refine EH hs 1 (xs:=[]) (ys:=p) rfl (by simp;omega) Bg fun v Z hs=>?_
 conv=>whnf
 repeat'((first|apply st|refine zX ?_|refine rk ?_ ?_|exact fun s e=>by cases e;rfl|refine aq fun v Z hs hsl=>?_|fail)<;>conv=>whnf)
 obtain⟨n,l,cc,rfl⟩:=VW hsl
 conv=>whnf
 repeat'((first|clear U K|apply st|refine zX ?_|refine zr fun Z hs=>?_|fail)<;>conv=>whnf)
 exact AY (.a (.cons (.refl _) (.cons (.refl _) (.cons (.refl _) (.cons (.refl _) (.cons (hs.Ic 1 rfl) (.cons (.refl _) .nil)))))))
end Go.Gl
