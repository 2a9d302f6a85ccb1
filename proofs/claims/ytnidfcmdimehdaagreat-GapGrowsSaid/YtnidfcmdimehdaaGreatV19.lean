import Derived.Test.YtnidfcmdimehdaaGreatV13
import Derived.Test.YtnidfcmdimehdaaGreatV14
import Derived.Test.YtnidfcmdimehdaaGreatV16
import Derived.Test.YtnidfcmdimehdaaGreatV17
import Derived.Test.YtnidfcmdimehdaaGreatV18
set_option linter.all false
set_option linter.defProp false
set_option maxHeartbeats 8000000
noncomputable section
namespace Go.Gl
open Go.Proofs
attribute [local irreducible] Av An Af AQ AL Ac AP AS AK Ab AN AO As A3 Sat AV A0 Ag W
def Lx:Int->List Int->Bool
 | _,[]=>true
 | n,s::r=>s==n&&Lx (n+1) r
def Cs:Int->List Pn->Bool
 | _,[]=>true
 | n,c::r=>decide (c.AF.length<=4)&&(decide (c.parents.length<=3)&&(Lx n c.AF&&Cs (n+c.AF.length) r))
def EL (w:AG) (c n:Int):List (Int×Int)->List (Int×Int)->Bool
 | _,[]=>true
 | pre,x::r=>decide (0<=x.1)&&(decide (x.1<n)&&(hasB w c x.1&&(Tn x.2&&(pre.all (fun y=>y.1 != x.1)&&EL w c n (pre++[x]) r))))
def mU (g:List (List Int)) (c:Int):Bool:= !((B9 g).getD c.toNat []).isEmpty
def GS (w:AG) (n:Int):Nat->List Pn->Bool
 | _,[]=>true
 | i,c::r=>mU w.parents ((i:Int)+3)&&(EL w ((i:Int)+3) n [] c.inits&&GS w n (i+1) r)
def A7 (p:Prog):Bool:=decide (p.AM.length<=10)&&(Cs 0 p.AM&&((Bn p.AM:Int)==p.AF&&(Dy (Aw p)&&GS (AI p) (Bn p.AM) 0 p.AM)))
def y2 {c:Pn} (h:IV (Gu c)):c.parents.length<=Ad/\c.AF.length<=Ad/\c.inits.length<=Ad:=by
 simp only[Gu,Eo,IZ,CW]at h;exact⟨h.1.1,h.2.1.1,h.2.2.1.1⟩
def Oc {p:Prog} (h:FF (.a (BT p))):sC p:=by
 refine⟨(I9 h).1,fun c hc=>?_⟩;simp only[BT,Ji,Eo,IZ,Jr]at h;exact y2 (h.1.2 c hc)
def kx (p:Prog) (hk0:p.AM.length<=1000):Pure zP 76 [.a (BT p)] (.l (Es (Aw p)) false):=Pure.fit (by kernel_rfl) fun hf=>aW p (Oc hf.1) hk0
def FO: ∀(cs:List Pn) (n:Int),Cs n cs=true->Bn cs<=4*cs.length/\ ∀c∈cs,c.parents.length<=3/\c.AF.length<=4
 | [],_,_=>⟨IS _,fun _ h=>by cases h⟩
 | c::r,n,h=>by
   simp only[Cs,A4,Cp]at h;have⟨h1,h2⟩:=FO r _ h.2.2.2;refine⟨by simp only[Bn,EZ,List.sum_cons,NM]at *;omega,fun d hd=>?_⟩;rcases Fg.1 hd with rfl|hd
   .exact⟨h.2.1,h.1⟩
   .exact h2 d hd
def TD {i:Nat}: ∀(r pre:List Int),NY i pre r=true->pre.Nodup->(pre++r).Nodup/\ ∀c∈r,(3:Int)<=c/\c<3+(i:Int)
 | [],pre,_,h=>⟨by simpa using h,fun _ h=>by cases h⟩
 | c::r,pre,h,hn=>by
   simp only[NY,rT,A4,Cp,Bool.not_eq_true']at h;have hc:c∉pre:=by simpa using h.1.2.2
   obtain⟨h1,h2⟩:=TD r (pre++[c]) h.2 (List.nodup_append.2 ⟨hn,by simp,fun a ha b hb=>by simp at hb;subst hb;exact fun e=>hc (e ▸ ha)⟩);refine⟨by simpa using h1,fun d hd=>?_⟩;rcases Fg.1 hd with rfl|hd
   .exact⟨h.1.1,h.1.2.1⟩
   .exact h2 d hd
def Qu: ∀(g:List (List Int)) (k:Nat),I1 k g=true-> ∀(i:Nat) (l:List Int),g[i]? =some l->l.length<=3/\l.Nodup/\ ∀c∈l,(3:Int)<=c/\c<3+((k+i:Nat):Int)
 | [],_,_,_,_,h=>by cases h
 | l ::r,k,h,i,l',hi=>by
   simp only[I1,A4,Cp]at h;cases i with
   | zero=>
     simp at hi;subst hi;obtain⟨h1,h2⟩:=TD l [] h.2.1 .nil;exact⟨h.1,by simpa using h1,by simpa using h2⟩
   | succ i=>
     simp at hi;have:=Qu r (k+1) h.2.2 i l' hi;rw[show k+(i+1)=k+1+i by omega];exact this
def D9 {g:List (List Int)} (h:Dy g=true):I7 g:=by
 simp only[Dy,A4,Cp]at h;refine⟨h.1,fun i l hi=>?_⟩;have:=Qu g 0 h.2 i l hi;simpa using this
def KY {g:List (List Int)} (h:I7 g):ordered g:=by
 intro c p hp;unfold par at hp;split at hp
 .cases hp
 .rename_i h3
  rw[DK]at hp;cases hq:g[c - 3]? with
  | none=>rw[hq]at hp;cases hp
  | some l=>
    rw[hq]at hp;have:=(h.2 _ _ hq).2.2 p hp;omega
def GH {i:Nat} {cs:List Pn} {c:Int} (h:c∈BJ i cs):(3:Int)+i<=c/\c<3+i+cs.length:=by
 induction cs generalizing i with
 | nil=>cases h
 | cons d r ih=>
   simp only[BJ,Ds,List.mem_replicate]at h;simp only[NM];rcases h with⟨_,rfl⟩|h
   .omega
   .have:=ih h;omega
def Qn {p:Prog} (h1:p.AM.length<=10) (h2:Cs 0 p.AM=true) (h3:Dy (Aw p)=true):He (AI p):=by
 have hl:(AI p).parents.length=p.AM.length:=by simp[AI,Aw]
 refine⟨by omega,KY (D9 h3),fun c hc=>?_,?_⟩
 .have:=GH hc
  rw[hl];omega
 .have:=(FO _ _ h2).1
  simp only[AI,Cd];omega
def eG (p : Prog):Pure zP 101 [.a (BT p)] (.b (A7 p)):=by
 refine Pure.fit (by kernel_rfl) fun hf=>?_
 have hP:=Oc hf.1;have hcl:=hP.1;have hM:=Mx;refine xI kZ ?_
 conv=>whnf
 repeat'((first|clear U K|apply st|(apply zk;intro K U)|refine zn ?_|(refine zd (fun hc=>?_) (fun hc=>?_)<;>try exact⟨⟩)|fail)<;>conv=>whnf)
 .exact AJ (by simp[A7];intros;omega)
 have h10:p.AM.length<=10:=by omega
 refine Cn p.AM.length (fun k (n:Int)=>[(3,eI n),(4,eI (BR k))]) (fun _ _=>[]) (fun k n=>Cs 0 p.AM=Cs n (p.AM.drop k)/\0<=n/\n+Bn (p.AM.drop k)=Bn p.AM/\n<=4*k) 0 rfl (by simp) Sat.nil ?_;rintro k n Z hk ⟨hn,hn0,hn1,hn2⟩ hs
 conv=>whnf
 repeat'((first|clear U K|apply st|(apply zk;intro K U)|refine zn ?_|(refine fc (fun x hx hlt hc=>?_) (fun hk hc=>?_)<;>(try rw[hc])<;>clear hc)|refine Pure.use (kx _ (by omega)) ?_|refine Pure.use (oe _ _) ?_|(refine zd (fun hc=>?_) (fun hc=>?_)<;>try exact⟨⟩)|fail)<;>conv=>whnf)
 .exact AJ (by simp only[A7];rw[hn,drop_cons hx,Cs];simp;intros;omega)
 .have hms:n+(x.AF.length:Int)+Bn (p.AM.drop (k+1))=Bn p.AM:=by
   rw[drop_cons hx]at hn1;simp only[Bn,EZ,List.sum_cons]at hn1 ⊢;omega
  have hsl:=(hP.2 x (Cm hx)).2.1
  have hn':Cs 0 p.AM=(Lx n x.AF&&Cs (n+x.AF.length) (p.AM.drop (k+1))):=by
   have a1:x.AF.length<=4:=by omega
   have a2:x.parents.length<=3:=by omega
   rw[hn,drop_cons hx,Cs];simp only[a1,a2,decide_true,Du]
  revert x
  rintro c hx hcs h3 hms hsl hn';refine Cn c.AF.length (fun j (m:Int)=>[(3,eI m),(6,eI (BR j))]) (fun _ _=>[]) (fun j m=>Cs 0 p.AM=(Lx m (c.AF.drop j)&&Cs (n+c.AF.length) (p.AM.drop (k+1)))/\m=n+j) n rfl ⟨hn',by simp⟩ Sat.nil ?_;rintro j m Z hj ⟨hm,he⟩ hs
  conv=>whnf
  repeat'((first|clear U K|apply st|(apply zk;intro K U)|refine zn ?_|(refine fc (fun x hx hlt hc=>?_) (fun hk hc=>?_)<;>(try rw[hc])<;>clear hc)|refine za (fun hc=>?_) fun hc=>?_|fail)<;>conv=>whnf)
  .exact AJ (by simp only[A7];rw[hm,drop_cons (by assumption),Lx];simp[hc])
  .refine⟨hlt,_,rfl,⟨?_,?_⟩,hs⟩
   .rw[hm,drop_cons (by assumption),Lx,wrap64 (by omega) (by omega)];simp[hc]
   .rw[wrap64 (by omega) (by omega)];omega
  .refine⟨by assumption,m,rfl,⟨?_,by omega,by omega,by omega⟩,hs⟩
   rw[hm,Au (by assumption),Lx,Du,he];congr 1;omega
 .exact AJ (by simp only[A7];rw[hn,drop_cons hx,Cs];simp;intros;omega)
 .have hne:n=Bn p.AM:=by rw[Au hk]at hn1;simpa[Bn]using hn1
  exact AJ (by simp only[A7];rw[hc];simp)
 .have hne:n=Bn p.AM:=by rw[Au hk]at hn1;simpa[Bn]using hn1
  have hsb:Cs 0 p.AM=true:=by rw[hn,Au hk];rfl
  have hms:=(FO _ _ hsb).1;have hok:=Qn h10 hsb hc
  have hcb:A7 p=GS (AI p) n 0 p.AM:=by
   simp only[A7,hsb,hc,<-hne];simp[*]
  refine(Zq p hP (by omega) (by omega)).use ?_
  conv=>whnf
  repeat'((first|clear U K|apply st|(apply zk;intro K U)|refine zr fun Z hs=>?_|refine zp fun nn hnn Z hs=>?_|fail)<;>conv=>whnf)
  refine Cn p.AM.length (fun k (_:Unit)=>[(9,eI (BR k))]) (fun _ _=>[.box nn (BL (AI p))]) (fun k _=>A7 p=GS (AI p) n k (p.AM.drop k)) () rfl (by rw[hcb];rfl) hs ?_;rintro k - Z hk hn hs
  conv=>whnf
  repeat'((first|clear U K|apply st|(apply zk;intro K U)|refine zn ?_|(refine fc (fun x hx hlt hc=>?_) (fun hk hc=>?_)<;>(try rw[hc])<;>clear hc)|fail)<;>conv=>whnf)
  .have e3 : IntKind.i64.wrap (BR k+3)=(k:Int)+3:=by rw[Ae (by omega),wrap64 (by omega) (by omega)]
   rw[e3];have hgl:(Aw p).length=p.AM.length:=by simp[Aw]
   refine(tU (Aw p) false ((k:Int)+3) (D9 hc) (by omega) (by omega)).use ?_
   conv=>whnf
   repeat'((first|clear U K|apply st|(apply zk;intro K U)|refine zn ?_|refine za (fun hc=>?_) fun hc=>?_|fail)<;>conv=>whnf)
   .have hlb:mU (AI p).parents ((k:Int)+3)=false:=by
     show(!((B9 (Aw p)).getD ((k:Int)+3).toNat []).isEmpty)=false;rw[hc];rfl
    exact AJ (by rw[hn,drop_cons hx,GS,hlb];rfl)
   .have hil:=(hP.2 x (Cm hx)).2.2
    have hn':A7 p=(EL (AI p) ((k:Int)+3) n [] x.inits&&GS (AI p) n (k+1) (p.AM.drop (k+1))):=by
     have hlb:mU (AI p).parents ((k:Int)+3)=true:=by
      show(!((B9 (Aw p)).getD ((k:Int)+3).toNat []).isEmpty)=true;rw[hc];rfl
     rw[hn,drop_cons hx,GS,hlb];rfl
    revert x
    rintro c hx hil hn';refine Cn c.inits.length (fun j (_:Unit)=>[(14,eI (BR j))]) (fun _ _=>[.box nn (BL (AI p))]) (fun j _=>A7 p=(EL (AI p) ((k:Int)+3) n (c.inits.take j) (c.inits.drop j)&&GS (AI p) n (k+1) (p.AM.drop (k+1)))) () rfl (by rw[hn'];rfl) hs ?_;rintro j - Z hj hm hs
    conv=>whnf
    repeat'((first|clear U K|apply st|(apply zk;intro K U)|refine zn ?_|(refine fc (fun x hx hlt hc=>?_) (fun hk hc=>?_)<;>(try rw[hc])<;>clear hc)|refine za (fun hc=>?_) fun hc=>?_|fail)<;>conv=>whnf)
    .refine(te (AI p) ((k:Int)+3) x.1 hok (by omega) (by rw[show(AI p).parents=Aw p from rfl];omega) (by omega) (by rw[show(AI p).owner=BJ 0 p.AM from rfl,Cd];omega)).use ?_
     conv=>whnf
     repeat'((first|clear U K|apply st|(apply zk;intro K U)|refine zn ?_|refine Pure.use (qf _) ?_|refine za (fun hc=>?_) fun hc=>?_|fail)<;>conv=>whnf)
     .exact AJ (by rw[hm,drop_cons hx,EL];simp[*])
     .have hm':A7 p=((c.inits.take j).all (fun y=>y.1 != x.1)&&(EL (AI p) ((k:Int)+3) n (c.inits.take (j+1)) (c.inits.drop (j+1))&&GS (AI p) n (k+1) (p.AM.drop (k+1)))):=by
       have b1:decide (0<=x.1)=true:=decide_eq_true (by assumption);have b2:decide (x.1<n)=true:=decide_eq_true (by assumption);rw[hm,drop_cons hx,EL,AU hx,b1,b2,‹hasB _ _ _=true›,hc];simp only[Du,Bool.and_assoc]
      revert x
      rintro x hxj hx0 hx1 hhb hbt hm';refine Cn j (fun i (_:Unit)=>[(15,eI (BR i))]) (fun _ _=>[.box nn (BL (AI p))]) (fun i _=>A7 p=(((c.inits.take j).drop i).all (fun y=>y.1 != x.1)&&(EL (AI p) ((k:Int)+3) n (c.inits.take (j+1)) (c.inits.drop (j+1))&&GS (AI p) n (k+1) (p.AM.drop (k+1))))) () rfl (by rw[hm'];rfl) hs ?_;rintro i - Z hi hl hs;rcases Nat.lt_or_ge i j with hij|hij
      .obtain⟨y,hy⟩: ∃y,c.inits[i]? =some y:=⟨_,Dp (by omega)⟩
       have hy':(c.inits.take j)[i]? =some y:=by rw[List.getElem?_take,if_pos hij,hy]
       conv=>whnf
       repeat'((first|clear U K|apply st|(apply zk;intro K U)|refine zn ?_|(refine zb (fun hc=>?_) (fun hc=>?_)<;>try exact⟨⟩)|fail)<;>conv=>whnf)
       .exact AJ (by rw[hl,drop_cons hy',Pg,hc];simp)
       .refine⟨hij,(),rfl,?_,hs⟩
        have hc':(y.1 != x.1)=true:=by simpa using hc
        rw[hl,drop_cons hy',Pg,hc',Du]
      .conv=>whnf
       repeat'((first|clear U K|apply st|(apply zk;intro K U)|refine zn ?_|(refine zb (fun hc=>?_) (fun hc=>?_)<;>try exact⟨⟩)|fail)<;>conv=>whnf)
       refine⟨by assumption,(),rfl,?_,hs⟩;rw[hl,List.drop_of_length_le (by rw[Lv];omega),List.all_nil,Du]
     .exact AJ (by rw[hm,drop_cons hx,EL];simp[*])
    .exact AJ (by rw[hm,drop_cons hx,EL];simp;intros;omega)
    .exact AJ (by rw[hm,drop_cons hx,EL];simp;intros;omega)
    .refine⟨by assumption,(),rfl,?_,hs⟩
     rw[hm,Au hk,EL,Du]
  .exact AJ (by rw[hn,Au hk];rfl)
 .have hne:n=Bn p.AM:=by rw[Au hk]at hn1;simpa[Bn]using hn1
  exact AJ (by simp only[A7];rw[<-hne];simp[hc])
def Fl (f:Int->Int->List Int->Option (List Int)) (op size:Int):Nat->List Int->List Int->Option (List Int)
 | _,[],s=>some s
 | i,k::r,s=>match f k (if op=9/\i=1 then size+1 else size) s with
   | none=>none
   | some s'=>Fl f op size (i+1) r s'
def EI (p:Prog) (next:Bool) (size:Int) (x:Node):Bool:=((x.kids.length:Int)==Jb p x)&&(NV p x size&&(x.op != 18||next))
def CQ (p:Prog) (next:Bool):Nat->Int->Int->List Int->Option (List Int)
 | 0,_,_,_=>none
 | d+1,n,size,s=>
   if n<0\/(p.nodes.length:Int)<=n\/0<=s.getD n.toNat 0 then none else
   match p.nodes[n.toNat]? with
   | none=>none
   | some x=>if EI p next size x then Fl (CQ p next d) x.op size 0 x.kids (s.set n.toNat size)else none
def V6 (v:V) (s:List Int) (o:Option (List Int)) (r:R) (post:List At):Prop:=
 ∃s':List Int,s'.length=s.length/\post= [.own v 1 (iL s')]/\((o=some s'/\r= .ret (.b true))\/(o=none/\r= .ret (.b false)))
def P3 {v:V} {s s':List Int} {o:Option (List Int)} {Z:AE} {rest:List At} (hs:Sat Z (.own v 1 (iL s')::rest)) (hl:s'.length=s.length) (ho:o=none):An Z (.b false) fun r Z'=> ∃post,V6 v s o r post/\Sat Z' post:=
 Ay hs (.cons₂ _ (NQ _)) (.refl _) fun Z' hs'=>⟨_,⟨s',hl,rfl,.inr ⟨ho,rfl⟩⟩,hs'⟩
def iM {p:Prog} (h:FF (.a (BT p))) {x:Node} (hx:x∈p.nodes):x.kids.length<=Ad:=by
 simp only[BT,Ji,Eo,IZ,Jr]at h
 have h2:IV (JC x):=by
  first|exact h.2.2.2.2.1.2 x hx|exact h.2.2.2.2.2.1.2 x hx|exact h.2.2.2.1.2 x hx|exact h.2.2.1.2 x hx|exact h.2.1.2 x hx
 simp only[JC,Eo,IZ,CW]at h2
 first|exact h2.2.2.1.1|exact h2.2.2.1|exact h2.1
def PJ {p:Prog} {next:Bool} {d:Nat} {n size:Int} {s:List Int} {x:Node} {y:Int} (h0:0<=n) (h1:n<(p.nodes.length:Int)) (hs:s[n.toNat]? =some y) (hy:y<0) (hx:p.nodes[n.toNat]? =some x) :
    CQ p next (d+1) n size s=if EI p next size x then Fl (CQ p next d) x.op size 0 x.kids (s.set n.toNat size)else none:=by
 have e:s.getD n.toNat 0=y:=by rw[DK,hs];rfl
 simp only[CQ];rw[if_neg (by rw[e];omega),hx]
def Ny {p:Prog} {next:Bool} {d:Nat} {n size:Int} {s:List Int} (h:n<0\/(p.nodes.length:Int)<=n\/0<=s.getD n.toNat 0):CQ p next (d+1) n size s=none:=by
 simp only[CQ];rw[if_pos h]
def gS (p : Prog) (next:Bool): ∀d:Nat,d<=12-> ∀(n size depth:Int) (s:List Int) (v:V),depth=13 - d->0<=size->size+d<=100->s.length=p.nodes.length->(CR v).isSome=true->
    BO zP 104 [.a (BT p),eI n,eI size,eI depth,.b next,v] [.own v 1 (iL s)] (V6 v s (CQ p next d n size s)):=by
 intro d
 induction d with
 | zero=>
   intro _ n size depth s v hd h0 h1 hl hv Z hs;refine Av.fit (by kernel_rfl) fun hf=>?_
   have⟨p1,p2,p3,p4⟩:=I9 hf.1;have hM:=Mx;refine ig kZ ?_
   conv=>whnf
   repeat'((first|clear U K|apply st|(apply zk;intro K U)|refine zn ?_|refine ze fun x hx=>?_|(refine zb (fun hc=>?_) (fun hc=>?_)<;>try exact⟨⟩)|fail)<;>conv=>whnf)
   all_goals exact Ay hs (.refl _) (.refl _) fun Z' hs'=>⟨_,⟨s,rfl,rfl,.inr ⟨rfl,rfl⟩⟩,hs'⟩
 | succ d ih =>
   intro hd12 n size depth s v hd h0 h1 hl hv Z hs;refine Av.fit (by kernel_rfl) fun hf=>?_
   have⟨p1,p2,p3,p4⟩:=I9 hf.1;have hM:=Mx;refine ig kZ ?_
   conv=>whnf
   repeat'((first|clear U K|apply st|(apply zk;intro K U)|refine zn ?_|refine rk ?_ ?_|exact fun s e=>by cases e;rfl|refine ze fun x hx=>?_|refine zr fun Z hs=>?_|refine Pure.use (oO _ _) ?_|refine Pure.use (dA _ _ _) ?_|(refine zb (fun hc=>?_) (fun hc=>?_)<;>try exact⟨⟩)|refine zp fun nn hnn Z hs=>?_|fail)<;>conv=>whnf)
   .exact P3 hs (by simp) (by rw[PJ (by assumption) (by assumption) (by assumption) (by assumption) hx];simp[EI, *])
   rotate_left
   .cases hc
   rotate_left
   .exact P3 hs (by simp) (by rw[PJ (by assumption) (by assumption) (by assumption) (by assumption) hx];simp[EI, *])
   .exact P3 hs (by simp) (by rw[PJ (by assumption) (by assumption) (by assumption) (by assumption) hx];simp[EI, *])
   .exact P3 hs rfl (Ny (.inr (.inr (by rw[DK,hx];exact hc))))
   .exact P3 hs rfl (Ny (.inr (.inl hc)))
   .exact P3 hs rfl (Ny (.inl hc))
   all_goals
    have hW:CQ p next (d+1) n size s=Fl (CQ p next d) x.op size 0 x.kids (s.set n.toNat size):=by
     rw[PJ (by assumption) (by assumption) (by assumption) (by assumption) hx];simp[EI, *]
    rw[hW]
    rename Node=>nd
    refine Cn nd.kids.length (fun k (_:List Int)=>[(14,eI (BR k))]) (fun _ s'=>[.own v 1 (iL s'),.obj nn (.cs (JC nd))]) (fun k s'=>s'.length=s.length/\Fl (CQ p next d) nd.op size 0 nd.kids (s.set n.toNat size)=Fl (CQ p next d) nd.op size k (nd.kids.drop k) s') (s.set n.toNat size) rfl ⟨by simp,by simp⟩ hs ?_;clear hs;rintro k s' Z hk ⟨hl',hkids⟩ hs;have hkm:=iM hf.1 (Cm hx);have hck:BR k=k:=Ae (by omega);by_cases hlt:k<nd.kids.length
    .obtain⟨kid,hkid⟩: ∃kid,nd.kids[k]? =some kid:=⟨_,Dp hlt⟩
     have hrec:=fun kid sz h0 h1=>ih (by omega) kid sz (depth+1) s' v (by omega) h0 h1 (by omega) hv
     conv=>whnf
     repeat'((first|clear U K|apply st|(apply zk;intro K U)|refine zn ?_|(refine fc (fun x hx hlt hc=>?_) (fun hk hc=>?_)<;>(try rw[hc])<;>clear hc)|(refine zb (fun hc=>?_) (fun hc=>?_)<;>try exact⟨⟩)|fail)<;>conv=>whnf)
     all_goals try(exfalso;omega)
     all_goals try refine JV (enc:=fun i:Int=>[V.i .i64 i]) hkid hkm rfl ?_
     conv=>whnf
     all_goals try(exfalso;omega)
     all_goals
      have hK2:=hkids;rw[drop_cons hx,Fl]at hK2
      first
       | rw[if_pos (by omega)]at hK2
         rw[wrap64 (by omega) (by omega),wrap64 (by omega) (by omega)];refine(hrec x (size+1) (by omega) (by omega)).use hs ?_
       | rw[if_neg (by omega)]at hK2
         rw[wrap64 (by omega) (by omega)];refine(hrec x size (by omega) (by omega)).use hs ?_
      rintro r post Z' ⟨s2,hl2,rfl,⟨ho,rfl⟩|⟨ho,rfl⟩⟩ hs
      .rw[ho]at hK2
       conv=>whnf
       repeat'((first|clear U K|apply st|(apply zk;intro K U)|refine zn ?_|(refine zd (fun hc=>?_) (fun hc=>?_)<;>try exact⟨⟩)|fail)<;>conv=>whnf)
       all_goals first|(exfalso;cases hc;done)|exact⟨hlt,s2,rfl,⟨by omega,hK2⟩,hs⟩
      .rw[ho]at hK2
       conv=>whnf
       repeat'((first|clear U K|apply st|(apply zk;intro K U)|refine zn ?_|(refine zd (fun hc=>?_) (fun hc=>?_)<;>try exact⟨⟩)|fail)<;>conv=>whnf)
       all_goals first|exact P3 hs (by omega) hK2|(exfalso;cases hc;done)
    .have hke:k=nd.kids.length:=by omega
     conv=>whnf
     repeat'((first|clear U K|apply st|(apply zk;intro K U)|refine zn ?_|(refine fc (fun x hx hlt hc=>?_) (fun hk hc=>?_)<;>(try rw[hc])<;>clear hc)|(refine zb (fun hc=>?_) (fun hc=>?_)<;>try exact⟨⟩)|fail)<;>conv=>whnf)
     all_goals try(exfalso;omega)
     rw[hke,Au rfl]at hkids;exact Ay hs (.cons₂ _ (NQ _)) (.refl _) fun Z' hs'=>⟨_,⟨s',hl',rfl,.inl ⟨(by first|rw[hW,hkids,Fl]|rw[hkids,Fl]),rfl⟩⟩,hs'⟩
def Q3 {w:AG} (f:Fact):A6 w f=true->SL f=true:=by
 induction f using Fact.ind with
 | h f ih=>
   intro h;rw[CA]at h;simp only[DB,A4,Dj,Cp]at h;rw[Qh];simp only[A4,Cp,List.all_map,Dj,Function.comp_apply,id];exact⟨⟨h.1.2.2.1,h.1.2.2.2.1⟩,fun k hk=>ih k hk (h.2 k hk)⟩
def Pj (p:Prog) (m:Nc):Bool:=decide (1<=m.kind)&&(decide (m.kind<=4)&&(decide (0<=m.gen)&&(decide (m.gen<(p.Dr.length:Int))&&(DL (AI p) m.fact&&decide (GV m.fact<=p.Dr.getD m.gen.toNat 0)))))
def runM (p:Prog):List Nc->List Int->Option (List Int)
 | [],s=>some s
 | m::r,s=>if Pj p m then match CQ p (Ks m.kind) 12 m.node (p.Dr.getD m.gen.toNat 0) s with
   | none=>none
   | some s'=>runM p r s' else none
def DE (p:Prog):Bool:=A7 p&&(decide (p.Dr.length<=8)&&(decide (p.methods.length<=16)&&(decide (1<=p.nodes.length)&&(decide (p.nodes.length<=120)&&p.Dr.all fun g=>decide (1<=g)&&decide (g<=3)))))
def BN (p:Prog):Option (List Int):=if DE p then match runM p p.methods (List.replicate p.nodes.length (-1))with
 | none=>none
 | some s=>match CQ p false 12 p.main 0 s with
   | none=>none
   | some s=>if s.all fun n=>decide (0<=n)then some s else none else none
def Ku (p:Prog):Option (List Int)->Option (List Int)
 | none=>none
 | some s=>match CQ p false 12 p.main 0 s with
   | none=>none
   | some s=>if s.all fun n=>decide (0<=n)then some s else none
def Oa (p:Prog):V:=match BN p with
 | none=> .t [.l [] true,.b false]
 | some s=> .t [.l (iL s) false,.b true]
def qb {p:Prog} (h:BN p=none):Oa p= .t [.l [] true,.b false]:=by simp only[Oa,h]
def ym {p:Prog} (h:DE p=false):Oa p= .t [.l [] true,.b false]:=qb (by unfold BN;rw[h];rfl)
def L7 {p:Prog} {Z:AE} (h:BN p=none):An Z (.t [.l [] true,.b false]) fun r Z'=>r=R.ret (Oa p)/\Z'=emp:=by
 rw[qb h];exact AJ rfl
def P2 {p:Prog} {Z:AE} (h:DE p=false):An Z (.t [.l [] true,.b false]) fun r Z'=>r=R.ret (Oa p)/\Z'=emp:=by
 rw[ym h];exact AJ rfl
def aK {p:Prog} (h:DE p=true):BN p=Ku p (runM p p.methods (List.replicate p.nodes.length (-1))):=by
 unfold BN;rw[if_pos h];rfl
def Dc {p:Prog} {k:Nat} {x:Nc} {s:List Int} (hx:p.methods[k]? =some x) (hn:BN p=Ku p (runM p (p.methods.drop k) s)) (hok:Pj p x=false):BN p=none:=by
 rw[hn,drop_cons hx,runM,if_neg (by simp[hok])];rfl
def Sd {p:Prog} {k:Nat} {x:Nc} {s:List Int} (hx:p.methods[k]? =some x) (hn:BN p=Ku p (runM p (p.methods.drop k) s)) (hok:Pj p x=true) (hw:CQ p (Ks x.kind) 12 x.node (p.Dr.getD x.gen.toNat 0) s=none):BN p=none:=by
 rw[hn,drop_cons hx,runM,if_pos hok,hw];rfl
def Z0 {p:Prog} {k:Nat} {x:Nc} {s s':List Int} (hx:p.methods[k]? =some x) (hn:BN p=Ku p (runM p (p.methods.drop k) s)) (hok:Pj p x=true) (hw:CQ p (Ks x.kind) 12 x.node (p.Dr.getD x.gen.toNat 0) s=some s'):BN p=Ku p (runM p (p.methods.drop (k+1)) s'):=by
 rw[hn,drop_cons hx,runM,if_pos hok,hw]
def Sy {p:Prog} (h:DE p=true) {k:Nat} {x:Int} (hx:p.Dr[k]? =some x):1<=x/\x<=3:=by
 simp only[DE,A4,Dj,Cp]at h;exact h.2.2.2.2.2 x (Cm hx)
def tR (p:Prog):Pure zP 47 [.a (BT p)] (Oa p):=by
 refine Pure.fit (by kernel_rfl) fun hf=>?_
 have⟨p1,p2,p3,p4⟩:=I9 hf.1;have hM:=Mx;refine zN kZ ?_;have hs:=Sn
 conv=>whnf
 repeat'((first|apply st|(apply sq;intro K U)|(apply si;intro A B hA hB)|(refine hA _ _ ?_;clear hB B hA A)|(apply U;clear U K)|refine⟨rfl,?_⟩|refine⟨kZ,?_⟩|refine Pure.use (eG _) ?_|(constructor<;>intro hc<;>(try rw[hc])<;>(replace hc:=bp hc)<;>(try simp(disch:=omega) only[CW,wrap64,Ae]at hc))|clear U K)<;>conv=>whnf)
 .exact P2 (by simp[DE];intros;omega)
 rotate_left
 .exact P2 (by simp[DE];intros;omega)
 .exact P2 (by simp[DE];intros;omega)
 .exact P2 (by simp[DE];intros;omega)
 .exact P2 (by simp[DE, *])
 have a1:p.Dr.length<=8:=by omega
 have a2:p.methods.length<=16:=by omega
 have a3:1<=p.nodes.length:=by omega
 have a4:p.nodes.length<=120:=by omega
 have hg:DE p=p.Dr.all fun g=>decide (1<=g)&&decide (g<=3):=by
  simp only[DE,a1,a2,a3,a4,decide_true,Du];simp[*]
 refine Cn p.Dr.length (fun k (_:Unit)=>[(4,eI (BR k))]) (fun _ _=>[]) (fun k _=>DE p=(p.Dr.drop k).all fun g=>decide (1<=g)&&decide (g<=3)) () rfl (by simpa using hg) hs ?_;clear hs;rintro k - Z hk hn hs
 conv=>whnf
 repeat'((first|apply st|(apply sq;intro K U)|(apply si;intro A B hA hB)|(refine hA _ _ ?_;clear hB B hA A)|(apply U;clear U K)|refine⟨rfl,?_⟩|refine ix ?_|(refine fc (fun x hx hlt hc=>?_) (fun hk hc=>?_)<;>(try rw[hc])<;>clear hc)|(constructor<;>intro hc<;>(try rw[hc])<;>(replace hc:=bp hc))|clear U K)<;>conv=>whnf)
 .exact P2 (by rw[hn,drop_cons hx];simp;intros;omega)
 .exact⟨hlt,(),rfl,by rw[hn,drop_cons hx];simp[*],hs⟩
 .exact P2 (by rw[hn,drop_cons hx];simp;intros;omega)
 have hh:DE p=true:=by rw[hn,Au hk];rfl
 have hP:=Oc hf.1;have hcB:A7 p=true:=by assumption
 have hsb:Cs 0 p.AM=true:=by simp only[A7,A4]at hcB;exact hcB.2.1
 have hc10:p.AM.length<=1000:=by simp only[A7,A4,Cp]at hcB;omega
 have hmS:Bn p.AM<=Ad:=by have:=(FO _ _ hsb).1;simp only[A7,A4,Cp]at hcB;omega
 have hL:=aK hh;clear hn hg;refine Cn p.nodes.length (fun j v=>[(5,v),(6,eI (BR j))]) (fun j v=>[.own v 1 (iL (List.replicate j (-1)))]) (fun j v=>1<=j->(CR v).isSome=true) (.l [] true) rfl (fun h=>by omega) (IU hs 1) ?_;clear hs;rintro j v Z hj hv hs
 conv=>whnf
 repeat'((first|apply st|(apply sq;intro K U)|(apply si;intro A B hA hB)|(refine hA _ _ ?_;clear hB B hA A)|(apply U;clear U K)|refine⟨rfl,?_⟩|refine⟨kZ,?_⟩|refine sn fun Z hs=>?_|refine aq fun v Z hs hsl=>?_|(refine fc (fun x hx hlt hc=>?_) (fun hk hc=>?_)<;>(try rw[hc])<;>clear hc)|refine Pure.use (Zq _ (by assumption) (by omega) (by assumption)) ?_|(intro nn hnn;generalize hg:Bu _ nn _=Z;refine al hg fun hs=>?_;clear hg)|clear U K)<;>conv=>whnf)
 .exact⟨hlt,_,rfl,fun _=>hsl,by rw[List.replicate_succ'];exact hs⟩
 have hsv:=hv (by omega);subst hk;refine Cn p.methods.length (fun k (s:List Int)=>[(8,eI (BR k))]) (fun _ s=>[.own v 1 (iL s),.box nn (BL (AI p))]) (fun k s=>s.length=p.nodes.length/\BN p=Ku p (runM p (p.methods.drop k) s)) (List.replicate p.nodes.length (-1)) rfl ⟨by simp,hL⟩ hs ?_;clear hs;rintro k s Z hk ⟨hl,hn⟩ hs
 conv=>whnf
 repeat'((first|apply st|(apply sq;intro K U)|(apply si;intro A B hA hB)|(refine hA _ _ ?_;clear hB B hA A)|(apply U;clear U K)|apply dr|refine rk ?_ ?_|exact fun s e=>by cases e;rfl|refine⟨rfl,?_⟩|refine⟨kZ,?_⟩|refine ix ?_|refine iq fun x hx=>?_|refine ld ?_|refine sn fun Z hs=>?_|(refine fc (fun x hx hlt hc=>?_) (fun hk hc=>?_)<;>(try rw[hc])<;>clear hc)|refine Pure.use (k9 _ _) ?_|(constructor<;>intro hc<;>(try rw[hc])<;>(replace hc:=bp hc)<;>(try simp(disch:=omega) only[CW,wrap64,Ae]at hc))|(intro nn hnn;generalize hg:Bu _ nn _=Z;refine al hg fun hs=>?_;clear hg)|clear U K)<;>conv=>whnf)
 rotate_left
 .exact L7 (Dc hx hn (by simp[Pj, *]))
 .exact L7 (Dc hx hn (by simp[Pj];intros;omega))
 .exact L7 (Dc hx hn (by simp[Pj];intros;omega))
 .exact L7 (Dc hx hn (by simp[Pj];intros;omega))
 .exact L7 (Dc hx hn (by simp[Pj];intros;omega))
 .refine(gS p false 12 (IS _) p.main 0 1 s v rfl (by omega) (by omega) hl hsv).use hs ?_
  clear hs;rintro r post Z ⟨s2,hl2,rfl,⟨ho,rfl⟩|⟨ho,rfl⟩⟩ hs
  .conv=>whnf
   repeat'((first|apply st|(apply sq;intro K U)|(apply si;intro A B hA hB)|(refine hA _ _ ?_;clear hB B hA A)|(apply U;clear U K)|(constructor<;>intro hc<;>(try rw[hc])<;>(replace hc:=bp hc)<;>(try simp(disch:=omega) only[CW,wrap64,Ae]at hc))|clear U K)<;>conv=>whnf)
   .cases hc
   have hz:BN p=if s2.all fun n=>decide (0<=n)then some s2 else none:=by rw[hn,Au hk,runM,Ku,ho]
   refine Cn s2.length (fun j (_:Unit)=>[(10,eI (BR j))]) (fun _ _=>[.own v 1 (iL s2),.box nn (BL (AI p))]) (fun j _=>BN p=if(s2.drop j).all fun n=>decide (0<=n)then some s2 else none) () rfl hz hs ?_;clear hs;rintro j - Z hj hz hs
   conv=>whnf
   repeat'((first|apply st|(apply sq;intro K U)|(apply si;intro A B hA hB)|(refine hA _ _ ?_;clear hB B hA A)|(apply U;clear U K)|refine⟨rfl,?_⟩|refine oc ?_|refine ol fun x hx=>?_|(refine fc (fun x hx hlt hc=>?_) (fun hk hc=>?_)<;>(try rw[hc])<;>clear hc)|refine lo ?_|(constructor<;>intro hc<;>(try rw[hc])<;>(replace hc:=bp hc))|clear U K)<;>conv=>whnf)
   .exact L7 (by rw[hz,drop_cons hx,Pg,if_neg];simp;intros;omega)
   .exact⟨hlt,(),rfl,by rw[hz,drop_cons hx,Pg];simp[*],hs⟩
   .have hz2:BN p=some s2:=by rw[hz,Au (by assumption)];rfl
    simp only[Oa,hz2];exact Be (.t (.cons (hs.Ha 0 rfl) (.cons (.refl _) .nil)))
  .conv=>whnf
   repeat'((first|apply st|(apply sq;intro K U)|(apply si;intro A B hA hB)|(refine hA _ _ ?_;clear hB B hA A)|(apply U;clear U K)|(constructor<;>intro hc<;>(try rw[hc])<;>(replace hc:=bp hc)<;>(try simp(disch:=omega) only[CW,wrap64,Ae]at hc))|clear U K)<;>conv=>whnf)
   .exact L7 (by rw[hn,Au hk,runM,Ku,ho])
   .cases hc
 rename Nc=>m
 rename p.methods[k]? =some m=>hm
 refine(jj m.fact (Q3 _ (by(have:DL (AI p) m.fact=true:=by assumption);simp only[DL,A4]at this;exact this.2.2))).use ?_
 conv=>whnf
 repeat'((first|apply st|(apply sq;intro K U)|(apply si;intro A B hA hB)|(refine hA _ _ ?_;clear hB B hA A)|(apply U;clear U K)|apply dr|refine rk ?_ ?_|exact fun s e=>by cases e;rfl|refine⟨rfl,?_⟩|refine⟨kZ,?_⟩|refine iq fun x hx=>?_|refine ld ?_|refine Pure.use (tJ _) ?_|(constructor<;>intro hc<;>(try rw[hc])<;>(replace hc:=bp hc))|clear U K)<;>conv=>whnf)
 .exact L7 (Dc hm hn (by simp[Pj,DK,hx];intros;omega))
 obtain⟨hx1,hx3⟩:=Sy hh hx;have hgd:p.Dr.getD m.gen.toNat 0=x:=by rw[DK,hx];rfl
 rename p.Dr[m.gen.toNat]? =some _=>hx2
 have hxe:=Option.some.inj (hx.symm.trans hx2);subst hxe;have hok:Pj p m=true:=by simp only[Pj,hgd,A4,Cp];exact⟨by assumption,by omega,by assumption,by assumption,by assumption,by assumption⟩
 refine(gS p (Ks m.kind) 12 (IS _) m.node x 1 s v rfl (by omega) (by omega) hl hsv).use (rest:=[_,_]) hs ?_;clear hs;rintro r post Z ⟨s2,hl2,rfl,⟨ho,rfl⟩|⟨ho,rfl⟩⟩ hs
 .conv=>whnf
  repeat'((first|apply st|(apply sq;intro K U)|(apply si;intro A B hA hB)|(refine hA _ _ ?_;clear hB B hA A)|(apply U;clear U K)|apply dr|refine⟨rfl,?_⟩|(constructor<;>intro hc<;>(try rw[hc])<;>(replace hc:=bp hc)<;>(try simp(disch:=omega) only[CW,wrap64,Ae]at hc))|clear U K)<;>conv=>whnf)
  .cases hc
  .exact⟨by assumption,s2,rfl,⟨by omega,Z0 hm hn hok (by rw[hgd];exact ho)⟩,hs.less (.cons₂ _ (.cons₂ _ (NQ _)))⟩
 .conv=>whnf
  repeat'((first|apply st|(apply sq;intro K U)|(apply si;intro A B hA hB)|(refine hA _ _ ?_;clear hB B hA A)|(apply U;clear U K)|apply dr|refine⟨rfl,?_⟩|(constructor<;>intro hc<;>(try rw[hc])<;>(replace hc:=bp hc)<;>(try simp(disch:=omega) only[CW,wrap64,Ae]at hc))|clear U K)<;>conv=>whnf)
  .exact L7 (Sd hm hn hok (by rw[hgd];exact ho))
  .cases hc
def sh (p:Prog):Pure zP 13 [.a (BT p)] (.b (BN p).isSome):=by
 refine zf kZ ?_;have h:=tR p;unfold Oa at h;cases hl:BN p with
 | none=>
   rw[hl]at h
   conv=>whnf
   repeat'((first|clear U K|apply st|(apply zk;intro K U)|refine zn ?_|refine zC ?_|fail)<;>conv=>whnf)
   all_goals exact AJ (by first|rfl|simp)
 | some s=>
   rw[hl]at h
   conv=>whnf
   repeat'((first|clear U K|apply st|(apply zk;intro K U)|refine zn ?_|refine zC ?_|fail)<;>conv=>whnf)
   all_goals exact AJ (by first|rfl|simp)
def YD:List (Fact->Bool)->List Fact->Bool
 | h::r,k::s=>h k&&YD r s
 | _,_=>true
def qP (f:Fact) (l:List (Fact->Bool)) (g:Fact):Bool:=f.op==g.op&&(f.arg==g.arg&&(f.cls==g.cls&&(f.n==g.n&&(f.path==g.path&&(f.kids.length==g.kids.length&&YD l g.kids)))))
def Hp (f:Fact):Fact->Bool:=f.Hm qP
def WS (f g:Fact):Hp f g=(f.op==g.op&&(f.arg==g.arg&&(f.cls==g.cls&&(f.n==g.n&&(f.path==g.path&&(f.kids.length==g.kids.length&&YD (f.kids.map Hp) g.kids)))))):=congrFun (Fact.Dn qP f) g
def XC {xs ys:List Fact} (h: ∀x∈xs,∀y,Hp x y=true↔x=y) (hl:xs.length=ys.length):YD (xs.map Hp) ys=true↔xs=ys:=by
 induction xs generalizing ys with
 | nil=>cases ys with
   | nil=>simp[YD]
   | cons _ _=>simp at hl
 | cons x r ih=>cases ys with
   | nil=>simp at hl
   | cons y s=>
     simp only[EZ,YD,A4,List.cons.injEq];rw[h x (.head _) y,ih (fun x hx=>h x (.tail _ hx)) (by simpa using hl)]
def N5 (f g:Fact):Hp f g=true↔f=g:=by
 induction f using Fact.ind generalizing g with
 | h f ih=>
   rw[WS];cases f with
   | mk o a p c n k=>cases g with
     | mk o' a' p' c' n' k'=>
       simp only[Fact.op,Fact.arg,Fact.cls,Fact.n,Fact.path,Fact.kids,A4,C1,Fact.mk.injEq]at *;constructor
       .rintro⟨rfl,rfl,rfl,rfl,rfl,hl,h⟩
        exact⟨rfl,rfl,rfl,rfl,rfl,(XC (fun x hx y=>ih x hx y) hl).1 h⟩
       .rintro⟨rfl,rfl,rfl,rfl,rfl,rfl⟩
        exact⟨rfl,rfl,rfl,rfl,rfl,rfl,(XC (fun x hx y=>ih x hx y) rfl).2 rfl⟩
def Ey (f:Fact):Fact:= .mk 5 0 [] 0 0 [f]
def R0 (f g:Fact):Fact:= .mk 6 0 [] 0 0 [f,g]
def qc (l:Fact):Prop:=l.op=5->l.kids≠[]
def Ah (l:Fact):Fact×Bool:=if l.op=5 then(l.kids.headD default,true)else(l,false)
def Bj (path pre:List Int):Bool:=decide (pre.length<=path.length)&&path.take pre.length==pre
def Kp (a:Int) (p:List Int) (l:Fact):Bool:=(Ah l).1.arg==a&&(Ah l).1.path==p
def E2 (ls:List Fact) (a:Int) (p:List Int):Bool:=ls.all fun l=>(Ah l).2|| !((Ah l).1.arg==a&&Bj (Ah l).1.path p)
def Bi (n:Nat):List Int:=(List.range n).map Int.ofNat
def XR (n:Nat):Bi (n+1)=Bi n++[(n:Int)]:=by simp[Bi,List.range_succ]
def Qw (n:Nat):(Bi n).length=n:=by simp[Bi]
def qF (a:Int) (p:List Int) (s:Int) (l:Fact):Bool:=(Ah l).1.arg==a&&Bj (Ah l).1.path (p++[s])
def Cr (n:Nat) (ls:List Fact) (a:Int) (p:List Int):List Int:=(Bi n).filter fun s=>ls.any (qF a p s)
def G0 (n:Nat) (ls:List Fact) (a:Int) (p:List Int):Bool:=(Cr n ls a p).all fun s=>E2 ls a (p++[s])
def YI (ls:List Fact):Prop:= ∀l∈ls,-1000000000<=(Ah l).1.n/\(Ah l).1.n<=1000000000
def Vf (x:Fact×Bool) (t:Int×Int×List Int):Option (Int×Int×List Int):=
 if x.1.op=2 then if decide (x.1.cls > 1) != x.2 then none else some t
 else if x.1.op=3 then(if x.2 then some (if x.1.n > t.1 then x.1.n else t.1,t.2.1,t.2.2)else some (t.1,if x.1.n - 1<t.2.1 then x.1.n - 1 else t.2.1,t.2.2))
 else if x.2 then some (t.1,t.2.1,t.2.2++[x.1.n])else some (if x.1.n > t.1 then x.1.n else t.1,if x.1.n<t.2.1 then x.1.n else t.2.1,t.2.2)
def foldI:List Fact->Int×Int×List Int->Option (Int×Int×List Int)
 | [],t=>some t
 | x::r,t=>(Vf (Ah x) t).bind (foldI r)
def fQ (no:List Int):Nat->Int->Option Int
 | 0,_=>none
 | k+1,n=>if no.all (· != n)then some n else fQ no k (n+1)
def Vg (t:Int×Int×List Int):Option Int:=fQ t.2.2 (t.2.1+1 - t.1).toNat t.1
def t0:Int×Int×List Int:=(-1000000000,1000000000,[])
def O5 (ls:List Fact) (a:Int) (p:List Int):Option Int:=(foldI (ls.filter (Kp a p)) t0).bind Vg
def SA (x:Fact×Bool):Bool:=((x.1.op==2&&(x.1.cls==0||x.1.cls==2))==x.2)
def JZ (n:Nat) (ls:List Fact) (a:Int) (p:List Int):Bool:=(ls.filter (Kp a p)).all (fun l=> !SA (Ah l))&&G0 n ls a p
abbrev BB:=List Bool×List Bool
def OV (x:Fact×Bool) (t:BB):Option BB:=
 if x.1.op≠2\/x.1.cls=1\/x.1.cls=2 then(if x.2 then some t else none)else
 if x.2 then some (t.1,t.2.set x.1.cls.toNat true)else some (t.1.set x.1.cls.toNat true,t.2)
def K0:List Fact->BB->Option BB
 | [],t=>some t
 | x::r,t=>(OV (Ah x) t).bind (K0 r)
def Ve (w:AG) (ls:List Fact) (a:Int) (p:List Int) (can:Int->Bool) (s:Int) (t:BB):Option BB:=
 if !E2 ls a (p++[s])&& !can s then none else some (if E2 ls a (p++[s])then t.1 else t.1.set (Bh w s).toNat true,if can s then t.2 else t.2.set (Bh w s).toNat true)
def Ky (w:AG) (ls:List Fact) (a:Int) (p:List Int) (can:Int->Bool):List Int->BB->Option BB
 | [],t=>some t
 | s::r,t=>(Ve w ls a p can s t).bind (Ky w ls a p can r)
def Ke (ps:List (List Int)) (c:Nat) (bs:List Bool):List Bool:=if bs.getD c false then(par ps c).foldl (fun b q=>b.set q.toNat true) bs else bs
def C0 (ps:List (List Int)) (n:Nat):Nat->List Bool->List Bool
 | 0,bs=>bs
 | k+1,bs=>Ke ps (n - 1 - k) (C0 ps n k bs)
def K7: ∀(l:List Int) (bs:List Bool),(l.foldl (fun b q=>b.set q.toNat true) bs).length=bs.length
 | [],_=>rfl
 | q::r,bs=>by rw[List.foldl_cons,K7 r,List.length_set]
def FW (ps:List (List Int)) (n:Nat): ∀(k:Nat) (bs:List Bool),(C0 ps n k bs).length=bs.length
 | 0,_=>rfl
 | k+1,bs=>by
   rw[C0,Ke];split
   .rw[K7,FW ps n k bs]
   .exact FW ps n k bs
def fh (w:AG) (t:BB):Option (List Bool):=
 if t.2.getD 0 false then none else
 if(List.range (3+w.parents.length)).any (fun c=>(C0 w.parents (3+w.parents.length) w.parents.length (t.1.set 0 false)).getD c false&&t.2.getD c false)then none else some (C0 w.parents (3+w.parents.length) w.parents.length (t.1.set 0 false))
def tO (w:AG):BB:=(List.replicate (3+w.parents.length) false,List.replicate (3+w.parents.length) false)
def VI (w:AG) (ls:List Fact) (a:Int) (p:List Int) (can:Int->Bool):Option (List Bool):=
 ((K0 (ls.filter (Kp a p)) (tO w)).bind (Ky w ls a p can (Cr w.owner.length ls a p))).bind (fh w)
def IC {n:Nat} {ls:List Fact} {a:Int} {p:List Int} {s:Int} (h:s∈Cr n ls a p):0<=s/\s<n:=by
 have:=(Kj.1 h).1;simp only[Bi,Hc,List.mem_range]at this;obtain⟨m,hm,rfl⟩:=this;exact⟨Int.natCast_nonneg m,by simpa using hm⟩
def zq (w:AG) (ls:List Fact):Prop:= ∀l∈ls,(Ah l).1.op=2->0<=(Ah l).1.cls/\(Ah l).1.cls<3+w.parents.length
def Tm (w:AG) (ls:List Fact) (a:Int):Nat->List Int->Bool
 | 0,p=>((O5 ls a p).isSome&&G0 w.owner.length ls a p)||(JZ w.owner.length ls a p||(VI w ls a p fun _=>false).isSome)
 | d+1,p=>((O5 ls a p).isSome&&G0 w.owner.length ls a p)||(JZ w.owner.length ls a p||(VI w ls a p fun s=>Tm w ls a d (p++[s])).isSome)
def gh (ls:List Fact) (n:Nat):Prop:= ∀l∈ls,(Ah l).1.path.length<=n
def N3 {n m:Nat} {ls:List Fact} {a:Int} {p:List Int} (h:gh ls m) (hp:m<=p.length):Cr n ls a p= []:=by
 rw[Cr,List.filter_eq_nil_iff];intro s _ hs;rw[Gx]at hs;obtain⟨l,hl,hg⟩:=hs;have:=h l hl;simp only[qF,Bj,A4,Cp,Ri,List.length_singleton]at hg;omega
def EG (w:AG) (ls:List Fact):Bool:=(Bi 3).all fun a=>Tm w ls a 2 []
def aV {b:Nat} {Z:AE} {l:List At} (h:Sat Z l) (i j:Nat) {v u:V} {sz:Nat} {es ys:List (List V)} {K:V->AE->Prop} (hi:l[i]? =some (.own v sz es)) (hj:l[j]? =some (.own u sz ys)) (hl:es.length+ys.length<=Ad/\(es.length+ys.length)*b<=140737488355328) (hys: ∀e∈ys,e.length=sz) (ho: ∀e∈ys,∀v∈e,CJ v=true)
    (hk: ∀v' Z',Sat Z' (l.set i (.own v' sz (es++ys)))->K v' Z'):AL b Z sz v u K:=by
 have hA:AL b Z sz v (.l ys true) K:=hAppend h i hi hl hys ho hk;rcases h.get hj with⟨rfl,hel⟩|⟨n,cap,rfl,hn⟩
 .exact hA
 .unfold AL at hA ⊢
  simp only[rowsOf]at hA ⊢;rw[hn];refine⟨rfl,IS _,?_⟩;rw[List.take_length];exact hA.2
def Cz (a:List Fact):List Fact->List Fact
 | []=>a
 | x::r=>Cz (if a.any (Hp x)then a else a++[x]) r
def Y4 (a:List Fact): ∀(b:List Fact) (x:Fact),Cz a (b++[x])=if(Cz a b).any (Hp x)then Cz a b else Cz a b++[x]:=by
 intro b
 induction b generalizing a with
 | nil=>intro x;rfl
 | cons y r ih=>intro x;simp only[List.cons_append,Cz];exact ih _ x
def Sx (a:List Fact): ∀(b:List Fact),(Cz a b).length<=a.length+b.length:=by
 intro b
 induction b generalizing a with
 | nil=>simp[Cz]
 | cons y r ih=>
   simp only[Cz,NM];refine Nat.le_trans (ih _) ?_;split
   .omega
   .simp;omega
def Sw (a:List Fact): ∀(b:List Fact) (x:Fact),x∈Cz a b->x∈a\/x∈b:=by
 intro b
 induction b generalizing a with
 | nil=>intro x hx;exact .inl hx
 | cons y r ih=>
   intro x hx;simp only[Cz]at hx;rcases ih _ x hx with h|h
   .split at h
    .exact .inl h
    .rcases Ds.1 h with h|h
     .exact .inl h
     .rw[Lu.1 h];exact .inr (.head _)
   .exact .inr (.tail _ h)
end Go.Gl
