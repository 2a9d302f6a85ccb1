import Derived.Test.YtcfkfhaedllcpaaGreatV12
import Derived.Test.YtcfkfhaedllcpaaGreatV13
import Derived.Test.YtcfkfhaedllcpaaGreatV14
import Derived.Test.YtcfkfhaedllcpaaGreatV15
import Derived.Test.YtcfkfhaedllcpaaGreatV16
import Derived.Test.YtcfkfhaedllcpaaGreatV17
import Derived.Test.YtcfkfhaedllcpaaGreatV18
set_option linter.all false
set_option linter.defProp false
set_option maxHeartbeats 8000000
noncomputable section
namespace Go.Gl
def cU {M:List Ord} {k:Int} {v:V} {o:List Int} (h: ∀e∈M,e.1<k) (d:Int):B4 (M++[(k,v,o)]) d=if d=k then o else B4 M d:=by
 unfold B4;rw[List.find?_append];split
 .rename_i e
  have:M.find? (fun e=>d==e.1)=none:=by
   rw[List.find?_eq_none];intro x hx;have:=h x hx;simp;omega
  rw[this];simp[e]
 .rename_i e
  cases hf:M.find? fun e=>d==e.1 with
  | some x=>simp
  | none=>simp[List.find?_cons,e]
structure Iz (g:List (List Int)) (k:Nat) (M:List Ord):Prop where
 keys: ∀e∈M,0<=e.1/\e.1<(k:Int)
 ep: ∀d:Int,0<=d->d<k->B4 M d=(B3 g).getD d.toNat []
def V1 {g:List (List Int)} {k:Nat} {M:List Ord} (h:Iz g k M) {d:Int} (hd:d<0\/(k:Int)<=d):B4 M d= []:=by
 unfold B4
 have:M.find? (fun e=>d==e.1)=none:=by
  rw[List.find?_eq_none];intro x hx;have:=h.keys x hx;simp;omega
 rw[this];rfl
def ML {g:List (List Int)} (hg:Is g) {k:Nat} {M:List Ord} (h:Iz g k M) (d:Int):(B4 M d).length<=71744535/\ ∀x∈B4 M d,(0:Int)<=x:=by
 by_cases hd:d<0\/(k:Int)<=d
 .rw[V1 h hd]
  exact⟨by simp,fun x hx=>by cases hx⟩
 .rw[h.ep d (by omega) (by omega)]
  have hb:=Ie hg (2+g.length);have hl:=aj (k:=2+g.length) (by have:=hg.1;omega);unfold B3;exact⟨WJ (fun o ho=>Nat.le_trans (hb o ho).1 hl) _,P3 (fun o ho=>(hb o ho).2) _⟩
def cr {g:List (List Int)} (hg:Is g) {k:Nat} {M:List Ord} (h:Iz g k M) {l:List Int} (hl:l.length<=3) (h0: ∀x∈l,(0:Int)<=x):Mz (C5 M l)/\total (C5 M l)<1000000000:=by
 have hM:AX=17592186044416:=rfl;have hf: ∀p,((B4 M p).filter (· != 0)).length<=71744535:=fun p=>Nat.le_trans (Q8 _ _) (ML hg h p).1
 have ht: ∀l:List Int,total (l.map fun p=>(B4 M p).filter (· != 0))<=l.length*71744535:=by
  intro l
  induction l with
  | nil=>simp[total]
  | cons p r ih=>
    simp only[total,E8,List.sum_cons,JD]at *;have:=hf p;rw[Nat.add_mul];omega
 refine⟨⟨by simp[C5];omega,fun m hm=>?_⟩,?_⟩
 .rcases FC.1 hm with hm|hm
  .obtain⟨p,_,rfl⟩:=Mt.1 hm
   refine⟨by have:=hf p;omega,fun x hx=>(ML hg h p).2 x (LX.1 hx).1⟩
  .rw[LV.1 hm]
   exact⟨by omega,h0⟩
 .have h1:=ht l
  have h2:total (C5 M l)=total (l.map fun p=>(B4 M p).filter (· != 0))+l.length:=by simp[C5,total]
  have h3:=Uo 71744535 hl;omega
def mf {g:List (List Int)} {k:Nat} {M:List Ord} (h:Iz g (k+1) M) {l:List Int} (hl:l=Aw g ((k:Int)+1)) (hp: ∀p∈l,(0:Int)<=p/\p<(k:Int)+1) (hk:k+1<3+g.length) :
    G8 M l ((k:Int)+1)=Dx g (BZ g k) ((k:Int)+1):=by
 have ho: ∀p∈l,B4 M p=(BZ g k).getD p.toNat []:=fun p hpl=>by
  obtain⟨h0,h1⟩:=hp p hpl;rw[h.ep p h0 (by omega)];unfold B3;rw[DL,DL,E6 (k:=2+g.length) (j:=p.toNat) (by omega),E6 (k:=k) (j:=p.toNat) (by omega)]
 have e1:(l.any fun p=>(B4 M p).isEmpty)=(l.any fun p=>((BZ g k).getD p.toNat []).isEmpty):=by
  rw[KO,KM,KM];constructor
  .rintro⟨p,h1,h2⟩;exact⟨p,h1,by rw[<-ho p h1];exact h2⟩
  .rintro⟨p,h1,h2⟩;exact⟨p,h1,by rw[ho p h1];exact h2⟩
 have e2:C5 M l=l.map (fun p=>((BZ g k).getD p.toNat []).filter (· != 0))++[l]:=by
  unfold C5;congr 1;exact List.map_congr_left fun p hpl=>by rw[ho p hpl]
 unfold G8 Dx EG;rw[if_neg (by omega),e1,e2,<-hl];split<;>rfl
def Iz.nil {g:List (List Int)}:Iz g 0 []:=⟨fun e h=>(by cases h),fun d h0 h1=>by omega⟩
def Iz.step {g:List (List Int)} {k:Nat} {M M':List Ord} (h:Iz g k M) {l:List Int} (hl:l=Aw g (k:Int)) (hp: ∀p∈l,(0:Int)<=p/\p<(k:Int)) (hk:k<3+g.length)
    (hM:(M'=M/\G8 M l k= [])\/ ∃v,M'=M++[((k:Int),v,G8 M l k)]/\G8 M l k≠[]):Iz g (k+1) M':=by
 have hc:G8 M l k=(B3 g).getD k []:=by
  cases k with
  | zero=>
    unfold G8 B3;rw[if_pos (by simp),DL,E6 (j:=0) (by omega)];rfl
  | succ k=>
    have:=mf h (by simpa using hl) (fun p hpl=>by have:=hp p hpl;simpa using this) hk;have e:((k+1:Nat):Int)=(k:Int)+1:=by omega
    rw[e,this];unfold B3;rw[DL,E6 (k:=2+g.length) (j:=k+1) (by omega),BZ,List.getElem?_append_right (by rw[Cc];omega),Cc,Nat.sub_self];rfl
 rcases hM with⟨rfl,he⟩|⟨v,rfl,_⟩
 .refine⟨fun e he=>by have:=h.keys e he;omega,fun d h0 h1=>?_⟩
  by_cases hd:d=k
  .subst hd
   rw[V1 h (by omega)];rw[JC,<-hc,he]
  .exact h.ep d h0 (by omega)
 .refine⟨fun e he=>?_,fun d h0 h1=>?_⟩
  .rcases FC.1 he with he|he
   .have:=h.keys e he;omega
   .rw[LV.1 he]
    exact⟨by simp,by simp;omega⟩
  .rw[cU (fun e he=>(h.keys e he).2)]
   split
   .rename_i hd
    rw[hd,JC];exact hc
   .exact h.ep d h0 (by omega)
end Go.Gl
namespace Go.Gl
open Go.Proofs
attribute [local irreducible] A6 Ar Ah AR AI Ae AQ AT AK Ad AN AO Ay A7 Sat AY A5 Ai W
def Ax (p:Prog):List (List Int):=p.AJ.map (·.parents)
def qg (p:Prog):Prop:=p.AJ.length<=AX/\ ∀c∈p.AJ,c.parents.length<=AX/\c.AG.length<=AX/\c.inits.length<=AX
def aE (p:Prog) (hp:qg p) (hk0:p.AJ.length<=1000):Pure zP 158 [.a (BK p)] (.l (Ek (Ax p)) false):=by
 refine wD kZ ?_;refine zh ?_;(repeat clear U K);repeat intro K U
 refine By p.AJ.length (fun k v=>[(3,v),(4,eI (A9 k))]) (fun k v=>[.own v 1 (Ek ((p.AJ.take k).map (·.parents)))]) (fun _ _=>True) (.l [] true) rfl trivial (FA Sat.nil 1) ?_;rintro k v Z hk - hs;refine zh ?_;(repeat clear U K);repeat intro K U
 refine GU hk hp.1 (fun c hc hlt=>?_) fun hk=>?_
 .have hcm:=hp.2 c (Bz hc)
  refine zh ?_;(repeat clear U K);repeat intro K U
  refine JO hc hp.1 rfl ?_;refine zh ?_;(repeat clear U K);repeat intro K U
  refine gX Bc (by have:=hcm.1;have hM:=Mx;omega) ?_
  conv=>whnf
  refine F0 hs 0 (x:=c.parents) rfl (by have hM:=Mx;simp only[BL,LY];omega) C7 fun v' Z' hs'=>?_
  refine zh ?_;(repeat clear U K);repeat intro K U
  refine⟨hlt,v',rfl,trivial,?_⟩;rw[AL hc,Uw];exact hs'
 .refine zh ?_;(repeat clear U K);repeat intro K U
  exact EF hs 0 rfl (by rw[Ap hk];rfl)
def BM (i:Nat):List RJ->List Int
 | []=>[]
 | c::r=>List.replicate c.AG.length ((i:Int)+3)++BM (i+1) r
def AS (p:Prog):AH:=⟨Ax p,BM 0 p.AJ⟩
def I1 (i:Nat) (a b:List RJ):BM i (a++b)=BM i a++BM (i+a.length) b:=by
 induction a generalizing i with
 | nil=>simp[BM]
 | cons c r ih=>
   simp only[List.cons_append,BM,ih,XO,JD];rw[show i+1+r.length=i+(r.length+1) by omega]
def Bl (cs:List RJ):Nat:=(cs.map (·.AG.length)).sum
def CU (i:Nat) (cs:List RJ):(BM i cs).length=Bl cs:=by
 induction cs generalizing i with
 | nil=>rfl
 | cons c r ih=>simp[BM,ih,Bl]
def Qg {cs:List RJ} {k:Nat} {c:RJ} (h:cs[k]? =some c):Bl (cs.take k)+c.AG.length<=Bl cs:=by
 induction cs generalizing k with
 | nil=>cases h
 | cons d r ih=>
   cases k with
   | zero=>simp at h;subst h;simp[Bl]
   | succ k=>simp at h;have:=ih h;simp only[Bl,List.take_succ_cons,E8,List.sum_cons]at *;omega
def T2 (p:Prog) (hp:qg p) (hk0:p.AJ.length<=1000) (hm:Bl p.AJ<=AX):Pure zP 94 [.a (BK p)] (.a (A1 (AS p))):=by
 refine ye kZ ?_
 conv=>whnf
 repeat((first|clear U K|(apply zk;intro K U)|fail);conv=>whnf)
 intro n hn;have hs:=fB (l:=[]) (Z:=emp) Sat.nil hn (o:= .cs [.l [] true,.l [] true]);refine zh ?_;(repeat clear U K);repeat intro K U
 refine(aE p hp hk0).use ?_
 conv=>whnf
 intro m hm;have hs:=fB hs hm (o:= .cs [.l [] true,.l [] true])
 conv=>whnf
 refine JZ hs 1 rfl rfl rfl rfl (by decide) fun Z hs=>?_
 refine zh ?_;(repeat clear U K);repeat intro K U
 refine By p.AJ.length (fun k _=>[(4,eI (A9 k))]) (fun k v=>[.box n [.l [] true,.l [] true],.box m [.l (Ek (Ax p)) false,v],.own v 1 (iL (BM 0 (p.AJ.take k)))]) (fun _ _=>True) (.l [] true) rfl trivial (FA hs 1) ?_;rintro k v Z hk - hs;refine zh ?_;(repeat clear U K);repeat intro K U
 refine GU hk hp.1 (fun c hc hlt=>?_) fun hk=>?_
 .have hcm:=hp.2 c (Bz hc)
  have htk:=Qg hc;refine zh ?_;(repeat clear U K);repeat intro K U
  refine By c.AG.length (fun j _=>[(5,eI (A9 j))]) (fun j v=>[.box n [.l [] true,.l [] true],.box m [.l (Ek (Ax p)) false,v],.own v 1 (iL (BM 0 (p.AJ.take k)++List.replicate j ((k:Int)+3)))]) (fun _ _=>True) v rfl trivial (by simpa using hs) ?_;rintro j v Z hj - hs;refine zh ?_;(repeat clear U K);repeat intro K U
  refine JO hc hp.1 rfl ?_;refine zh ?_;(repeat clear U K);repeat intro K U
  refine GU hj hcm.2.1 (fun s hsl hjlt=>?_) fun hj=>?_
  .refine zh ?_;(repeat clear U K);repeat intro K U
   refine VP hs 1 rfl ?_;refine zh ?_;(repeat clear U K);repeat intro K U
   have he:IntKind.i64.wrap (A9 k+3)=(k:Int)+3:=by
    have:=hp.1;rw[AM (by omega),wrap64 (by omega) (by simp only[AX]at *;omega)]
   refine F0 hs 2 (x:=IntKind.i64.wrap (A9 k+3)) rfl (by have hM:=Mx;simp only[Ro,CU,List.length_replicate];omega) Bc fun v' Z' hs'=>?_
   conv=>whnf
   refine Ly hs' 1 rfl (H5 hs' 2 rfl) kZ fun Z2 hs2=>?_
   refine zh ?_;(repeat clear U K);repeat intro K U
   refine⟨hjlt,v',rfl,trivial,?_⟩;rw[List.replicate_succ',<-XO];rw[he]at hs2;exact hs2
  .refine zh ?_;(repeat clear U K);repeat intro K U
   refine⟨hlt,v,rfl,trivial,?_⟩;rw[AL hc,I1];have:(p.AJ.take k).length=k:=by simp;omega
   rw[this];simpa[BM,hj]using hs
 .refine zh ?_;(repeat clear U K);repeat intro K U
  refine VP hs 1 rfl ?_;refine zh ?_;(repeat clear U K);repeat intro K U
  refine JZ hs 0 rfl rfl rfl (by simp[H5 hs 2 rfl]) kZ fun Z2 hs2=>?_
  refine zh ?_;(repeat clear U K);repeat intro K U
  refine VP hs2 0 rfl ?_;refine zh ?_;(repeat clear U K);repeat intro K U
  refine Ab (.a (.cons (.refl _) (.cons ?_ .nil)));have:=hs2.HP 2 rfl;rw[Ap hk]at this;exact this
def Ld:Int->List Int->Bool
 | _,[]=>true
 | n,s::r=>s==n&&Ld (n+1) r
def Cj:Int->List RJ->Bool
 | _,[]=>true
 | n,c::r=>decide (c.AG.length<=4)&&(decide (c.parents.length<=3)&&(Ld n c.AG&&Cj (n+c.AG.length) r))
def D6 (w:AH) (c n:Int):List (Int×Int)->List (Int×Int)->Bool
 | _,[]=>true
 | pre,x::r=>decide (0<=x.1)&&(decide (x.1<n)&&(hasB w c x.1&&(Tb x.2&&(pre.all (fun y=>y.1 != x.1)&&D6 w c n (pre++[x]) r))))
def lW (g:List (List Int)) (c:Int):Bool:= !((B3 g).getD c.toNat []).isEmpty
def GQ (w:AH) (n:Int):Nat->List RJ->Bool
 | _,[]=>true
 | i,c::r=>lW w.parents ((i:Int)+3)&&(D6 w ((i:Int)+3) n [] c.inits&&GQ w n (i+1) r)
def A8 (p:Prog):Bool:=decide (p.AJ.length<=10)&&(Cj 0 p.AJ&&((Bl p.AJ:Int)==p.AG&&(Dh (Ax p)&&GQ (AS p) (Bl p.AJ) 0 p.AJ)))
def yZ {c:RJ} (h:H6 (PG c)):c.parents.length<=AX/\c.AG.length<=AX/\c.inits.length<=AX:=by
 simp only[PG,C9,Ex,BL]at h;exact⟨h.1.1,h.2.1.1,h.2.2.1.1⟩
def N9 {p:Prog} (h:Eu (.a (BK p))):qg p:=by
 refine⟨(Ev h).1,fun c hc=>?_⟩;simp only[BK,GV,C9,Ex,Jf]at h;exact yZ (h.1.2 c hc)
def jn (p:Prog) (hk0:p.AJ.length<=1000):Pure zP 158 [.a (BK p)] (.l (Ek (Ax p)) false):=Pure.fit (by kernel_rfl) fun hf=>aE p (N9 hf.1) hk0
def FT: ∀(cs:List RJ) (n:Int),Cj n cs=true->Bl cs<=4*cs.length/\ ∀c∈cs,c.parents.length<=3/\c.AG.length<=4
 | [],_,_=>⟨I3 _,fun _ h=>by cases h⟩
 | c::r,n,h=>by
   simp only[Cj,BD,CD]at h;have⟨h1,h2⟩:=FT r _ h.2.2.2;refine⟨by simp only[Bl,E8,List.sum_cons,JD]at *;omega,fun d hd=>?_⟩;rcases GK.1 hd with rfl|hd
   .exact⟨h.2.1,h.1⟩
   .exact h2 d hd
def S2 {i:Nat}: ∀(r pre:List Int),M5 i pre r=true->pre.Nodup->(pre++r).Nodup/\ ∀c∈r,(3:Int)<=c/\c<3+(i:Int)
 | [],pre,_,h=>⟨by simpa using h,fun _ h=>by cases h⟩
 | c::r,pre,h,hn=>by
   simp only[M5,qI,BD,CD,Bool.not_eq_true']at h;have hc:c∉pre:=by simpa using h.1.2.2
   obtain⟨h1,h2⟩:=S2 r (pre++[c]) h.2 (List.nodup_append.2 ⟨hn,by simp,fun a ha b hb=>by simp at hb;subst hb;exact fun e=>hc (e ▸ ha)⟩);refine⟨by simpa using h1,fun d hd=>?_⟩;rcases GK.1 hd with rfl|hd
   .exact⟨h.1.1,h.1.2.1⟩
   .exact h2 d hd
def QT: ∀(g:List (List Int)) (k:Nat),Io k g=true-> ∀(i:Nat) (l:List Int),g[i]? =some l->l.length<=3/\l.Nodup/\ ∀c∈l,(3:Int)<=c/\c<3+((k+i:Nat):Int)
 | [],_,_,_,_,h=>by cases h
 | l ::r,k,h,i,l',hi=>by
   simp only[Io,BD,CD]at h;cases i with
   | zero=>
     simp at hi;subst hi;obtain⟨h1,h2⟩:=S2 l [] h.2.1 .nil;exact⟨h.1,by simpa using h1,by simpa using h2⟩
   | succ i=>
     simp at hi;have:=QT r (k+1) h.2.2 i l' hi;rw[show k+(i+1)=k+1+i by omega];exact this
def Ds {g:List (List Int)} (h:Dh g=true):Is g:=by
 simp only[Dh,BD,CD]at h;refine⟨h.1,fun i l hi=>?_⟩;have:=QT g 0 h.2 i l hi;simpa using this
def Nl {g:List (List Int)} (h:Is g):ordered g:=by
 intro c p hp;unfold par at hp;split at hp
 .cases hp
 .rename_i h3
  rw[DL]at hp;cases hq:g[c - 3]? with
  | none=>rw[hq]at hp;cases hp
  | some l=>
    rw[hq]at hp;have:=(h.2 _ _ hq).2.2 p hp;omega
def F9 {i:Nat} {cs:List RJ} {c:Int} (h:c∈BM i cs):(3:Int)+i<=c/\c<3+i+cs.length:=by
 induction cs generalizing i with
 | nil=>cases h
 | cons d r ih=>
   simp only[BM,FC,List.mem_replicate]at h;simp only[JD];rcases h with⟨_,rfl⟩|h
   .omega
   .have:=ih h;omega
def QK {p:Prog} (h1:p.AJ.length<=10) (h2:Cj 0 p.AJ=true) (h3:Dh (Ax p)=true):Ur (AS p):=by
 have hl:(AS p).parents.length=p.AJ.length:=by simp[AS,Ax]
 refine⟨by omega,Nl (Ds h3),fun c hc=>?_,?_⟩
 .have:=F9 hc
  rw[hl];omega
 .have:=(FT _ _ h2).1
  simp only[AS,CU];omega
def dn (p : Prog):Pure zP 128 [.a (BK p)] (.b (A8 p)):=by
 refine Pure.fit (by kernel_rfl) fun hf=>?_
 have hP:=N9 hf.1;have hcl:=hP.1;have hM:=Mx;refine wN kZ ?_
 conv=>whnf
 repeat'((first|clear U K|apply st|(apply zk;intro K U)|refine zn ?_|(refine zd (fun hc=>?_) (fun hc=>?_)<;>try exact⟨⟩)|fail)<;>conv=>whnf)
 .exact AF (by simp[A8];intros;omega)
 have h10:p.AJ.length<=10:=by omega
 refine By p.AJ.length (fun k (n:Int)=>[(3,eI n),(4,eI (A9 k))]) (fun _ _=>[]) (fun k n=>Cj 0 p.AJ=Cj n (p.AJ.drop k)/\0<=n/\n+Bl (p.AJ.drop k)=Bl p.AJ/\n<=4*k) 0 rfl (by simp) Sat.nil ?_;rintro k n Z hk ⟨hn,hn0,hn1,hn2⟩ hs
 conv=>whnf
 repeat'((first|clear U K|apply st|(apply zk;intro K U)|refine zn ?_|(refine fc (fun x hx hlt hc=>?_) (fun hk hc=>?_)<;>(try rw[hc])<;>clear hc)|refine Pure.use (jn _ (by omega)) ?_|refine Pure.use (nX _ _) ?_|(refine zd (fun hc=>?_) (fun hc=>?_)<;>try exact⟨⟩)|fail)<;>conv=>whnf)
 .exact AF (by simp only[A8];rw[hn,drop_cons hx,Cj];simp;intros;omega)
 .have hms:n+(x.AG.length:Int)+Bl (p.AJ.drop (k+1))=Bl p.AJ:=by
   rw[drop_cons hx]at hn1;simp only[Bl,E8,List.sum_cons]at hn1 ⊢;omega
  have hsl:=(hP.2 x (Bz hx)).2.1
  have hn':Cj 0 p.AJ=(Ld n x.AG&&Cj (n+x.AG.length) (p.AJ.drop (k+1))):=by
   have a1:x.AG.length<=4:=by omega
   have a2:x.parents.length<=3:=by omega
   rw[hn,drop_cons hx,Cj];simp only[a1,a2,decide_true,GJ]
  revert x
  rintro c hx hcs h3 hms hsl hn';refine By c.AG.length (fun j (m:Int)=>[(3,eI m),(6,eI (A9 j))]) (fun _ _=>[]) (fun j m=>Cj 0 p.AJ=(Ld m (c.AG.drop j)&&Cj (n+c.AG.length) (p.AJ.drop (k+1)))/\m=n+j) n rfl ⟨hn',by simp⟩ Sat.nil ?_;rintro j m Z hj ⟨hm,he⟩ hs
  conv=>whnf
  repeat'((first|clear U K|apply st|(apply zk;intro K U)|refine zn ?_|(refine fc (fun x hx hlt hc=>?_) (fun hk hc=>?_)<;>(try rw[hc])<;>clear hc)|refine za (fun hc=>?_) fun hc=>?_|fail)<;>conv=>whnf)
  .exact AF (by simp only[A8];rw[hm,drop_cons (by assumption),Ld];simp[hc])
  .refine⟨hlt,_,rfl,⟨?_,?_⟩,hs⟩
   .rw[hm,drop_cons (by assumption),Ld,wrap64 (by omega) (by omega)];simp[hc]
   .rw[wrap64 (by omega) (by omega)];omega
  .refine⟨by assumption,m,rfl,⟨?_,by omega,by omega,by omega⟩,hs⟩
   rw[hm,Al (by assumption),Ld,GJ,he];congr 1;omega
 .exact AF (by simp only[A8];rw[hn,drop_cons hx,Cj];simp;intros;omega)
 .have hne:n=Bl p.AJ:=by rw[Al hk]at hn1;simpa[Bl]using hn1
  exact AF (by simp only[A8];rw[hc];simp)
 .have hne:n=Bl p.AJ:=by rw[Al hk]at hn1;simpa[Bl]using hn1
  have hsb:Cj 0 p.AJ=true:=by rw[hn,Al hk];rfl
  have hms:=(FT _ _ hsb).1;have hok:=QK h10 hsb hc
  have hcb:A8 p=GQ (AS p) n 0 p.AJ:=by
   simp only[A8,hsb,hc,<-hne];simp[*]
  refine(T2 p hP (by omega) (by omega)).use ?_
  conv=>whnf
  repeat'((first|clear U K|apply st|(apply zk;intro K U)|refine zr fun Z hs=>?_|refine zp fun nn hnn Z hs=>?_|fail)<;>conv=>whnf)
  refine By p.AJ.length (fun k (_:Unit)=>[(9,eI (A9 k))]) (fun _ _=>[.box nn (A1 (AS p))]) (fun k _=>A8 p=GQ (AS p) n k (p.AJ.drop k)) () rfl (by rw[hcb];rfl) hs ?_;rintro k - Z hk hn hs
  conv=>whnf
  repeat'((first|clear U K|apply st|(apply zk;intro K U)|refine zn ?_|(refine fc (fun x hx hlt hc=>?_) (fun hk hc=>?_)<;>(try rw[hc])<;>clear hc)|fail)<;>conv=>whnf)
  .have e3 : IntKind.i64.wrap (A9 k+3)=(k:Int)+3:=by rw[AM (by omega),wrap64 (by omega) (by omega)]
   rw[e3];have hgl:(Ax p).length=p.AJ.length:=by simp[Ax]
   refine(sJ (Ax p) false ((k:Int)+3) (Ds hc) (by omega) (by omega)).use ?_
   conv=>whnf
   repeat'((first|clear U K|apply st|(apply zk;intro K U)|refine zn ?_|refine za (fun hc=>?_) fun hc=>?_|fail)<;>conv=>whnf)
   .have hlb:lW (AS p).parents ((k:Int)+3)=false:=by
     show(!((B3 (Ax p)).getD ((k:Int)+3).toNat []).isEmpty)=false;rw[hc];rfl
    exact AF (by rw[hn,drop_cons hx,GQ,hlb];rfl)
   .have hil:=(hP.2 x (Bz hx)).2.2
    have hn':A8 p=(D6 (AS p) ((k:Int)+3) n [] x.inits&&GQ (AS p) n (k+1) (p.AJ.drop (k+1))):=by
     have hlb:lW (AS p).parents ((k:Int)+3)=true:=by
      show(!((B3 (Ax p)).getD ((k:Int)+3).toNat []).isEmpty)=true;rw[hc];rfl
     rw[hn,drop_cons hx,GQ,hlb];rfl
    revert x
    rintro c hx hil hn';refine By c.inits.length (fun j (_:Unit)=>[(14,eI (A9 j))]) (fun _ _=>[.box nn (A1 (AS p))]) (fun j _=>A8 p=(D6 (AS p) ((k:Int)+3) n (c.inits.take j) (c.inits.drop j)&&GQ (AS p) n (k+1) (p.AJ.drop (k+1)))) () rfl (by rw[hn'];rfl) hs ?_;rintro j - Z hj hm hs
    conv=>whnf
    repeat'((first|clear U K|apply st|(apply zk;intro K U)|refine zn ?_|(refine fc (fun x hx hlt hc=>?_) (fun hk hc=>?_)<;>(try rw[hc])<;>clear hc)|refine za (fun hc=>?_) fun hc=>?_|fail)<;>conv=>whnf)
    .refine(sX (AS p) ((k:Int)+3) x.1 hok (by omega) (by rw[show(AS p).parents=Ax p from rfl];omega) (by omega) (by rw[show(AS p).owner=BM 0 p.AJ from rfl,CU];omega)).use ?_
     conv=>whnf
     repeat'((first|clear U K|apply st|(apply zk;intro K U)|refine zn ?_|refine Pure.use (pV _) ?_|refine za (fun hc=>?_) fun hc=>?_|fail)<;>conv=>whnf)
     .exact AF (by rw[hm,drop_cons hx,D6];simp[*])
     .have hm':A8 p=((c.inits.take j).all (fun y=>y.1 != x.1)&&(D6 (AS p) ((k:Int)+3) n (c.inits.take (j+1)) (c.inits.drop (j+1))&&GQ (AS p) n (k+1) (p.AJ.drop (k+1)))):=by
       have b1:decide (0<=x.1)=true:=decide_eq_true (by assumption);have b2:decide (x.1<n)=true:=decide_eq_true (by assumption);rw[hm,drop_cons hx,D6,AL hx,b1,b2,‹hasB _ _ _=true›,hc];simp only[GJ,Bool.and_assoc]
      revert x
      rintro x hxj hx0 hx1 hhb hbt hm';refine By j (fun i (_:Unit)=>[(15,eI (A9 i))]) (fun _ _=>[.box nn (A1 (AS p))]) (fun i _=>A8 p=(((c.inits.take j).drop i).all (fun y=>y.1 != x.1)&&(D6 (AS p) ((k:Int)+3) n (c.inits.take (j+1)) (c.inits.drop (j+1))&&GQ (AS p) n (k+1) (p.AJ.drop (k+1))))) () rfl (by rw[hm'];rfl) hs ?_;rintro i - Z hi hl hs;rcases Nat.lt_or_ge i j with hij|hij
      .obtain⟨y,hy⟩: ∃y,c.inits[i]? =some y:=⟨_,Cw (by omega)⟩
       have hy':(c.inits.take j)[i]? =some y:=by rw[List.getElem?_take,if_pos hij,hy]
       conv=>whnf
       repeat'((first|clear U K|apply st|(apply zk;intro K U)|refine zn ?_|(refine zb (fun hc=>?_) (fun hc=>?_)<;>try exact⟨⟩)|fail)<;>conv=>whnf)
       .exact AF (by rw[hl,drop_cons hy',KK,hc];simp)
       .refine⟨hij,(),rfl,?_,hs⟩
        have hc':(y.1 != x.1)=true:=by simpa using hc
        rw[hl,drop_cons hy',KK,hc',GJ]
      .conv=>whnf
       repeat'((first|clear U K|apply st|(apply zk;intro K U)|refine zn ?_|(refine zb (fun hc=>?_) (fun hc=>?_)<;>try exact⟨⟩)|fail)<;>conv=>whnf)
       refine⟨by assumption,(),rfl,?_,hs⟩;rw[hl,List.drop_of_length_le (by rw[LY];omega),List.all_nil,GJ]
     .exact AF (by rw[hm,drop_cons hx,D6];simp[*])
    .exact AF (by rw[hm,drop_cons hx,D6];simp;intros;omega)
    .exact AF (by rw[hm,drop_cons hx,D6];simp;intros;omega)
    .refine⟨by assumption,(),rfl,?_,hs⟩
     rw[hm,Al hk,D6,GJ]
  .exact AF (by rw[hn,Al hk];rfl)
 .have hne:n=Bl p.AJ:=by rw[Al hk]at hn1;simpa[Bl]using hn1
  exact AF (by simp only[A8];rw[<-hne];simp[hc])
def Fl (f:Int->Int->List Int->Option (List Int)) (op size:Int):Nat->List Int->List Int->Option (List Int)
 | _,[],s=>some s
 | i,k::r,s=>match f k (if op=9/\i=1 then size+1 else size) s with
   | none=>none
   | some s'=>Fl f op size (i+1) r s'
def D4 (p:Prog) (next:Bool) (size:Int) (x:Node):Bool:=((x.kids.length:Int)==JT p x)&&(M0 p x size&&(x.op != 18||next))
def CK (p:Prog) (next:Bool):Nat->Int->Int->List Int->Option (List Int)
 | 0,_,_,_=>none
 | d+1,n,size,s=>
   if n<0\/(p.nodes.length:Int)<=n\/0<=s.getD n.toNat 0 then none else
   match p.nodes[n.toNat]? with
   | none=>none
   | some x=>if D4 p next size x then Fl (CK p next d) x.op size 0 x.kids (s.set n.toNat size)else none
def Vi (v:V) (s:List Int) (o:Option (List Int)) (r:R) (post:List At):Prop:=
 ∃s':List Int,s'.length=s.length/\post= [.own v 1 (iL s')]/\((o=some s'/\r= .ret (.b true))\/(o=none/\r= .ret (.b false)))
def PW {v:V} {s s':List Int} {o:Option (List Int)} {Z:AE} {rest:List At} (hs:Sat Z (.own v 1 (iL s')::rest)) (hl:s'.length=s.length) (ho:o=none):Ar Z (.b false) fun r Z'=> ∃post,Vi v s o r post/\Sat Z' post:=
 Am hs (.cons₂ _ (Jm _)) (.refl _) fun Z' hs'=>⟨_,⟨s',hl,rfl,.inr ⟨ho,rfl⟩⟩,hs'⟩
def gY {p:Prog} (h:Eu (.a (BK p))) {x:Node} (hx:x∈p.nodes):x.kids.length<=AX:=by
 simp only[BK,GV,C9,Ex,Jf]at h
 have h2:H6 (Iw x):=by
  first|exact h.2.2.2.2.1.2 x hx|exact h.2.2.2.2.2.1.2 x hx|exact h.2.2.2.1.2 x hx|exact h.2.2.1.2 x hx|exact h.2.1.2 x hx
 simp only[Iw,C9,Ex,BL]at h2
 first|exact h2.2.2.1.1|exact h2.2.2.1|exact h2.1
def On {p:Prog} {next:Bool} {d:Nat} {n size:Int} {s:List Int} {x:Node} {y:Int} (h0:0<=n) (h1:n<(p.nodes.length:Int)) (hs:s[n.toNat]? =some y) (hy:y<0) (hx:p.nodes[n.toNat]? =some x) :
    CK p next (d+1) n size s=if D4 p next size x then Fl (CK p next d) x.op size 0 x.kids (s.set n.toNat size)else none:=by
 have e:s.getD n.toNat 0=y:=by rw[DL,hs];rfl
 simp only[CK];rw[if_neg (by rw[e];omega),hx]
def NR {p:Prog} {next:Bool} {d:Nat} {n size:Int} {s:List Int} (h:n<0\/(p.nodes.length:Int)<=n\/0<=s.getD n.toNat 0):CK p next (d+1) n size s=none:=by
 simp only[CK];rw[if_pos h]
def fk (p : Prog) (next:Bool): ∀d:Nat,d<=12-> ∀(n size depth:Int) (s:List Int) (v:V),depth=13 - d->0<=size->size+d<=100->s.length=p.nodes.length->(Bg v).isSome=true->
    Be zP 131 [.a (BK p),eI n,eI size,eI depth,.b next,v] [.own v 1 (iL s)] (Vi v s (CK p next d n size s)):=by
 intro d
 induction d with
 | zero=>
   intro _ n size depth s v hd h0 h1 hl hv Z hs;refine A6.fit (by kernel_rfl) fun hf=>?_
   have⟨p1,p2,p3,p4⟩:=Ev hf.1;have hM:=Mx;refine gw kZ ?_
   conv=>whnf
   repeat'((first|clear U K|apply st|(apply zk;intro K U)|refine zn ?_|refine ze fun x hx=>?_|(refine zb (fun hc=>?_) (fun hc=>?_)<;>try exact⟨⟩)|fail)<;>conv=>whnf)
   all_goals exact Am hs (.refl _) (.refl _) fun Z' hs'=>⟨_,⟨s,rfl,rfl,.inr ⟨rfl,rfl⟩⟩,hs'⟩
 | succ d ih =>
   intro hd12 n size depth s v hd h0 h1 hl hv Z hs;refine A6.fit (by kernel_rfl) fun hf=>?_
   have⟨p1,p2,p3,p4⟩:=Ev hf.1;have hM:=Mx;refine gw kZ ?_
   conv=>whnf
   repeat'((first|clear U K|apply st|(apply zk;intro K U)|refine zn ?_|refine rk ?_ ?_|exact fun s e=>by cases e;rfl|refine ze fun x hx=>?_|refine zr fun Z hs=>?_|refine Pure.use (nP _ _) ?_|refine Pure.use (cW _ _ _) ?_|(refine zb (fun hc=>?_) (fun hc=>?_)<;>try exact⟨⟩)|refine zp fun nn hnn Z hs=>?_|fail)<;>conv=>whnf)
   .exact PW hs (by simp) (by rw[On (by assumption) (by assumption) (by assumption) (by assumption) hx];simp[D4, *])
   rotate_left
   .cases hc
   rotate_left
   .exact PW hs (by simp) (by rw[On (by assumption) (by assumption) (by assumption) (by assumption) hx];simp[D4, *])
   .exact PW hs (by simp) (by rw[On (by assumption) (by assumption) (by assumption) (by assumption) hx];simp[D4, *])
   .exact PW hs rfl (NR (.inr (.inr (by rw[DL,hx];exact hc))))
   .exact PW hs rfl (NR (.inr (.inl hc)))
   .exact PW hs rfl (NR (.inl hc))
   all_goals
    have hW:CK p next (d+1) n size s=Fl (CK p next d) x.op size 0 x.kids (s.set n.toNat size):=by
     rw[On (by assumption) (by assumption) (by assumption) (by assumption) hx];simp[D4, *]
    rw[hW]
    rename Node=>nd
    refine By nd.kids.length (fun k (_:List Int)=>[(14,eI (A9 k))]) (fun _ s'=>[.own v 1 (iL s'),.obj nn (.cs (Iw nd))]) (fun k s'=>s'.length=s.length/\Fl (CK p next d) nd.op size 0 nd.kids (s.set n.toNat size)=Fl (CK p next d) nd.op size k (nd.kids.drop k) s') (s.set n.toNat size) rfl ⟨by simp,by simp⟩ hs ?_;clear hs;rintro k s' Z hk ⟨hl',hkids⟩ hs;have hkm:=gY hf.1 (Bz hx);have hck:A9 k=k:=AM (by omega);by_cases hlt:k<nd.kids.length
    .obtain⟨kid,hkid⟩: ∃kid,nd.kids[k]? =some kid:=⟨_,Cw hlt⟩
     have hrec:=fun kid sz h0 h1=>ih (by omega) kid sz (depth+1) s' v (by omega) h0 h1 (by omega) hv
     conv=>whnf
     repeat'((first|clear U K|apply st|(apply zk;intro K U)|refine zn ?_|(refine fc (fun x hx hlt hc=>?_) (fun hk hc=>?_)<;>(try rw[hc])<;>clear hc)|(refine zb (fun hc=>?_) (fun hc=>?_)<;>try exact⟨⟩)|fail)<;>conv=>whnf)
     all_goals try(exfalso;omega)
     all_goals try refine JO (enc:=fun i:Int=>[V.i .i64 i]) hkid hkm rfl ?_
     conv=>whnf
     all_goals try(exfalso;omega)
     all_goals
      have hK2:=hkids;rw[drop_cons hx,Fl]at hK2
      first
       | rw[if_pos (by omega)]at hK2
         rw[wrap64 (by omega) (by omega),wrap64 (by omega) (by omega)];refine(hrec x (size+1) (by omega) (by omega)).use hs ?_
       | rw[if_neg (by omega)]at hK2
         rw[wrap64 (by omega) (by omega)];refine(hrec x size (by omega) (by omega)).use hs ?_
      rintro r post Z' ⟨s2,hl2,rfl,⟨ho,rfl⟩|⟨ho,rfl⟩⟩ hs
      .rw[ho]at hK2
       conv=>whnf
       repeat'((first|clear U K|apply st|(apply zk;intro K U)|refine zn ?_|(refine zd (fun hc=>?_) (fun hc=>?_)<;>try exact⟨⟩)|fail)<;>conv=>whnf)
       all_goals first|(exfalso;cases hc;done)|exact⟨hlt,s2,rfl,⟨by omega,hK2⟩,hs⟩
      .rw[ho]at hK2
       conv=>whnf
       repeat'((first|clear U K|apply st|(apply zk;intro K U)|refine zn ?_|(refine zd (fun hc=>?_) (fun hc=>?_)<;>try exact⟨⟩)|fail)<;>conv=>whnf)
       all_goals first|exact PW hs (by omega) hK2|(exfalso;cases hc;done)
    .have hke:k=nd.kids.length:=by omega
     conv=>whnf
     repeat'((first|clear U K|apply st|(apply zk;intro K U)|refine zn ?_|(refine fc (fun x hx hlt hc=>?_) (fun hk hc=>?_)<;>(try rw[hc])<;>clear hc)|(refine zb (fun hc=>?_) (fun hc=>?_)<;>try exact⟨⟩)|fail)<;>conv=>whnf)
     all_goals try(exfalso;omega)
     rw[hke,Al rfl]at hkids;exact Am hs (.cons₂ _ (Jm _)) (.refl _) fun Z' hs'=>⟨_,⟨s',hl',rfl,.inl ⟨(by first|rw[hW,hkids,Fl]|rw[hkids,Fl]),rfl⟩⟩,hs'⟩
def Qb {w:AH} (f:Fact):Bk w f=true->R0 f=true:=by
 induction f using Fact.ind with
 | h f ih=>
   intro h;rw[Cs]at h;simp only[DB,BD,Er,CD]at h;rw[QF];simp only[BD,CD,List.all_map,Er,Function.comp_apply,id];exact⟨⟨h.1.2.2.1,h.1.2.2.2.1⟩,fun k hk=>ih k hk (h.2 k hk)⟩
def Om (p:Prog) (m:Og):Bool:=decide (1<=m.kind)&&(decide (m.kind<=4)&&(decide (0<=m.gen)&&(decide (m.gen<(p.CW.length:Int))&&(DC (AS p) m.fact&&decide (GS m.fact<=p.CW.getD m.gen.toNat 0)))))
def runM (p:Prog):List Og->List Int->Option (List Int)
 | [],s=>some s
 | m::r,s=>if Om p m then match CK p (KV m.kind) 12 m.node (p.CW.getD m.gen.toNat 0) s with
   | none=>none
   | some s'=>runM p r s' else none
def C2 (p:Prog):Bool:=A8 p&&(decide (p.CW.length<=8)&&(decide (p.methods.length<=16)&&(decide (1<=p.nodes.length)&&(decide (p.nodes.length<=120)&&p.CW.all fun g=>decide (1<=g)&&decide (g<=3)))))
def BW (p:Prog):Option (List Int):=if C2 p then match runM p p.methods (List.replicate p.nodes.length (-1))with
 | none=>none
 | some s=>match CK p false 12 p.main 0 s with
   | none=>none
   | some s=>if s.all fun n=>decide (0<=n)then some s else none else none
def KW (p:Prog):Option (List Int)->Option (List Int)
 | none=>none
 | some s=>match CK p false 12 p.main 0 s with
   | none=>none
   | some s=>if s.all fun n=>decide (0<=n)then some s else none
def N8 (p:Prog):V:=match BW p with
 | none=> .t [.l [] true,.b false]
 | some s=> .t [.l (iL s) false,.b true]
def pS {p:Prog} (h:BW p=none):N8 p= .t [.l [] true,.b false]:=by simp only[N8,h]
def yN {p:Prog} (h:C2 p=false):N8 p= .t [.l [] true,.b false]:=pS (by unfold BW;rw[h];rfl)
def Lp {p:Prog} {Z:AE} (h:BW p=none):Ar Z (.t [.l [] true,.b false]) fun r Z'=>r=R.ret (N8 p)/\Z'=emp:=by
 rw[pS h];exact AF rfl
def PV {p:Prog} {Z:AE} (h:C2 p=false):Ar Z (.t [.l [] true,.b false]) fun r Z'=>r=R.ret (N8 p)/\Z'=emp:=by
 rw[yN h];exact AF rfl
def Z1 {p:Prog} (h:C2 p=true):BW p=KW p (runM p p.methods (List.replicate p.nodes.length (-1))):=by
 unfold BW;rw[if_pos h];rfl
def DT {p:Prog} {k:Nat} {x:Og} {s:List Int} (hx:p.methods[k]? =some x) (hn:BW p=KW p (runM p (p.methods.drop k) s)) (hok:Om p x=false):BW p=none:=by
 rw[hn,drop_cons hx,runM,if_neg (by simp[hok])];rfl
def SJ {p:Prog} {k:Nat} {x:Og} {s:List Int} (hx:p.methods[k]? =some x) (hn:BW p=KW p (runM p (p.methods.drop k) s)) (hok:Om p x=true) (hw:CK p (KV x.kind) 12 x.node (p.CW.getD x.gen.toNat 0) s=none):BW p=none:=by
 rw[hn,drop_cons hx,runM,if_pos hok,hw];rfl
def Zg {p:Prog} {k:Nat} {x:Og} {s s':List Int} (hx:p.methods[k]? =some x) (hn:BW p=KW p (runM p (p.methods.drop k) s)) (hok:Om p x=true) (hw:CK p (KV x.kind) 12 x.node (p.CW.getD x.gen.toNat 0) s=some s'):BW p=KW p (runM p (p.methods.drop (k+1)) s'):=by
 rw[hn,drop_cons hx,runM,if_pos hok,hw]
def Sj {p:Prog} (h:C2 p=true) {k:Nat} {x:Int} (hx:p.CW[k]? =some x):1<=x/\x<=3:=by
 simp only[C2,BD,Er,CD]at h;exact h.2.2.2.2.2 x (Bz hx)
def sE (p:Prog):Pure zP 71 [.a (BK p)] (N8 p):=by
 refine Pure.fit (by kernel_rfl) fun hf=>?_
 have⟨p1,p2,p3,p4⟩:=Ev hf.1;have hM:=Mx;refine yk kZ ?_;have hs:=Sn
 conv=>whnf
 repeat'((first|apply st|(apply sq;intro K U)|(apply si;intro A B hA hB)|(refine hA _ _ ?_;clear hB B hA A)|(apply U;clear U K)|refine⟨rfl,?_⟩|refine⟨kZ,?_⟩|refine Pure.use (dn _) ?_|(constructor<;>intro hc<;>(try rw[hc])<;>(replace hc:=bp hc)<;>(try simp(disch:=omega) only[BL,wrap64,AM]at hc))|clear U K)<;>conv=>whnf)
 .exact PV (by simp[C2];intros;omega)
 rotate_left
 .exact PV (by simp[C2];intros;omega)
 .exact PV (by simp[C2];intros;omega)
 .exact PV (by simp[C2];intros;omega)
 .exact PV (by simp[C2, *])
 have a1:p.CW.length<=8:=by omega
 have a2:p.methods.length<=16:=by omega
 have a3:1<=p.nodes.length:=by omega
 have a4:p.nodes.length<=120:=by omega
 have hg:C2 p=p.CW.all fun g=>decide (1<=g)&&decide (g<=3):=by
  simp only[C2,a1,a2,a3,a4,decide_true,GJ];simp[*]
 refine By p.CW.length (fun k (_:Unit)=>[(4,eI (A9 k))]) (fun _ _=>[]) (fun k _=>C2 p=(p.CW.drop k).all fun g=>decide (1<=g)&&decide (g<=3)) () rfl (by simpa using hg) hs ?_;clear hs;rintro k - Z hk hn hs
 conv=>whnf
 repeat'((first|apply st|(apply sq;intro K U)|(apply si;intro A B hA hB)|(refine hA _ _ ?_;clear hB B hA A)|(apply U;clear U K)|refine⟨rfl,?_⟩|refine ix ?_|(refine fc (fun x hx hlt hc=>?_) (fun hk hc=>?_)<;>(try rw[hc])<;>clear hc)|(constructor<;>intro hc<;>(try rw[hc])<;>(replace hc:=bp hc))|clear U K)<;>conv=>whnf)
 .exact PV (by rw[hn,drop_cons hx];simp;intros;omega)
 .exact⟨hlt,(),rfl,by rw[hn,drop_cons hx];simp[*],hs⟩
 .exact PV (by rw[hn,drop_cons hx];simp;intros;omega)
 have hh:C2 p=true:=by rw[hn,Al hk];rfl
 have hP:=N9 hf.1;have hcB:A8 p=true:=by assumption
 have hsb:Cj 0 p.AJ=true:=by simp only[A8,BD]at hcB;exact hcB.2.1
 have hc10:p.AJ.length<=1000:=by simp only[A8,BD,CD]at hcB;omega
 have hmS:Bl p.AJ<=AX:=by have:=(FT _ _ hsb).1;simp only[A8,BD,CD]at hcB;omega
 have hL:=Z1 hh;clear hn hg;refine By p.nodes.length (fun j v=>[(5,v),(6,eI (A9 j))]) (fun j v=>[.own v 1 (iL (List.replicate j (-1)))]) (fun j v=>1<=j->(Bg v).isSome=true) (.l [] true) rfl (fun h=>by omega) (FA hs 1) ?_;clear hs;rintro j v Z hj hv hs
 conv=>whnf
 repeat'((first|apply st|(apply sq;intro K U)|(apply si;intro A B hA hB)|(refine hA _ _ ?_;clear hB B hA A)|(apply U;clear U K)|refine⟨rfl,?_⟩|refine⟨kZ,?_⟩|refine sn fun Z hs=>?_|refine aq fun v Z hs hsl=>?_|(refine fc (fun x hx hlt hc=>?_) (fun hk hc=>?_)<;>(try rw[hc])<;>clear hc)|refine Pure.use (T2 _ (by assumption) (by omega) (by assumption)) ?_|(intro nn hnn;generalize hg:BV _ nn _=Z;refine al hg fun hs=>?_;clear hg)|clear U K)<;>conv=>whnf)
 .exact⟨hlt,_,rfl,fun _=>hsl,by rw[List.replicate_succ'];exact hs⟩
 have hsv:=hv (by omega);subst hk;refine By p.methods.length (fun k (s:List Int)=>[(8,eI (A9 k))]) (fun _ s=>[.own v 1 (iL s),.box nn (A1 (AS p))]) (fun k s=>s.length=p.nodes.length/\BW p=KW p (runM p (p.methods.drop k) s)) (List.replicate p.nodes.length (-1)) rfl ⟨by simp,hL⟩ hs ?_;clear hs;rintro k s Z hk ⟨hl,hn⟩ hs
 conv=>whnf
 repeat'((first|apply st|(apply sq;intro K U)|(apply si;intro A B hA hB)|(refine hA _ _ ?_;clear hB B hA A)|(apply U;clear U K)|apply dr|refine rk ?_ ?_|exact fun s e=>by cases e;rfl|refine⟨rfl,?_⟩|refine⟨kZ,?_⟩|refine ix ?_|refine iq fun x hx=>?_|refine ld ?_|refine sn fun Z hs=>?_|(refine fc (fun x hx hlt hc=>?_) (fun hk hc=>?_)<;>(try rw[hc])<;>clear hc)|refine Pure.use (jr _ _) ?_|(constructor<;>intro hc<;>(try rw[hc])<;>(replace hc:=bp hc)<;>(try simp(disch:=omega) only[BL,wrap64,AM]at hc))|(intro nn hnn;generalize hg:BV _ nn _=Z;refine al hg fun hs=>?_;clear hg)|clear U K)<;>conv=>whnf)
 rotate_left
 .exact Lp (DT hx hn (by simp[Om, *]))
 .exact Lp (DT hx hn (by simp[Om];intros;omega))
 .exact Lp (DT hx hn (by simp[Om];intros;omega))
 .exact Lp (DT hx hn (by simp[Om];intros;omega))
 .exact Lp (DT hx hn (by simp[Om];intros;omega))
 .refine(fk p false 12 (I3 _) p.main 0 1 s v rfl (by omega) (by omega) hl hsv).use hs ?_
  clear hs;rintro r post Z ⟨s2,hl2,rfl,⟨ho,rfl⟩|⟨ho,rfl⟩⟩ hs
  .conv=>whnf
   repeat'((first|apply st|(apply sq;intro K U)|(apply si;intro A B hA hB)|(refine hA _ _ ?_;clear hB B hA A)|(apply U;clear U K)|(constructor<;>intro hc<;>(try rw[hc])<;>(replace hc:=bp hc)<;>(try simp(disch:=omega) only[BL,wrap64,AM]at hc))|clear U K)<;>conv=>whnf)
   .cases hc
   have hz:BW p=if s2.all fun n=>decide (0<=n)then some s2 else none:=by rw[hn,Al hk,runM,KW,ho]
   refine By s2.length (fun j (_:Unit)=>[(10,eI (A9 j))]) (fun _ _=>[.own v 1 (iL s2),.box nn (A1 (AS p))]) (fun j _=>BW p=if(s2.drop j).all fun n=>decide (0<=n)then some s2 else none) () rfl hz hs ?_;clear hs;rintro j - Z hj hz hs
   conv=>whnf
   repeat'((first|apply st|(apply sq;intro K U)|(apply si;intro A B hA hB)|(refine hA _ _ ?_;clear hB B hA A)|(apply U;clear U K)|refine⟨rfl,?_⟩|refine oc ?_|refine ol fun x hx=>?_|(refine fc (fun x hx hlt hc=>?_) (fun hk hc=>?_)<;>(try rw[hc])<;>clear hc)|refine lo ?_|(constructor<;>intro hc<;>(try rw[hc])<;>(replace hc:=bp hc))|clear U K)<;>conv=>whnf)
   .exact Lp (by rw[hz,drop_cons hx,KK,if_neg];simp;intros;omega)
   .exact⟨hlt,(),rfl,by rw[hz,drop_cons hx,KK];simp[*],hs⟩
   .have hz2:BW p=some s2:=by rw[hz,Al (by assumption)];rfl
    simp only[N8,hz2];exact Ab (.t (.cons (hs.HP 0 rfl) (.cons (.refl _) .nil)))
  .conv=>whnf
   repeat'((first|apply st|(apply sq;intro K U)|(apply si;intro A B hA hB)|(refine hA _ _ ?_;clear hB B hA A)|(apply U;clear U K)|(constructor<;>intro hc<;>(try rw[hc])<;>(replace hc:=bp hc)<;>(try simp(disch:=omega) only[BL,wrap64,AM]at hc))|clear U K)<;>conv=>whnf)
   .exact Lp (by rw[hn,Al hk,runM,KW,ho])
   .cases hc
 rename Og=>m
 rename p.methods[k]? =some m=>hm
 refine(im m.fact (Qb _ (by(have:DC (AS p) m.fact=true:=by assumption);simp only[DC,BD]at this;exact this.2.2))).use ?_
 conv=>whnf
 repeat'((first|apply st|(apply sq;intro K U)|(apply si;intro A B hA hB)|(refine hA _ _ ?_;clear hB B hA A)|(apply U;clear U K)|apply dr|refine rk ?_ ?_|exact fun s e=>by cases e;rfl|refine⟨rfl,?_⟩|refine⟨kZ,?_⟩|refine iq fun x hx=>?_|refine ld ?_|refine Pure.use (rz _) ?_|(constructor<;>intro hc<;>(try rw[hc])<;>(replace hc:=bp hc))|clear U K)<;>conv=>whnf)
 .exact Lp (DT hm hn (by simp[Om,DL,hx];intros;omega))
 obtain⟨hx1,hx3⟩:=Sj hh hx;have hgd:p.CW.getD m.gen.toNat 0=x:=by rw[DL,hx];rfl
 rename p.CW[m.gen.toNat]? =some _=>hx2
 have hxe:=Option.some.inj (hx.symm.trans hx2);subst hxe;have hok:Om p m=true:=by simp only[Om,hgd,BD,CD];exact⟨by assumption,by omega,by assumption,by assumption,by assumption,by assumption⟩
 refine(fk p (KV m.kind) 12 (I3 _) m.node x 1 s v rfl (by omega) (by omega) hl hsv).use (rest:=[_,_]) hs ?_;clear hs;rintro r post Z ⟨s2,hl2,rfl,⟨ho,rfl⟩|⟨ho,rfl⟩⟩ hs
 .conv=>whnf
  repeat'((first|apply st|(apply sq;intro K U)|(apply si;intro A B hA hB)|(refine hA _ _ ?_;clear hB B hA A)|(apply U;clear U K)|apply dr|refine⟨rfl,?_⟩|(constructor<;>intro hc<;>(try rw[hc])<;>(replace hc:=bp hc)<;>(try simp(disch:=omega) only[BL,wrap64,AM]at hc))|clear U K)<;>conv=>whnf)
  .cases hc
  .exact⟨by assumption,s2,rfl,⟨by omega,Zg hm hn hok (by rw[hgd];exact ho)⟩,hs.less (.cons₂ _ (.cons₂ _ (Jm _)))⟩
 .conv=>whnf
  repeat'((first|apply st|(apply sq;intro K U)|(apply si;intro A B hA hB)|(refine hA _ _ ?_;clear hB B hA A)|(apply U;clear U K)|apply dr|refine⟨rfl,?_⟩|(constructor<;>intro hc<;>(try rw[hc])<;>(replace hc:=bp hc)<;>(try simp(disch:=omega) only[BL,wrap64,AM]at hc))|clear U K)<;>conv=>whnf)
  .exact Lp (SJ hm hn hok (by rw[hgd];exact ho))
  .cases hc
end Go.Gl
