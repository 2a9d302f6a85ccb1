import Derived.Test.YtinppljblkpedaaGreatU14
import Derived.Test.YtinppljblkpedaaGreatU15
import Derived.Test.YtinppljblkpedaaGreatU20
import Derived.Test.YtinppljblkpedaaGreatU21
set_option linter.all false
set_option linter.defProp false
set_option maxHeartbeats 8000000
noncomputable section
namespace Go.Gl
open Go.Proofs
attribute [local irreducible] As Ag AY AQ AL AX AP AR AK AW AM AN Ai Ap Sat AT An AZ W
def gQ (g:List (List Int)):Prop:=g.length<=60/\ ∀(i:Nat) (l:List Int),g[i]? =some l->l.length<=63/\l.Nodup/\ ∀c∈l,(3:Int)<=c/\c<3+(i:Int)
def lZ {g:List (List Int)} (h:JJ g):gQ g:=⟨by have:=h.1;omega,fun i l hi=>by
 obtain⟨h1,h2,h3⟩:=h.2 i l hi
 exact⟨by omega,h2,h3⟩⟩
def dx {g:List (List Int)} (h:gQ g):ordered g:=fun c p hp=>by
 unfold par at hp;split at hp
 .cases hp
 .rename_i h3
  rw[Cq]at hp;cases hx:g[c - 3]? with
  | none=>rw[hx]at hp;cases hp
  | some l=>
    rw[hx]at hp;have:=(h.2 _ _ hx).2.2 p hp;omega
def BR (w:AF):Prop:=gQ w.parents/\w.owner.length<=40/\ ∀o∈w.owner,(3:Int)<=o/\o<3+(w.parents.length:Int)
def Tj (us:List Nat) (l:List Int) (s:Nat):Nat:=l.foldl (fun s c=>s|||us.getD c.toNat 0) s
def Bq (g:List (List Int)):Nat->List Nat
 | 0=>[1,3,5]
 | k+1=>Bq g k++[Tj (Bq g k) (g.getD k []) (1|||2 ^ (3+k))]
def Ah (g:List (List Int)):List Nat:=Bq g g.length
def nA (us:List Nat):List V:=us.map eU++List.replicate (63 - us.length) (eU 0)
def wC (w:AF) (us:List Nat):List V:=A5 w++nA us
def Cf (g:List (List Int)): ∀k,(Bq g k).length=3+k
 | 0=>rfl
 | k+1=>by simp[Bq,Cf g k];omega
def gi (w:AF) {us:List Nat} (h:us.length<=63):(wC w us).length=65:=by
 simp only[wC,A5,nA,HQ,HH,List.length_nil,Bc,List.length_replicate];omega
def gh (w:AF) (us:List Nat) (s:Nat) (h:us.length<63):(wC w us).set (2+us.length) (eU s)=wC w (us++[s]):=by
 simp only[wC,nA];rw[List.set_append_right _ _ (by simp[A5])];congr 1;have e:2+us.length - (A5 w).length=us.length:=by simp[A5]
 rw[e,List.set_append_right _ _ (by simp)];rw[Bc,Nat.sub_self,LX,LC];congr 1;rw[show 63 - us.length=(63 - (us++[s]).length)+1 by simp;omega,List.replicate_succ];rfl
def VV (w:AF) (us:List Nat) {i:Nat} (h:i<us.length):(wC w us)[2+i]? =some (eU (us.getD i 0)):=by
 simp only[wC,nA];rw[List.getElem?_append_right (by simp[A5]),show 2+i - (A5 w).length=i by simp[A5],X1 (by simpa using h),LY,Cd h,Cq,Cd h];rfl
def mb (us:List Nat):Prop:= ∀u∈us,u<18446744073709551616
def Jx {us:List Nat} (h:mb us) (i:Nat):us.getD i 0<18446744073709551616:=by
 rw[Cq];cases hx:us[i]? with
 | none=>simp
 | some x=>exact h x (B6 hx)
def O8 {us:List Nat} (h:mb us): ∀(l:List Int) (s:Nat),s<18446744073709551616->Tj us l s<18446744073709551616
 | [],_,hs=>hs
 | c::r,s,hs=>O8 h r _ (Gp hs (Jx h _))
def D0 (g:List (List Int)): ∀k,k<=60->mb (Bq g k)
 | 0,_=>by intro u hu;simp[Bq]at hu;omega
 | k+1,hk=>by
   intro u hu;simp only[Bq,Dn,Jf]at hu;rcases hu with hu|rfl
   .exact D0 g k (by omega) u hu
   .exact O8 (D0 g k (by omega)) _ _ (Gp (by decide) (GI (by omega)))
def tK (w:AF) (us:List Nat) (c:Int) {n:Nat} (hM:w.parents.length<=60):BL zP 203 [.p n 0,eI c] [.box n (wC w us)] fun r post=>r= .ret (.b (decide (3<=c)&&decide (c<3+(w.parents.length:Int))))/\post= [.box n (wC w us)]:=by
 intro Z hs;have hw:IntKind.i64.wrap (3+((EV w.parents).length:Nat))=3+(w.parents.length:Int):=by rw[Bc,wrap64 (by omega) (by omega)]
 refine iy kZ ?_
 conv=>whnf
 repeat'((first|apply st|(apply sq;intro K U)|(apply si;intro A B hA hB)|(refine hA _ _ ?_;clear hB B hA A)|(apply U;clear U K)|refine⟨rfl,?_⟩|refine ld ?_|(constructor<;>intro hc<;>(try rw[hc])<;>(replace hc:=bp hc))|fail)<;>conv=>whnf)
 .refine AJ ⟨_,⟨?_,rfl⟩,hs⟩
  rw[hw,decide_eq_true (show 3<=c by omega)];rfl
 .refine AJ ⟨_,⟨?_,rfl⟩,hs⟩
  rw[decide_eq_false (show¬3<=c by omega)];rfl
def oQ (w:AF) (us:List Nat) (c:Int) (hM:w.parents.length<=60):Pure zP 203 [.rp (wC w us),eI c] (.b (decide (3<=c)&&decide (c<3+(w.parents.length:Int)))):=by
 have hw:IntKind.i64.wrap (3+((EV w.parents).length:Nat))=3+(w.parents.length:Int):=by rw[Bc,wrap64 (by omega) (by omega)]
 refine iy kZ ?_;have hs:=Sn
 conv=>whnf
 repeat'((first|apply st|(apply sq;intro K U)|(apply si;intro A B hA hB)|(refine hA _ _ ?_;clear hB B hA A)|(apply U;clear U K)|refine⟨rfl,?_⟩|(constructor<;>intro hc<;>(try rw[hc])<;>(replace hc:=bp hc))|fail)<;>conv=>whnf)
 .refine AG ?_
  rw[hw,decide_eq_true (show 3<=c by omega)];rfl
 .refine AG ?_
  rw[decide_eq_false (show¬3<=c by omega)];rfl
def mA (w:AF) (us:List Nat) (c:Int) (hM:w.parents.length<=60):Pure zP 274 [.rp (wC w us),eI c] (.b (O1 w c)):=by
 have hw:IntKind.i64.wrap (3+((EV w.parents).length:Nat))=3+(w.parents.length:Int):=by rw[Bc,wrap64 (by omega) (by omega)]
 refine vY kZ ?_;have hs:=Sn
 conv=>whnf
 repeat'((first|apply st|(apply sq;intro K U)|(apply si;intro A B hA hB)|(refine hA _ _ ?_;clear hB B hA A)|(apply U;clear U K)|refine⟨rfl,?_⟩|(constructor<;>intro hc<;>(try rw[hc])<;>(replace hc:=bp hc))|fail)<;>conv=>whnf)
 .refine AG ?_
  rw[hw,O1,decide_eq_true (show 0<=c by omega)];rfl
 .refine AG ?_
  rw[O1,decide_eq_false (show¬0<=c by omega)];rfl
def nr (w:AF) (us:List Nat) (c:Int) (hM:w.owner.length<=60):Pure zP 326 [.rp (wC w us),eI c] (.b (IA w c)):=by
 refine u9 kZ ?_;have hs:=Sn
 conv=>whnf
 repeat'((first|apply st|(apply sq;intro K U)|(apply si;intro A B hA hB)|(refine hA _ _ ?_;clear hB B hA A)|(apply U;clear U K)|refine⟨rfl,?_⟩|(constructor<;>intro hc<;>(try rw[hc])<;>(replace hc:=bp hc))|fail)<;>conv=>whnf)
 .refine AG ?_
  rw[IA,decide_eq_true (show 0<=c by omega),Bc];rfl
 .refine AG ?_
  rw[IA,decide_eq_false (show¬0<=c by omega)];rfl
def oL (w:AF) (us:List Nat) (l:List Int) (f:Bool) (hM:w.owner.length<=60):Pure zP 273 [.rp (wC w us),.l (iL l) f] (.b (EH w l)):=by
 have hall:=qQ (g:=326) (fi:=[.rp (wC w us)]) (ca:=[]) (f:=IA w) (xs:=l) f (fun y _=>nr w us y hM);refine vZ kZ ?_;have hs:=Sn
 conv=>whnf
 repeat'((first|apply st|(apply sq;intro K U)|(apply si;intro A B hA hB)|(refine hA _ _ ?_;clear hB B hA A)|(apply U;clear U K)|refine⟨rfl,?_⟩|(constructor<;>intro hc<;>(try rw[hc])<;>(replace hc:=bp hc)<;>(try simp(disch:=omega) only[Bc,wrap64,AS]at hc))|refine Pure.use (by assumption) ?_|fail)<;>conv=>whnf)
 .refine AG ?_
  rw[EH,decide_eq_true (show l.length<=2 by omega),Bool.and_true];rfl
 .refine AG ?_
  rw[EH,decide_eq_false (show¬l.length<=2 by omega),Bool.and_false];rfl
def II (s:Nat) (c:Int) (hs0:s<18446744073709551616) (h0:0<=c) (hc:c<64):Pure zP 201 [eU s,eI c] (eU (s|||2 ^ c.toNat)):=by
 have:=Z1 s c.toNat hs0 (by omega);rw[Int.toNat_of_nonneg h0]at this;exact this
def up3 {k:Nat} (h:k<3):([1,3,5]:List Nat).take k++[1|||2 ^ k]= [1,3,5].take (k+1):=by
 rcases k with _|_|_|k
 .rfl
 .rfl
 .rfl
 .omega
def oU (w : AF) (hw:BR w):Pure zP 120 [.a (A5 w)] (.t [.rp (wC w (Ah w.parents)),.b true]):=by
 obtain⟨⟨hl,hrow⟩,ho,how⟩:=hw;have hM:=Mx;refine Pure.of ?_;refine xk kZ ?_;have hs:=Sn;have hi1:((EV w.parents).length:Int)<=60:=by rw[Bc];omega
 have hi2:((iL w.owner).length:Int)<=40:=by rw[Bc];omega
 conv=>whnf
 repeat'((first|apply st|(apply sq;intro K U)|(apply si;intro A B hA hB)|(refine hA _ _ ?_;clear hB B hA A)|(apply U;clear U K)|refine⟨rfl,?_⟩|refine⟨kZ,?_⟩|(constructor<;>intro hc<;>(try rw[hc])<;>(replace hc:=bp hc)<;>(try simp(disch:=omega) only[Bc,wrap64,AS]at hc)<;>try(exfalso;omega))|(intro nn hnn;generalize hg:BZ _ nn _=Z;refine GF hg fun hs=>?_;clear hg)|fail)<;>conv=>whnf)
 generalize nn=n0 at *;refine B4 3 (fun k (_:Unit)=>[(24,eI (A7 k))]) (fun k _=>[.box n0 (wC w ([1,3,5].take k))]) (fun k _=>True) () rfl trivial hs ?_;clear hs;rintro k - Z hk - hs;have hck:A7 k=k:=AS (by omega);have hlen:(([1,3,5]:List Nat).take k).length=k:=by simp;omega
 by_cases hlt:k<3
 .have hst:=gh w ([1,3,5].take k) (1|||2 ^ k) (by omega)
  rw[hlen,up3 hlt]at hst
  conv=>whnf
  repeat'((first|apply st|(apply sq;intro K U)|(apply si;intro A B hA hB)|(refine hA _ _ ?_;clear hB B hA A)|(apply U;clear U K)|apply dr|refine⟨rfl,?_⟩|refine qa ?_|refine Pure.use (II 1 _ (by decide) (by omega) (by omega)) ?_|(constructor<;>intro hc<;>(try rw[hc])<;>(replace hc:=bp hc)<;>(try simp(disch:=omega) only[Bc,wrap64,AS]at hc)<;>try(exfalso;omega))|fail)<;>conv=>whnf)
  refine Iz hs 0 rfl rfl (by rw[gi w (by omega)];omega) fun Z hs=>?_
  conv=>whnf
  repeat'((first|(apply si;intro A B hA hB)|(refine hA _ _ ?_;clear hB B hA A)|(apply U;clear U K)|apply dr|refine⟨rfl,?_⟩|clear U K)<;>conv=>whnf)
  refine⟨hlt,(),rfl,trivial,?_⟩;rw[hck,GR,Nat.mul_one,GZ]at hs;simp only[List.set_cons_zero]at hs;rw[hst]at hs;exact hs
 .have hke:k=3:=by omega
  subst hke;clear hk hck hlen hlt
  conv=>whnf
  repeat'((first|apply st|(apply sq;intro K U)|(apply si;intro A B hA hB)|(refine hA _ _ ?_;clear hB B hA A)|(apply U;clear U K)|refine⟨rfl,?_⟩|(constructor<;>intro hc<;>(try rw[hc])<;>(replace hc:=bp hc)<;>(try simp(disch:=omega) only[Bc,wrap64,AS]at hc)<;>try(exfalso;omega))|clear U K)<;>conv=>whnf)
  refine B4 w.parents.length (fun k (_:Unit)=>[(38,eI (A7 k))]) (fun k _=>[.box n0 (wC w (Bq w.parents k))]) (fun k _=>True) () rfl trivial hs ?_;clear hs;rintro k - Z hk - hs;have hck:A7 k=k:=AS (by omega);have hul:=Cf w.parents k;have huo:=D0 w.parents k (by omega);have hw3:IntKind.i64.wrap (3+(k:Int))=3+(k:Int):=wrap64 (by omega) (by omega);rcases A9 w.parents hk with⟨row,hr,hlt⟩|hke
  .obtain⟨r1,r2,r3⟩:=hrow k row hr
   rw[<-hck]at hw3
   conv=>whnf
   repeat'((first|apply st|(apply sq;intro K U)|(apply si;intro A B hA hB)|(refine hA _ _ ?_;clear hB B hA A)|(apply U;clear U K)|refine⟨rfl,?_⟩|refine ix ?_|(refine NT (fun hc=>?_)<;>(try rw[hc])<;>clear hc)|refine Pure.use (II 1 _ (by decide) (by omega) (by omega)) ?_|fail)<;>conv=>whnf)
   have hbig:mb (Bq w.parents k):=huo;have hst0:IntKind.i64.wrap (3+A7 k)=3+(k:Int):=by rw[hck];exact wrap64 (by omega) (by omega)
   have hs0lt:1|||2 ^ (3+k)<18446744073709551616:=Gp (by decide) (GI (by omega))
   have hs0e:1|||2 ^ (IntKind.i64.wrap (3+A7 k)).toNat=1|||2 ^ (3+k):=by rw[hst0,show(3+(k:Int)).toNat=3+k by omega]
   rw[hs0e];refine B4 row.length (fun j (s:Nat)=>[(48,eI (A7 j)),(8,eU s)]) (fun _ _=>[.box n0 (wC w (Bq w.parents k))]) (fun j s=>s=Tj (Bq w.parents k) (row.take j) (1|||2 ^ (3+k))) (1|||2 ^ (3+k)) rfl rfl hs ?_;clear hs;rintro j s Z hj hse hs;rcases A9 row hj with⟨c,hcj,hjlt⟩|hje
   .obtain⟨q1,q2⟩:=r3 c (B6 hcj)
    have hload:(wC w (Bq w.parents k))[0+2+c.toNat*1]? =some (eU ((Bq w.parents k).getD c.toNat 0)):=by
     have:=VV w (Bq w.parents k) (i:=c.toNat) (by omega);rw[<-this];congr 1;omega
    have hnc:(row.take j).contains c=false:=by
     rw[<-Bool.not_eq_true,List.contains_iff_mem];intro hm;obtain⟨i,hi,he⟩:=List.mem_iff_getElem.1 hm;have hi':i<j:=by rw[Je]at hi;omega
     rw[List.getElem_take]at he;have hcj':=(Ip.1 hcj).2;exact absurd ((List.getElem_inj r2).1 (he.trans hcj'.symm)) (by omega)
    have hct: ∀b,Pure zP 18 [.l (iL (row.take j)) b,eI c] (.b false):=fun b=>by
     have:=B3 (row.take j) b c
     rwa [hnc]at this
    conv=>whnf
    repeat'((first|apply st|(apply sq;intro K U)|(apply si;intro A B hA hB)|(refine hA _ _ ?_;clear hB B hA A)|(apply U;clear U K)|refine⟨rfl,?_⟩|refine ix ?_|refine sk1 ?_|refine qa ?_|refine ld ?_|refine SG ?_|(refine NT (fun hc=>?_)<;>(try rw[hc])<;>clear hc)|refine Pure.use (hct _) ?_|(rw[hload])|(constructor<;>intro hc<;>(try rw[hc])<;>(replace hc:=bp hc)<;>(try simp(disch:=omega) only[Bc,wrap64,AS]at hc)<;>try(exfalso;omega))|clear U K)<;>conv=>whnf)
    refine⟨hjlt,s|||(Bq w.parents k).getD c.toNat 0,?_,?_,hs⟩
    .have hsl:s<18446744073709551616:=by rw[hse];exact O8 huo _ _ hs0lt
     rw[Hf hsl (Jx huo _)];rfl
    .rw[hse,AU hcj]
     simp only[Tj,List.foldl_append];rfl
   .conv=>whnf
    repeat'((first|apply st|(apply sq;intro K U)|(apply si;intro A B hA hB)|(refine hA _ _ ?_;clear hB B hA A)|(apply U;clear U K)|refine⟨rfl,?_⟩|refine qa ?_|(refine SF (fun hc=>?_)<;>(try rw[hc])<;>clear hc)|clear U K)<;>conv=>whnf)
    refine Iz hs 0 rfl rfl (by rw[gi w (by omega),hst0];omega) fun Z hs=>?_
    conv=>whnf
    repeat'((first|(apply si;intro A B hA hB)|(refine hA _ _ ?_;clear hB B hA A)|(apply U;clear U K)|refine⟨rfl,?_⟩|clear U K)<;>conv=>whnf)
    refine⟨hlt,(),rfl,trivial,?_⟩
    have e:Bq w.parents (k+1)=Bq w.parents k++[s]:=by
     rw[hse,Bq,Cq,hr,hje,List.take_length];rfl
    have hst:=gh w (Bq w.parents k) s (by omega);rw[e,<-hst];have e2:0+2+(IntKind.i64.wrap (3+A7 k)).toNat*1=2+(Bq w.parents k).length:=by rw[hst0,hul];omega
    rw[e2]at hs;exact hs
  .have hown:=jW 203 [.p n0 0] [] (fun _=>[.box n0 (wC w (Bq w.parents k))]) (Vd fun c=>decide (3<=c)&&decide (c<3+(w.parents.length:Int))) (fun _ _=>True) (fun y s _ Z hs=>A0 (As.mono (tK w (Bq w.parents k) y (by omega) Z hs) (by
    rintro r Z' ⟨post,⟨h1,h2⟩,h3⟩;subst h2
    exact⟨h1,h3⟩))) w.owner false () (Hs fun _ _ _=>trivial)
   rw[K2]at hown
   have hall:(w.owner.all fun c=>decide (3<=c)&&decide (c<3+(w.parents.length:Int)))=true:=by
    rw[Cu];intro o hoo;have:=how o hoo;simp only[A4,B7];exact this
   rw[hall]at hown
   conv=>whnf
   repeat'((first|apply st|(apply sq;intro K U)|(apply si;intro A B hA hB)|(refine hA _ _ ?_;clear hB B hA A)|(apply U;clear U K)|refine⟨rfl,?_⟩|(refine SF (fun hc=>?_)<;>(try rw[hc])<;>clear hc)|clear U K)<;>conv=>whnf)
   refine hown.use (rest:=[]) hs ?_;rintro r post Z ⟨rfl,rfl⟩ hs
   conv=>whnf
   repeat'((first|apply st|(refine hA _ _ ?_;clear hB B hA A)|(apply U;clear U K)|fail)<;>conv=>whnf)
   rw[hke]at hs;exact Fx (Z2:=emp) (fun n o ho=>by cases ho) (.t (.cons (hs.fk 0 rfl (.refl _ _ _)) (.cons (.refl _) .nil))) rfl
end Go.Gl
namespace Go.Gl
def Vy (g:List (List Int)) (k:Nat): ∀(m d:Nat),d<3+k->(Bq g (k+m)).getD d 0=(Bq g k).getD d 0
 | 0,d,_=>rfl
 | m+1,d,h=>by
   rw[show k+(m+1)=k+m+1 from rfl,Bq,<-Vy g k m d h];rw[Cq,X1 (by rw[Cf];omega),<-Cq]
def Vz (us:List Nat) (b:Nat): ∀(l:List Int) (s:Nat),(Tj us l s).testBit b=(s.testBit b||l.any fun c=>(us.getD c.toNat 0).testBit b)
 | [],s=>by simp[Tj]
 | c::r,s=>by
   have:=Vz us b r (s|||us.getD c.toNat 0);rw[Rq,<-Bool.or_assoc,<-Nat.testBit_or,<-this];rfl
def jP {α:Type} (f:α->Bool) (b:Bool): ∀(l:List α),(b||l.any fun x=>b||f x)=(b||l.any f)
 | []=>rfl
 | x::r=>by
   have:=jP f b r;simp only[Rq];cases b
   .simpa using this
   .rfl
def any_congr {α:Type} {f g:α->Bool}: ∀ {l:List α},(∀x∈l,f x=g x)->l.any f=l.any g
 | [],_=>rfl
 | x::r,h=>by
   rw[Rq,Rq,h x (.head _),any_congr fun y hy=>h y (.tail _ hy)]
def UJ {g:List (List Int)} (ho:ordered g): ∀(k d b:Nat),k<=g.length->d<3+k->((Bq g k).getD d 0).testBit b=(b==0||FQ g d b)
 | 0,d,b,_,hd=>by
   have e:(Bq g 0).getD d 0=1|||2 ^ d:=by
    rcases d with _|_|_|d
    .rfl
    .rfl
    .rfl
    .omega
   rw[e,UD,DM ho,par,if_pos (by omega),List.any_nil,Bool.or_false];rw[Hl];simp only[EW,CF];omega
 | k + 1,d,b,hk,hd=>by
   by_cases hlt:d<3+k
   .rw[Vy g k 1 d hlt]
    exact UJ ho k d b (by omega) hlt
   .obtain rfl:d=3+k:=by omega
    have e:(Bq g (k+1)).getD (3+k) 0=Tj (Bq g k) (g.getD k []) (1|||2 ^ (3+k)):=by
     rw[Bq,Cq,List.getElem?_append_right (by rw[Cf];omega),Cf,Nat.sub_self];rfl
    have hpar:par g (3+k)=g.getD k []:=by rw[par,if_neg (by omega),show 3+k - 3=k by omega]
    rw[e,Vz,UD,DM ho,hpar]
    have hc:((g.getD k []).any fun c=>((Bq g k).getD c.toNat 0).testBit b)=(g.getD k []).any fun p=>(b==0)||FQ g p.toNat b:=any_congr fun p hp=>by
     have:=ho (3+k) p (by rw[hpar];exact hp);exact UJ ho k p.toNat b (by omega) (by omega)
    rw[hc];have e2:(b==3+k)=(3+k==b):=by rw[Hl];simp only[CF];omega
    rw[e2,Bool.or_assoc,Bool.or_left_comm,jP,Bool.or_left_comm]
def J4 {g:List (List Int)} (ho:ordered g) {d b:Nat} (hd:d<3+g.length):((Ah g).getD d 0).testBit b=(b==0||FQ g d b):=UJ ho g.length d b (Ft _) hd
def Jw {g:List (List Int)} (ho:ordered g): ∀(d b:Nat),3<=d->FQ g d b=true->3<=b:=by
 intro d
 induction d using Nat.strongRecOn with
 | _ d ih=>
   intro b h3 h;rw[DM ho]at h;simp only[EW,CF,GY]at h;rcases h with rfl|⟨p,hp,h⟩
   .exact h3
   .have:=ho d p hp
    exact ih p.toNat (by omega) b (by omega) h
def Bk (us:List Nat):Nat->Nat->Nat
 | 0,m=>m
 | k+1,m=>if(Bk us k m).testBit (3+k)then Bk us k m|||us.getD (3+k) 0 else Bk us k m
def JA {g : List (List Int)} (ho:ordered g) (m:Nat): ∀(k b:Nat),k<=g.length->((Bk (Ah g) k m).testBit b=true↔m.testBit b=true\/ ∃d,3<=d/\d<3+k/\m.testBit d=true/\(b=0\/FQ g d b=true))
 | 0,b,_=>by
   rw[Bk];exact⟨.inl,fun h=>h.elim id fun⟨d,h1,h2,_⟩=>by omega⟩
 | k + 1, b, hk=>by
   have ih:=JA ho m k;rw[Bk];split
   .rename_i hc
    rw[Nat.testBit_or,EW,ih b (by omega),J4 ho (by omega),EW,CF];rw[ih _ (by omega)]at hc;constructor
    .rintro((h|⟨d,h1,h2,h3,h4⟩)|h)
     .exact .inl h
     .exact .inr ⟨d,h1,by omega,h3,h4⟩
     .rcases hc with hc|⟨d,h1,h2,h3,h4⟩
      .exact .inr ⟨3+k,by omega,by omega,hc,h⟩
      .refine .inr ⟨d,h1,by omega,h3,?_⟩
       rcases h with h|h
       .exact .inl h
       .rcases h4 with h4|h4
        .omega
        .exact .inr (IV ho _ _ _ h4 h)
    .rintro(h|⟨d,h1,h2,h3,h4⟩)
     .exact .inl (.inl h)
     .by_cases e:d=3+k
      .subst e;exact .inr h4
      .exact .inl (.inr ⟨d,h1,by omega,h3,h4⟩)
   .rename_i hc
    rw[ih b (by omega)];constructor
    .rintro(h|⟨d,h1,h2,h3,h4⟩)
     .exact .inl h
     .exact .inr ⟨d,h1,by omega,h3,h4⟩
    .rintro(h|⟨d,h1,h2,h3,h4⟩)
     .exact .inl h
     .by_cases e:d=3+k
      .subst e;exact absurd ((ih _ (by omega)).2 (.inl h3)) hc
      .exact .inr ⟨d,h1,by omega,h3,h4⟩
def LU: ∀(l:List Int) (bs:List Bool),(∀q∈l,0<=q/\q.toNat<bs.length)-> ∀b:Nat,(l.foldl (fun b q=>b.set q.toNat true) bs).getD b false=(bs.getD b false||l.contains (b:Int))
 | [],bs,_,b=>by simp
 | q ::r,bs,h,b=>by
   have hq:=h q (.head _);rw[List.foldl_cons,LU r _ (fun x hx=>by rw[List.length_set];exact h x (.tail _ hx)),FK hq.2,List.contains_cons];split
   .rename_i e
    subst e;have:((q.toNat:Int)==q)=true:=by rw[CF];omega
    rw[this];simp
   .rename_i e
    have:((b:Int)==q)=false:=by rw[beq_eq_false_iff_ne];omega
    rw[this,Bool.false_or]
def Hy {g:List (List Int)} (ho:ordered g) {c:Nat} {bs:List Bool} (hc:c<=bs.length) (b:Nat):(Kx g c bs).getD b false=(bs.getD b false||(bs.getD c false&&(par g c).contains (b:Int))):=by
 rw[Kx];split
 .rename_i h
  rw[LU _ _ (fun q hq=>by have:=ho c q hq;omega),h,Cc]
 .rename_i h
  have:bs.getD c false=false:=by simpa using h
  rw[this,Bool.false_and,Bool.or_false]
def GX {g:List (List Int)} (ho:ordered g) {n:Nat} {S:List Bool} (hl:S.length=n): ∀(k b:Nat),(C0 g n k S).getD b false=true-> ∃d,S.getD d false=true/\FQ g d b=true
 | 0,b,h=>⟨b,h,Cl ho b⟩
 | k + 1,b,h=>by
   rw[C0,Hy ho (by rw[Fs];omega),EW,A4]at h;rcases h with h|⟨h1,h2⟩
   .exact GX ho hl k b h
   .obtain⟨d,h3,h4⟩:=GX ho hl k _ h1
    refine⟨d,h3,IV ho _ _ _ h4 ?_⟩;rw[DM ho,EW,GY];rw[List.contains_iff_mem]at h2;exact .inr ⟨_,h2,by rw[GR];exact Cl ho b⟩
def Xr {g:List (List Int)} (ho:ordered g) {n:Nat} {S:List Bool} (hl:S.length=n) (k b:Nat) (h:(C0 g n k S).getD b false=true):(C0 g n (k+1) S).getD b false=true:=by
 rw[C0,Hy ho (by rw[Fs];omega),h];rfl
def KO {g:List (List Int)} (ho:ordered g) {n:Nat} {S:List Bool} (hl:S.length=n): ∀(k b:Nat),S.getD b false=true->(C0 g n k S).getD b false=true
 | 0,_,h=>h
 | k+1,b,h=>Xr ho hl k b (KO ho hl k b h)
def Hz {g:List (List Int)} (ho:ordered g) {n:Nat} {S:List Bool} (hl:S.length=n): ∀(k c:Nat),k<=n->n - k<=c->(C0 g n k S).getD c false=true-> ∀q∈par g c,(C0 g n k S).getD q.toNat false=true
 | 0,c,_,hc,h,q,hq=>by
   rw[C0,Cq,List.getElem?_eq_none (by omega)]at h;cases h
 | k + 1,c,hk,hc,h,q,hq=>by
   rw[C0,Hy ho (by rw[Fs];omega)]at h ⊢;have hoc:=ho c q hq;rw[EW,A4]at h
   have hbase:(C0 g n k S).getD c false=true:=by
    rcases h with h|⟨-,h2⟩
    .exact h
    .rw[List.contains_iff_mem]at h2
     have:=ho _ _ h2;omega
   by_cases e:c=n - 1 - k
   .subst e
    rw[hbase,Cc,EW,List.contains_iff_mem];exact .inr (by rw[show((q.toNat:Nat):Int)=q by omega];exact hq)
   .rw[Hz ho hl k c (by omega) (by omega) hbase q hq];rfl
def ZX {g:List (List Int)} (ho:ordered g) {S:List Bool} (hl:S.length=3+g.length) (b:Nat):(C0 g (3+g.length) g.length S).getD b false=true↔ ∃d,S.getD d false=true/\FQ g d b=true:=by
 refine⟨GX ho hl _ b,?_⟩
 have key: ∀d,(C0 g (3+g.length) g.length S).getD d false=true->FQ g d b=true->(C0 g (3+g.length) g.length S).getD b false=true:=by
  intro d
  induction d using Nat.strongRecOn with
  | _ d ih=>
    intro h1 h2;rw[DM ho,EW,CF,GY]at h2;rcases h2 with rfl|⟨p,hp,h2⟩
    .exact h1
    .have hop:=ho d p hp
     refine ih p.toNat (by omega) (Hz ho hl g.length d (by omega) ?_ h1 p hp) h2;omega
 rintro⟨d,h1,h2⟩;exact key d (KO ho hl _ d h1) h2
def RB (n:Nat) (t:BB) (u:Nat×Nat):Prop:=
 t.1.length=n/\t.2.length=n/\(∀b,t.1.getD b false=u.1.testBit b)/\(∀b,b≠1->b≠2->t.2.getD b false=u.2.testBit b)/\u.1.testBit 1=false/\u.1.testBit 2=false
def Cn (m c b:Nat):(m|||2 ^ c).testBit b=(m.testBit b||b==c):=by
 rw[Nat.testBit_or,Nat.testBit_two_pow];congr 1;rw[Hl];simp only[B7,CF];omega
def PA {l:List Bool} {m c:Nat} (hc:c<l.length) {b:Nat} (h:l.getD b false=m.testBit b):(l.set c true).getD b false=(m|||2 ^ c).testBit b:=by
 rw[FK hc,Cn,<-h];split
 .rename_i e;subst e;simp
 .rename_i e
  have:(b==c)=false:=by simpa using e
  rw[this,Bool.or_false]
def Tr (x:Fact×Bool):Bool:= !x.2&&(!(x.1.op==2)||x.1.cls==1||x.1.cls==2)
def ct {n : Nat} {x:Fact×Bool} {t:BB} {k:Kn} (h:RB n t (k.BO,k.Dm)) (hc:x.1.op=2->0<=x.1.cls/\x.1.cls<n) :
    (Tr x=true->OJ x t=none)/\(Tr x=false-> ∃t',OJ x t=some t'/\RB n t' ((Bx k x.1 x.2).BO,(Bx k x.1 x.2).Dm)):=by
 obtain⟨f,c⟩:=x;simp only at hc;obtain⟨h1,h2,h3,h4,h5,h6⟩:=h;unfold Tr OJ Bx;simp only;by_cases ho:f.op=2
 .have hc':=hc ho
  by_cases h12:f.cls=1\/f.cls=2
  .rw[if_pos (.inr h12),if_pos ho]
   cases c with
   | true=>
     refine⟨fun h=>(by cases h),fun _=>⟨t,rfl,h1,h2,h3,fun b hb1 hb2=>?_,h5,h6⟩⟩;rw[if_pos rfl];show _=(k.Dm|||2 ^ f.cls.toNat).testBit b;rw[Cn,h4 b hb1 hb2];have:(b==f.cls.toNat)=false:=by rw[beq_eq_false_iff_ne];omega
     rw[this,Bool.or_false]
   | false=>
     refine⟨fun _=>rfl,fun h=>?_⟩;exfalso;rcases h12 with e|e<;>simp[e]at h
  .have hn: ¬(f.op≠2\/f.cls=1\/f.cls=2):=by omega
   rw[if_neg hn,if_pos ho]
   have hb:(!c&&(!(f.op==2)||f.cls==1||f.cls==2))=false:=by
    have e1:(f.op==2)=true:=by simpa using ho
    have e2:(f.cls==1)=false:=by rw[beq_eq_false_iff_ne];omega
    have e3:(f.cls==2)=false:=by rw[beq_eq_false_iff_ne];omega
    rw[e1,e2,e3];simp
   rw[hb];refine⟨fun h=>(by cases h),fun _=>?_⟩;cases c with
   | true=>
     refine⟨_,rfl,h1,by simpa using h2,h3,fun b hb1 hb2=>?_,h5,h6⟩;exact PA (by omega) (h4 b hb1 hb2)
   | false=>
     refine⟨_,rfl,by simpa using h1,h2,fun b=>?_,h4,?_,?_⟩
     .exact PA (by omega) (h3 b)
     .show(k.BO|||2 ^ f.cls.toNat).testBit 1=false
      rw[Cn,h5];have:(1==f.cls.toNat)=false:=by rw[beq_eq_false_iff_ne];omega
      rw[this];rfl
     .show(k.BO|||2 ^ f.cls.toNat).testBit 2=false
      rw[Cn,h6];have:(2==f.cls.toNat)=false:=by rw[beq_eq_false_iff_ne];omega
      rw[this];rfl
 .rw[if_pos (.inl ho),if_neg ho]
  have e1:(f.op==2)=false:=by simpa using ho
  cases c with
  | true=>
    refine⟨fun h=>(by cases h),fun _=>⟨t,rfl,?_⟩⟩;split<;>exact⟨h1,h2,h3,h4,h5,h6⟩
  | false=>exact⟨fun _=>rfl,fun h=>by rw[e1]at h;cases h⟩
def TC {n:Nat}: ∀(os:List Fact) {t:BB} {k:Kn},RB n t (k.BO,k.Dm)->Gm n os->
    (os.any (fun l=>Tr (Ad l))=true->LN os t=none)/\(os.any (fun l=>Tr (Ad l))=false-> ∃t',LN os t=some t'/\RB n t' ((Dr os k).BO,(Dr os k).Dm))
 | [],t,k,h,_=>⟨fun h=>(by cases h),fun _=>⟨t,rfl,h⟩⟩
 | l ::r,t,k,h,hc=>by
   obtain⟨s1,s2⟩:=ct h (hc l (.head _));rw[Rq,LN];cases hb:Tr (Ad l)with
   | true=>exact⟨fun _=>by rw[s1 hb];rfl,fun h=>(by cases h)⟩
   | false=>
     obtain⟨t',h1,h2⟩:=s2 hb;rw[h1,Bool.false_or,Option.bind_some];exact TC r h2 fun x hx=>hc x (.tail _ hx)
def mN {os:List Fact} {n:Nat} (hc:Gm n os):(os.any fun l=>Tr (Ad l))=((Dr os k0).whole||(Dr os k0).BO.testBit 1||(Dr os k0).BO.testBit 2):=by
 rw[Hl,EW,EW,Gz,Gz,L6];simp only[GY,Tr,A4,EW,Bool.not_eq_true',CF,beq_eq_false_iff_ne,k0,Bool.false_or];constructor
 .rintro⟨l,hl,hb,(h|h)|h⟩
  .exact .inl (.inl ⟨l,hl,hb,h⟩)
  .by_cases ho:(Ad l).1.op=2
   .exact .inl (.inr ⟨l,hl,ho,hb,by rw[h];rfl⟩)
   .exact .inl (.inl ⟨l,hl,hb,ho⟩)
  .by_cases ho:(Ad l).1.op=2
   .exact .inr ⟨l,hl,ho,hb,by rw[h];rfl⟩
   .exact .inl (.inl ⟨l,hl,hb,ho⟩)
 .rintro((⟨l,hl,hb,h⟩|⟨l,hl,ho,hb,h⟩)|⟨l,hl,ho,hb,h⟩)
  .exact⟨l,hl,hb,.inl (.inl h)⟩
  .have:=hc l hl ho
   exact⟨l,hl,hb,.inl (.inr (by omega))⟩
  .have:=hc l hl ho
   exact⟨l,hl,hb,.inr (by omega)⟩
def SJ (w:AF) (AV can:Int->Bool) (s:Int) (u:Nat×Nat):Option (Nat×Nat):=
 if AV s&& !can s then none else some (if AV s then u.1|||2 ^ (BG w s).toNat else u.1,if can s then u.2 else u.2|||2 ^ (BG w s).toNat)
def GP (w:AF) (AV can:Int->Bool):List Int->Nat×Nat->Option (Nat×Nat)
 | [],u=>some u
 | s::r,u=>(SJ w AV can s u).bind (GP w AV can r)
def bO {w:AF} {ls:List Fact} {a:Int} {p:List Int} {can AV:Int->Bool} (hn: ∀s,AV s= !Eu ls a (p++[s])) {n:Nat} (how: ∀s:Int,0<=s->s<w.owner.length->3<=BG w s/\BG w s<n) :
    ∀(sl:List Int) {t:BB} {u:Nat×Nat},(∀s∈sl,0<=s/\s<w.owner.length)->RB n t u->
    (LM w ls a p can sl t=none/\GP w AV can sl u=none)\/ ∃t' u',LM w ls a p can sl t=some t'/\GP w AV can sl u=some u'/\RB n t' u'
 | [],t,u,_,h=> .inr ⟨t,u,rfl,rfl,h⟩
 | s ::r,t,u,hsl,h=>by
   have hs:=hsl s (.head _);have ho:=how s hs.1 hs.2;rw[LM,GP,VW,SJ,hn];obtain⟨h1,h2,h3,h4,h5,h6⟩:=h;split
   .exact .inl ⟨rfl,rfl⟩
   .rw[Option.bind_some,Option.bind_some]
    refine bO hn how r (fun x hx=>hsl x (.tail _ hx)) ?_;have hb: ∀i,i<3->(i==(BG w s).toNat)=false:=fun i hi=>by rw[beq_eq_false_iff_ne];omega
    cases Eu ls a (p++[s])<;>cases can s<;>refine⟨by simpa using h1,by simpa using h2,fun b=>?_,fun b hb1 hb2=>?_,?_,?_⟩
    all_goals simp only[Bool.not_false,Bool.not_true,JX,if_true,if_false]
    all_goals first
     | exact h3 b
     | exact h4 b hb1 hb2
     | exact h5
     | exact h6
     | exact PA (by omega) (h3 b)
     | exact PA (by omega) (h4 b hb1 hb2)
     | (rw[Cn,h5,hb 1 (by omega)];rfl)
     | (rw[Cn,h6,hb 2 (by omega)];rfl)
def FT (m:Nat):Nat:=m - m % 2
def M6 (m b:Nat):(FT m).testBit b=(m.testBit b&& !(b==0)):=by
 cases b with
 | zero=>
   simp[FT,Nat.testBit_zero];omega
 | succ b=>
   rw[Nat.testBit_succ,Nat.testBit_succ,FT,show(m - m % 2) / 2=m / 2 by omega];simp
def uN {w : AF} (ho:ordered w.parents) {t:BB} {u:Nat×Nat} (h:RB (3+w.parents.length) t u) :
    (fm w t).isSome=(!u.2.testBit 0&&(FT (Bk (Ah w.parents) w.parents.length u.1)&&&u.2==0)):=by
 obtain⟨h1,h2,h3,h4,h5,h6⟩:=h;rw[fm,h4 0 (by decide) (by decide)];cases h0:u.2.testBit 0 with
 | true=>rfl
 | false =>
   rw[if_neg (by decide),Bool.not_false,Cc];have hl:(t.1.set 0 false).length=3+w.parents.length:=by simpa using h1
   have hR:=ZX ho hl;have hP:=JA ho u.1 w.parents.length
   have hS: ∀d,(t.1.set 0 false).getD d false=true↔d≠0/\u.1.testBit d=true:=fun d=>by
    rw[FK (by omega)];split
    .rename_i e;subst e;simp
    .rename_i e;rw[h3];exact⟨fun h=>⟨e,h⟩,fun h=>h.2⟩
   have hlt: ∀b,u.1.testBit b=true->b<3+w.parents.length:=fun b hb=>by
    rw[<-h3]at hb;rcases Nat.lt_or_ge b (3+w.parents.length)with h'|h'
    .exact h'
    .rw[Cq,List.getElem?_eq_none (by omega)]at hb;cases hb
   have h3b: ∀d,d≠0->u.1.testBit d=true->3<=d:=fun d hd hb=>by
    rcases d with _|_|_|d
    .exact absurd rfl hd
    .rw[h5]at hb;cases hb
    .rw[h6]at hb;cases hb
    .omega
   have hM: ∀b,(FT (Bk (Ah w.parents) w.parents.length u.1)).testBit b=true↔(C0 w.parents (3+w.parents.length) w.parents.length (t.1.set 0 false)).getD b false=true:=fun b=>by
    rw[M6,A4,hP b (Ft _),hR,Bool.not_eq_true',beq_eq_false_iff_ne];constructor
    .rintro⟨h|⟨d,q1,q2,q3,q4⟩,hb⟩
     .exact⟨b,(hS b).2 ⟨hb,h⟩,Cl ho b⟩
     .rcases q4 with e|q4
      .exact absurd e hb
      .exact⟨d,(hS d).2 ⟨by omega,q3⟩,q4⟩
    .rintro⟨d,hd,hu⟩
     obtain⟨hd0,hdu⟩:=(hS d).1 hd;have hd3:=h3b d hd0 hdu;have:=Jw ho d b hd3 hu;exact⟨.inr ⟨d,hd3,hlt d hdu,hdu,.inr hu⟩,by omega⟩
   have hany:((List.range (3+w.parents.length)).any fun c=>(C0 w.parents (3+w.parents.length) w.parents.length (t.1.set 0 false)).getD c false&&t.2.getD c false)= !(FT (Bk (Ah w.parents) w.parents.length u.1)&&&u.2==0):=by
    rw[Hl,Bool.not_eq_true',<-Bool.not_eq_true,IS,GY];constructor
    .rintro⟨c,hc,hx⟩ hall
     rw[A4]at hx;have hm:=(hM c).2 hx.1;obtain⟨d,hd,hu⟩:=(hR c).1 hx.1;obtain⟨hd0,hdu⟩:=(hS d).1 hd;have:=Jw ho d c (h3b d hd0 hdu) hu;exact hall c hm (by rw[<-h4 c (by omega) (by omega)];exact hx.2)
    .intro hne
     rcases Classical.em (∃b,(FT (Bk (Ah w.parents) w.parents.length u.1)).testBit b=true/\u.2.testBit b=true)with⟨b,hb1,hb2⟩|hno
     .have hm:=(hM b).1 hb1
      obtain⟨d,hd,hu⟩:=(hR b).1 hm;obtain⟨hd0,hdu⟩:=(hS d).1 hd;have:=Jw ho d b (h3b d hd0 hdu) hu;have:=gl ho d b hu;have:=hlt d hdu;exact⟨b,List.mem_range.2 (by omega),by rw[hm,h4 b (by omega) (by omega),hb2];rfl⟩
     .exact absurd (fun b h1 h2=>hno ⟨b,h1,h2⟩) hne
   rw[hany];cases(FT (Bk (Ah w.parents) w.parents.length u.1)&&&u.2==0)<;>rfl
def Ef (w:AF) (k:Kn) (AV can:Int->Bool):Nat×Bool:=
 if k.whole||k.BO.testBit 1||k.BO.testBit 2||k.Dm.testBit 0 then(0,false)else
 match GP w AV can k.AI (k.BO,k.Dm)with
 | none=>(0,false)
 | some u=>(FT (Bk (Ah w.parents) w.parents.length u.1),FT (Bk (Ah w.parents) w.parents.length u.1)&&&u.2==0)
def RT {w:AF} {AV can:Int->Bool} (how: ∀s:Int,0<=s->s<w.owner.length->3<=BG w s): ∀(sl:List Int) {u u':Nat×Nat},(∀s∈sl,0<=s/\s<w.owner.length)->GP w AV can sl u=some u'->u'.2.testBit 0=u.2.testBit 0
 | [],u,u',_,h=>by cases h;rfl
 | s ::r,u,u',hsl,h=>by
   have hs:=hsl s (.head _);have ho:=how s hs.1 hs.2;rw[GP,SJ]at h;split at h
   .cases h
   .rw[Option.bind_some]at h
    rw[RT how r (fun x hx=>hsl x (.tail _ hx)) h];simp only;split
    .rfl
    .rw[Cn]
     have:(0==(BG w s).toNat)=false:=by rw[beq_eq_false_iff_ne];omega
     rw[this,Bool.or_false]
def qu {w:AF} {ls:List Fact} {a:Int} {p:List Int} {can AV:Int->Bool} (ho:ordered w.parents) (how: ∀s:Int,0<=s->s<w.owner.length->3<=BG w s/\BG w s<3+w.parents.length) (hc:Gm (3+w.parents.length) ls) (hp:Gs w.owner.length ls) (hn: ∀s,AV s= !Eu ls a (p++[s])) :
    (Ef w (kn ls a p) AV can).2=(VH w ls a p can).isSome:=by
 have hcore:=Iy ls a p;have hsl:=FJ hp a p;generalize kn ls a p=k at *;have hc2:Gm (3+w.parents.length) (ls.filter (Iq a p)):=fun l hl=>hc l (HD.1 hl).1
 simp only[DJ,Prod.mk.injEq]at hcore;obtain⟨-,-,-,c4,c5,c6⟩:=hcore;rw[Ef,VH,c4,c5,c6,<-mN hc2,hsl]
 have hR0:RB (3+w.parents.length) (tO w) (k0.BO,k0.Dm):=by
  refine⟨by simp[tO],by simp[tO],fun b=>?_,fun b _ _=>?_,rfl,rfl⟩<;>
  .simp only[tO,k0,Nat.zero_testBit,Cq,List.getElem?_replicate]
   split<;>rfl
 obtain⟨f1,f2⟩:=TC _ hR0 hc2;cases hbad:(ls.filter (Iq a p)).any fun l=>Tr (Ad l)with
 | true=>rw[f1 hbad];rfl
 | false=>
   obtain⟨t,ht,hR⟩:=f2 hbad;rw[ht,Option.bind_some,Bool.false_or];have hin: ∀s∈CN w.owner.length ls a p,0<=s/\s<(w.owner.length:Int):=fun s hs=>IY hs
   rcases bO (can:=can) hn (fun s h0 h1=>by have:=how s h0 h1;omega) (CN w.owner.length ls a p) hin hR with⟨e1,e2⟩|⟨t',u',e1,e2,hR'⟩
   .rw[e1,e2]
    split<;>rfl
   .rw[e1,e2,Option.bind_some,uN ho hR']
    have:=RT (fun s h0 h1=>(how s h0 h1).1) _ hin e2;rw[this];simp only;cases((Dr (ls.filter (Iq a p)) k0).Dm.testBit 0)<;>rfl
end Go.Gl
namespace Go.Gl
def HI (no:List Int):Nat->Int->Int
 | 0,n=>n
 | k+1,n=>if no.contains n then HI no k (n+1)else n
def from_ (no:List Int) (n:Int):Nat:=(no.filter fun x=>decide (n<=x)).length
def PO {no:List Int} {n:Int} (h:n∈no):from_ no (n+1)<from_ no n:=by
 induction no with
 | nil=>cases h
 | cons x r ih=>
   simp only[from_,List.filter_cons]at ih ⊢;by_cases hx:x=n
   .subst hx
    have hle:(r.filter fun y=>decide (x+1<=y)).length<=(r.filter fun y=>decide (x<=y)).length:=by
     refine List.Sublist.length_le ?_
     have e:(r.filter fun y=>decide (x+1<=y))=(r.filter fun y=>decide (x<=y)).filter fun y=>decide (x+1<=y):=by
      rw[List.filter_filter];refine List.filter_congr fun y _=>?_
      rw[Hl,A4,B7,B7];omega
     rw[e];exact List.filter_sublist
    rw[if_neg (by simp<;>omega),if_pos (by simp),HH];omega
   .have h':n∈r:=by
     rcases Ep.1 h with e|e
     .exact absurd e.symm hx
     .exact e
    have:=ih h';by_cases h1:n<=x
    .rw[if_pos (by rw[B7];omega),if_pos (by rw[B7];omega),HH,HH]
     omega
    .rw[if_neg (by rw[B7];omega),if_neg (by rw[B7];omega)]
     omega
def PQ (no:List Int) (n:Int):from_ no n<=no.length:=TZ _ _
def KD {no:List Int}: ∀(k:Nat) (n:Int),from_ no n<=k->n<=HI no k n/\HI no k n∉no/\ ∀j,n<=j->j<HI no k n->j∈no
 | 0,n,h=>by
   refine⟨Int.le_refl _,fun hm=>?_,fun j h1 h2=>by simp only[HI]at h2;omega⟩;have:=PO hm;simp only[HI]at this;omega
 | k + 1,n,h=>by
   rw[HI];split
   .rename_i hc
    rw[List.contains_iff_mem]at hc;have hlt:=PO hc;obtain⟨h1,h2,h3⟩:=KD (no:=no) k (n+1) (by omega);refine⟨by omega,h2,fun j hj1 hj2=>?_⟩;by_cases e:j=n
    .subst e;exact hc
    .exact h3 j (by omega) hj2
   .rename_i hc
    exact⟨Int.le_refl _,fun hm=>hc (List.contains_iff_mem.2 hm),fun j h1 h2=>by omega⟩
def jY {no:List Int} {k:Nat} {n:Int} (h:n∈no):HI no (k+1) n=HI no k (n+1):=by rw[HI,if_pos (List.contains_iff_mem.2 h)]
def bw {no:List Int} {k:Nat} {n:Int} (h:n∉no):HI no k n=n:=by
 cases k with
 | zero=>rfl
 | succ k=>rw[HI,if_neg (fun hc=>h (List.contains_iff_mem.1 hc))]
def PT {no:List Int} {k k':Nat} {n:Int} (h:from_ no n<=k) (h':from_ no n<=k'):HI no k n=HI no k' n:=by
 obtain⟨a1,a2,a3⟩:=KD k n h;obtain⟨b1,b2,b3⟩:=KD k' n h';rcases Int.lt_trichotomy (HI no k n) (HI no k' n)with hl|he|hg
 .exact absurd (b3 _ a1 hl) a2
 .exact he
 .exact absurd (a3 _ b1 hg) b2
def Cy (k:Kn):Int:=HI k.no k.no.length k.low
def IF (kf:Int->List Int->Kn) (a:Int) (p:List Int):Bool:=(kf a p).AI.all fun s=> !(kf a (p++[s])).AV
def Eh (kf:Int->List Int->Kn) (a:Int) (p:List Int) (c:Nat):Bool:=H5 (kf a p).BO (1|||2 ^ c)&&((kf a p).Dm&&&(1|||2 ^ c)==0&&IF kf a p)
def Dq (kf:Int->List Int->Kn) (a:Int) (p:List Int):Bool:=decide (Cy (kf a p)<=(kf a p).high)&&Eh kf a p 1
def CR (kf:Int->List Int->Kn) (a:Int) (p:List Int):Bool:= !(kf a p).whole&&Eh kf a p 2
def EZ (w:AF) (kf:Int->List Int->Kn) (a:Int):Nat->List Int->Bool
 | 0,p=>Dq kf a p||(CR kf a p||(Ef w (kf a p) (fun s=>(kf a (p++[s])).AV) (fun _=>false)).2)
 | d+1,p=>Dq kf a p||(CR kf a p||(Ef w (kf a p) (fun s=>(kf a (p++[s])).AV) (fun s=>EZ w kf a d (p++[s]))).2)
def Ow (w:AF) (kf:Int->List Int->Kn):Bool:=(Aw 3).all fun a=>EZ w kf a 2 []
def bU {n:Nat} {ls:List Fact} (h:Gs n ls) (a:Int) (p:List Int):IF (kn ls) a p=HV n ls a p:=by
 rw[IF,HV,FJ h];congr 1;funext s;rw[Ih,Bool.not_not]
def UA {n m:Nat} {ls:List Fact} (hn:n<=64) (hc:Gm n ls) (h:Gs m ls) (a:Int) (p:List Int):Dq (kn ls) a p=((NY ls a p).isSome&&HV m ls a p):=by
 have hcore:=Iy ls a p;have hc2:Gm n (ls.filter (Iq a p)):=fun l hl=>hc l (HD.1 hl).1
 simp only[DJ,Prod.mk.injEq]at hcore;obtain⟨c1,c2,c3,c4,c5,-⟩:=hcore;rw[Dq,Eh,bU h,c4,c5,<-Bool.and_assoc (H5 _ _),dU hn hc2,<-Bool.and_assoc];congr 1;have hf:=N6 (ls.filter (Iq a p)) k0;rw[NY,show t0=(k0.low,k0.high,k0.no) from rfl,hf,Cy,c2,c3,c1];obtain⟨h1,h2,h3⟩:=KD (no:=(Dr (ls.filter (Iq a p)) k0).no) _ (Dr (ls.filter (Iq a p)) k0).low (PQ _ _);have hs:=kA (high:=(Dr (ls.filter (Iq a p)) k0).high) h1 h2 h3;cases(ls.filter (Iq a p)).all fun l=>qZ (Ad l)with
 | false=>simp
 | true=>rw[if_pos rfl,Option.bind_some,hs,Bool.and_true]
def PG {n m:Nat} {ls:List Fact} (hn:n<=64) (hc:Gm n ls) (h:Gs m ls) (a:Int) (p:List Int):CR (kn ls) a p=Jr m ls a p:=by
 have hcore:=Iy ls a p;have hc2:Gm n (ls.filter (Iq a p)):=fun l hl=>hc l (HD.1 hl).1
 simp only[DJ,Prod.mk.injEq]at hcore;obtain⟨-,-,-,c4,c5,c6⟩:=hcore;rw[CR,Eh,bU h,c4,c5,c6,Jr,<-Y1 hn hc2];simp only[Bool.and_assoc]
def jJ {w:AF} {ls:List Fact} (ho:ordered w.parents) (how: ∀s:Int,0<=s->s<w.owner.length->3<=BG w s/\BG w s<3+w.parents.length) (hn:3+w.parents.length<=64) (hc:Gm (3+w.parents.length) ls) (hp:Gs w.owner.length ls) (a:Int): ∀(d:Nat) (p:List Int),EZ w (kn ls) a d p=To w ls a d p
 | 0,p=>by
   rw[EZ,To,UA hn hc hp,PG hn hc hp,qu ho how hc hp fun s=>Ih ls a (p++[s])]
 | d+1,p=>by
   rw[EZ,To,UA hn hc hp,PG hn hc hp,qu ho how hc hp fun s=>Ih ls a (p++[s])];have e:(fun s=>EZ w (kn ls) a d (p++[s]))=fun s=>To w ls a d (p++[s]):=funext fun s=>jJ ho how hn hc hp a d (p++[s])
   rw[e]
def sd {w:AF} {ls:List Fact} (ho:ordered w.parents) (how: ∀s:Int,0<=s->s<w.owner.length->3<=BG w s/\BG w s<3+w.parents.length) (hn:3+w.parents.length<=64) (hc:Gm (3+w.parents.length) ls) (hp:Gs w.owner.length ls):Ow w (kn ls)=EN w ls:=by
 rw[Ow,EN];congr 1;funext a;exact jJ ho how hn hc hp a 2 []
end Go.Gl
