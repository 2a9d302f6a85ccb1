import Derived.Shelf.Sort.Plain
import Derived.Test.YtegbmnmnaijioaaGreatProg
import Derived.Test.YtegbmnmnaijioaaGreatH8
set_option linter.all false
set_option linter.defProp false
noncomputable section
namespace Go.Gl
open Go.Proofs
attribute [local irreducible] A7 Ap Af AT AM Ae AS AU AL Ad AO AP Aw A1 Sat AX Az Ah W
def Sat.yy {σ:AH} {l:List At} {a:At} (h:Sat σ (a::l)):Sat σ (l++[a]):=h.perm (by
 have:=UB (l₁:=[a]) (l₂:=l)
 simpa using this)
def DP (M:List Ord) (l:List Int):List (List Int):=l.map (fun p=>(CE M p).filter (· != 0))++[l]
def G8 (M:List Ord) (l:List Int) (c:Int):List Int:=
 if c=0 then [0]else if l.any (fun p=>(CE M p).isEmpty)then []else if(CM (DP M l)).2 then [c]++(CM (DP M l)).1++[0]else []
def Z2 (n mm:Nat) (vp vu:V) (ps:List (List Int×Bool)) (us:List Nat) (M:List Ord) {c:Int} {v:V} {l:List Int} (hk: ∀e∈M,e.1≠c) {σ:AH}
    (hs:Sat σ (.own v 1 (iL l):: .box n [vp,vu,.m mm]:: .own vp 1 (pL ps):: .own vu 1 (us.map fun u=>[eU u]):: .map mm (Em (eI c) v (M.map kW))::M.map dk)):Sat σ (gH n mm vp vu ps us (M++[(c,v,l)])):=by
 rw[mV v l hk]at hs;have:=hs.yy;unfold gH;rw[Qn (f:=dk)];exact this
def ik (n mm:Nat) (vp vu:V) (ps:List (List Int×Bool)) (us:List Nat) (M:List Ord) (c:Int) (l:List Int) (b:Bool) (hc0:0≤c) (hl:ps[c.toNat]? =some (l,b)) (hll:l.length≤3) (hol: ∀c,(CE M c).length≤Aj) (hk: ∀e∈M,e.1≠c)
    (hok:MQ (DP M l)) (ht:total (DP M l)<1000000000) :
    B3 Tryz.prog 368 [.p n 0,eI c] (gH n mm vp vu ps us M) fun r post=>r= .ret (.t [])∧ ∃M',post=gH n mm vp vu ps us M'∧((M'=M∧G8 M l c= [])∨ ∃v,M'=M++[(c,v,G8 M l c)]∧G8 M l c≠[]):=by
 intro σ hs;have hM:=Mx;refine sU kZ ?_;by_cases hc:c=0
 ·subst hc
  conv=>whnf
  repeat'((first|apply st|(apply sq;intro K U)|(apply si;intro A B Y Z)|(apply Y;clear Z B Y A)|(apply U;clear U K)|refine⟨rfl,?_⟩|refine ld ?_|(constructor<;>intro hc<;>(try rw[hc])<;>(replace hc:=bp hc)<;>(try simp(disch:=omega) only[BT,wrap64,AN]at hc)<;>try(exfalso;omega))|fail)<;>conv=>whnf)
  refine OS hs 3 rfl rfl (Xd M) fun σ hs=>?_
  conv=>whnf
  repeat'((first|apply st|(apply Y;clear Z B Y A)|(apply U;clear U K)|clear U K)<;>conv=>whnf)
  refine A4 (l':=gH n mm vp vu ps us (M++[(0,.l [[eI 0]] true,[0])])) ?_ (List.Sublist.refl _) (.refl _) fun σ' hs'=>⟨_,⟨rfl,_,rfl,.inr ⟨.l [[eI 0]] true,?_,?_⟩⟩,hs'⟩
  ·refine Z2 n mm vp vu ps us M hk ?_
   exact o6 hs (fun e he=>by simp at he;subst he;rfl)
  ·rw[G8,if_pos rfl]
  ·rw[G8,if_pos rfl];exact fun e=>by cases e
 ·have hoc:G8 M l c=if l.any (fun p=>(CE M p).isEmpty)then []else if(CM (DP M l)).2 then [c]++(CM (DP M l)).1++[0]else []:=by rw[G8,if_neg hc]
  have hli:=jE n mm vp vu ps us M c l b hc0 hl hll hol;have hmg:=jA (DP M l) false hok (by omega);have hml:=IM (total (DP M l)) (DP M l) [];have hml2:(CM (DP M l)).1.length≤total (DP M l):=by simpa[CM]using hml
  cases hany:l.any fun p=>(CE M p).isEmpty
  ·rw[hany,if_neg (by decide)]at hoc
   simp only[hany,ML,if_false]at hli;have hdn: ∀ {σ:AH} {M':List Ord},Sat σ (gH n mm vp vu ps us M')→((M'=M∧G8 M l c= [])∨ ∃v,M'=M++[(c,v,G8 M l c)]∧G8 M l c≠[])→Ap σ (.t []) fun r σ'=> ∃post,(r= .ret (.t [])∧ ∃M',post=gH n mm vp vu ps us M'∧((M'=M∧G8 M l c= [])∨ ∃v,M'=M++[(c,v,G8 M l c)]∧G8 M l c≠[]))∧Sat σ' post:=fun hs h=>A4 hs (List.Sublist.refl _) (.refl _) fun σ' hs'=>⟨_,⟨rfl,_,rfl,h⟩,hs'⟩
   conv=>whnf
   repeat'((first|apply st|(apply sq;intro K U)|(apply si;intro A B Y Z)|(apply Y;clear Z B Y A)|(apply U;clear U K)|refine⟨rfl,?_⟩|(constructor<;>intro hc<;>(try rw[hc])<;>(replace hc:=bp hc)<;>try(exfalso;omega))|fail)<;>conv=>whnf)
   refine hli.use (rest:=[]) (by simpa using hs) ?_;clear hs;rintro r post σ ⟨rfl,rfl⟩ hs;rw[KD]at hs;have hml3:(DP M l)=l.map (fun p=>(CE M p).filter (· != 0))++[l]:=rfl;rw[←hml3];generalize DP M l=ll at *;cases hb:(CM ll).2<;>rw[hb]at hmg hoc
   ·conv=>whnf
    repeat'((first|apply st|(apply sq;intro K U)|(apply si;intro A B Y Z)|(apply Y;clear Z B Y A)|(apply U;clear U K)|refine GS ?_|refine Pure.use (by assumption) ?_|fail)<;>conv=>whnf)
    exact hdn hs (.inl ⟨rfl,by rw[hoc];rfl⟩)
   ·rw[if_pos rfl]at hoc
    conv=>whnf
    repeat'((first|apply st|(apply sq;intro K U)|(apply si;intro A B Y Z)|(apply Y;clear Z B Y A)|(apply U;clear U K)|apply dr|refine ld ?_|refine GS ?_|refine Pure.use (by assumption) ?_|fail)<;>conv=>whnf)
    replace hs:=o6 hs (sz:=1) (es:=[[eI c]]) (fun e he=>by simp at he;subst he;rfl);refine J2 hs 0 (xs:=[c]) (ys:=(CM ll).1) rfl (by simp;omega) DV fun v σ hs=>?_
    conv=>whnf
    repeat'((first|apply dr|refine rk ?_ ?_|exact fun s e=>by cases e;rfl|refine ld ?_|refine aq fun v σ hs hsl=>?_|fail)<;>conv=>whnf)
    refine OS hs 4 rfl rfl (Xd M) fun σ hs=>?_
    conv=>whnf
    repeat'((first|(apply Y;clear Z B Y A)|apply dr|fail)<;>conv=>whnf)
    refine hdn (Z2 n mm vp vu ps us M hk (l:=G8 M l c) ?_) (.inr ⟨v,rfl,by rw[hoc];simp⟩);rw[hoc];exact hs
  ·rw[hany,if_pos rfl]at hoc
   simp only[hany,if_true]at hli
   conv=>whnf
   repeat'((first|apply st|(apply sq;intro K U)|(apply si;intro A B Y Z)|(apply Y;clear Z B Y A)|(apply U;clear U K)|refine⟨rfl,?_⟩|(constructor<;>intro hc<;>(try rw[hc])<;>(replace hc:=bp hc)<;>try(exfalso;omega))|fail)<;>conv=>whnf)
   refine hli.use (rest:=[]) (by simpa using hs) ?_;clear hs;rintro r post σ ⟨rfl,rfl⟩ hs;rw[KD]at hs
   conv=>whnf
   repeat'((first|apply st|(apply sq;intro K U)|(apply si;intro A B Y Z)|(apply Y;clear Z B Y A)|(apply U;clear U K)|refine Iw ?_|clear U K)<;>conv=>whnf)
   exact A4 hs (List.Sublist.refl _) (.refl _) fun σ' hs'=>⟨_,⟨rfl,_,rfl,.inl ⟨rfl,hoc⟩⟩,hs'⟩
end Go.Gl
namespace Go.Gl
def b6 {M:List Ord} {k:Int} {v:V} {o:List Int} (h: ∀e∈M,e.1<k) (d:Int):CE (M++[(k,v,o)]) d=if d=k then o else CE M d:=by
 unfold CE;rw[List.find?_append];split
 ·rename_i e
  have:M.find? (fun e=>d==e.1)=none:=by
   rw[List.find?_eq_none];intro x hx;have:=h x hx;simp;omega
  rw[this];simp[e]
 ·rename_i e
  cases hf:M.find? fun e=>d==e.1 with
  | some x=>simp
  | none=>simp[List.find?_cons,e]
structure Ii (g:List (List Int)) (k:Nat) (M:List Ord):Prop where
 keys: ∀e∈M,0≤e.1∧e.1<(k:Int)
 eH: ∀d:Int,0≤d→d<k→CE M d=(CC g).getD d.toNat []
def Vf {g:List (List Int)} {k:Nat} {M:List Ord} (h:Ii g k M) {d:Int} (hd:d<0∨(k:Int)≤d):CE M d= []:=by
 unfold CE
 have:M.find? (fun e=>d==e.1)=none:=by
  rw[List.find?_eq_none];intro x hx;have:=h.keys x hx;simp;omega
 rw[this];rfl
def Lk {g:List (List Int)} (hg:Ib g) {k:Nat} {M:List Ord} (h:Ii g k M) (d:Int):(CE M d).length≤71744535∧ ∀x∈CE M d,(0:Int)≤x:=by
 by_cases hd:d<0∨(k:Int)≤d
 ·rw[Vf h hd]
  exact⟨by simp,fun x hx=>by cases hx⟩
 ·rw[h.eH d (by omega) (by omega)]
  have hb:=IT hg (2+g.length);have hl:=aT (k:=2+g.length) (by have:=hg.1;omega);unfold CC;exact⟨Vz (fun o ho=>Nat.le_trans (hb o ho).1 hl) _,Pf (fun o ho=>(hb o ho).2) _⟩
def cJ {g:List (List Int)} (hg:Ib g) {k:Nat} {M:List Ord} (h:Ii g k M) {l:List Int} (hl:l.length≤3) (h0: ∀x∈l,(0:Int)≤x):MQ (DP M l)∧total (DP M l)<1000000000:=by
 have hM:Aj=17592186044416:=rfl;have hf: ∀p,((CE M p).filter (· != 0)).length≤71744535:=fun p=>Nat.le_trans (Q7 _ _) (Lk hg h p).1
 have ht: ∀l:List Int,total (l.map fun p=>(CE M p).filter (· != 0))≤l.length*71744535:=by
  intro l
  induction l with
  | nil=>simp[total]
  | cons p r ih=>
    simp only[total,Ct,List.sum_cons,K1]at *;have:=hf p;rw[Nat.add_mul];omega
 refine⟨⟨by simp[DP];omega,fun m hm=>?_⟩,?_⟩
 ·rcases FK.1 hm with hm|hm
  ·obtain⟨p,_,rfl⟩:=KE.1 hm
   refine⟨by have:=hf p;omega,fun x hx=>(Lk hg h p).2 x (JS.1 hx).1⟩
  ·rw[Nx.1 hm]
   exact⟨by omega,h0⟩
 ·have h1:=ht l
  have h2:total (DP M l)=total (l.map fun p=>(CE M p).filter (· != 0))+l.length:=by simp[DP,total]
  have h3:=UN 71744535 hl;omega
def mC {g:List (List Int)} {k:Nat} {M:List Ord} (h:Ii g (k+1) M) {l:List Int} (hl:l=A0 g ((k:Int)+1)) (hp: ∀p∈l,(0:Int)≤p∧p<(k:Int)+1) (hk:k+1<3+g.length) :
    G8 M l ((k:Int)+1)=ED g (Bh g k) ((k:Int)+1):=by
 have ho: ∀p∈l,CE M p=(Bh g k).getD p.toNat []:=fun p hpl=>by
  obtain⟨h0,h1⟩:=hp p hpl;rw[h.eH p h0 (by omega)];unfold CC;rw[D9,D9,FG (k:=2+g.length) (j:=p.toNat) (by omega),FG (k:=k) (j:=p.toNat) (by omega)]
 have e1:(l.any fun p=>(CE M p).isEmpty)=(l.any fun p=>((Bh g k).getD p.toNat []).isEmpty):=by
  rw[Hu,JR,JR];constructor
  ·rintro⟨p,h1,h2⟩;exact⟨p,h1,by rw[←ho p h1];exact h2⟩
  ·rintro⟨p,h1,h2⟩;exact⟨p,h1,by rw[ho p h1];exact h2⟩
 have e2:DP M l=l.map (fun p=>((Bh g k).getD p.toNat []).filter (· != 0))++[l]:=by
  unfold DP;congr 1;exact List.map_congr_left fun p hpl=>by rw[ho p hpl]
 unfold G8 ED EU;rw[if_neg (by omega),e1,e2,←hl];split<;>rfl
def Ii.nil {g:List (List Int)}:Ii g 0 []:=⟨fun e h=>(by cases h),fun d h0 h1=>by omega⟩
def Ii.step {g:List (List Int)} {k:Nat} {M M':List Ord} (h:Ii g k M) {l:List Int} (hl:l=A0 g (k:Int)) (hp: ∀p∈l,(0:Int)≤p∧p<(k:Int)) (hk:k<3+g.length)
    (hM:(M'=M∧G8 M l k= [])∨ ∃v,M'=M++[((k:Int),v,G8 M l k)]∧G8 M l k≠[]):Ii g (k+1) M':=by
 have hc:G8 M l k=(CC g).getD k []:=by
  cases k with
  | zero=>
    unfold G8 CC;rw[if_pos (by simp),D9,FG (j:=0) (by omega)];rfl
  | succ k=>
    have:=mC h (by simpa using hl) (fun p hpl=>by have:=hp p hpl;simpa using this) hk;have e:((k+1:Nat):Int)=(k:Int)+1:=by omega
    rw[e,this];unfold CC;rw[D9,FG (k:=2+g.length) (j:=k+1) (by omega),Bh,List.getElem?_append_right (by rw[Cn];omega),Cn,Nat.sub_self];rfl
 rcases hM with⟨rfl,he⟩|⟨v,rfl,_⟩
 ·refine⟨fun e he=>by have:=h.keys e he;omega,fun d h0 h1=>?_⟩
  by_cases hd:d=k
  ·subst hd
   rw[Vf h (by omega)];rw[MH,←hc,he]
  ·exact h.eH d h0 (by omega)
 ·refine⟨fun e he=>?_,fun d h0 h1=>?_⟩
  ·rcases FK.1 he with he|he
   ·have:=h.keys e he;omega
   ·rw[Nx.1 he]
    exact⟨by simp,by simp;omega⟩
  ·rw[b6 (fun e he=>(h.keys e he).2)]
   split
   ·rename_i hd
    rw[hd,MH];exact hc
   ·exact h.eH d h0 (by omega)
end Go.Gl
namespace Go.Gl
open Go.Proofs
attribute [local irreducible] A7 Ap Af AT AM Ae AS AU AL Ad AO AP Aw A1 Sat AX Az Ah W
def lJ (s c:Nat) (hs0:s<18446744073709551616) (hc:c<64):Pure Tryz.prog 366 [.a [eU s],eI c] (.a [eU (s|||2 ^ c)]):=by
 refine sW kZ ?_;have hs:=Sn
 conv=>whnf
 repeat'((first|apply st|(apply sq;intro K U)|(apply si;intro A B Y Z)|(apply Y;clear Z B Y A)|(apply U;clear U K)|apply dr|refine⟨rfl,?_⟩|refine⟨kZ,?_⟩|refine pq ?_|refine ld ?_|refine Io fun σ hs=>?_|refine Cg fun σ hs=>?_|refine⟨Int.natCast_nonneg _,?_⟩|(intro nn hnn;generalize hg:A5 _ nn _=σ;refine CN hg fun hs=>?_;clear hg)|fail)<;>conv=>whnf)
 refine AI ?_;simp only[MH,ZP hc,La hs0 (KO hc)];rfl
def xJ (s t:Nat) (hs0:s<18446744073709551616) (ht0:t<18446744073709551616):Pure Tryz.prog 367 [.a [eU s],.a [eU t]] (.a [eU (s|||t)]):=by
 refine sV kZ ?_;have hs:=Sn
 conv=>whnf
 repeat'((first|apply st|(apply sq;intro K U)|(apply si;intro A B Y Z)|(apply Y;clear Z B Y A)|(apply U;clear U K)|refine⟨rfl,?_⟩|refine⟨kZ,?_⟩|refine pq ?_|refine wN ?_|refine ld ?_|refine Io fun σ hs=>?_|refine Cg fun σ hs=>?_|(intro nn hnn;generalize hg:A5 _ nn _=σ;refine CN hg fun hs=>?_;clear hg)|fail)<;>conv=>whnf)
 refine AI ?_;simp only[La hs0 ht0];rfl
def VD (s:Nat) (c:Int) (hs0:s<18446744073709551616) (h0:0≤c) (hc:c<64):Pure Tryz.prog 366 [.a [eU s],eI c] (.a [eU (s|||2 ^ c.toNat)]):=by
 have:=lJ s c.toNat hs0 (by omega);rw[Int.toNat_of_nonneg h0]at this;exact this
def LC {a b:Nat} (ha:a<18446744073709551616) (hb:b<18446744073709551616):a|||b<18446744073709551616:=by
 have:=Nat.or_lt_two_pow (n:=64) (x:=a) (y:=b) (by simpa using ha) (by simpa using hb);simpa using this
def Ip (g:List (List Int)):List (List Int×Bool):=[([],true),([],true),([],true)]++g.map fun l=>(l,false)
def ic (g:List (List Int)):(Ip g).length=3+g.length:=by simp[Ip];omega
def Za (g:List (List Int)) {k:Nat} (hk:k<3+g.length): ∃b,(Ip g)[k]? =some (A0 g (k:Int),b):=by
 unfold Ip A0;by_cases h3:k<3
 ·rw[if_pos (by omega),oN (by simpa using h3)]
  refine⟨true,?_⟩;rcases k with _|_|_|k
  ·rfl
  ·rfl
  ·rfl
  ·omega
 ·rw[if_neg (by omega),List.getElem?_append_right (by simp;omega)]
  refine⟨false,?_⟩;simp only[K1,List.length_nil,Q8];have e:((k:Int) - 3).toNat=k - (0+1+1+1):=by omega
  rw[e,D9,EN (by omega)];rfl
def my:GX (fun u:Nat=>[eU u]) 1:=fun x=>⟨rfl,fun v hv=>by simp at hv;subst hv;rfl⟩
def xH {α:Type} {a b c d:α}: [a,b,c,d].Perm [b,d,a,c]:=by
 have h1: [a,b,c,d].Perm [b,a,c,d]:= .swap _ _ _;have h2: [a,c,d].Perm [d,a,c]:=UB (l₁:=[a,c]) (l₂:=[d]);exact h1.trans (h2.cons b)
set_option maxHeartbeats 4000000 in
def mD (g:List (List Int)) (f f2:Bool) (c:Int) (hg:Dy g=true) (hc0:0≤c) (hc1:c<3+g.length) :
    B3 Tryz.prog 353 [.l (E3 g) f,.l (iL [c]) f2] [] fun r post=> ∃n mm vp vu us M,r= .ret (.t [.p n 0,.b true])∧post=gH n mm vp vu (Ip g) us M∧Ii g (3+g.length) M:=by
 intro σ hs;refine A7.fit (by kernel_rfl) fun hf=>?_
 have⟨g1,g2⟩:=Xj hf.1;have hM:=Mx;have hG:=D6 hg;have hgl:=hG.1;have hfn:=Z7 g f;rw[hg]at hfn;have hc2: [c][0]? =some c:=rfl;have hpl:=ic g;refine sa kZ ?_
 conv=>whnf
 repeat'((first|apply st|(apply sq;intro K U)|(apply si;intro A B Y Z)|(apply Y;clear Z B Y A)|(apply U;clear U K)|refine GS ?_|refine hfn.use ?_|fail)<;>conv=>whnf)
 refine C3 1 (fun k (_:Unit)=>[(20,eI (Bc k))]) (fun _ _=>[]) (fun _ _=>True) () rfl trivial hs ?_;clear hs;rintro k - σ hk - hs;have hkk:k=0∨k=1:=by omega
 rcases hkk with rfl|rfl
 ·conv=>whnf
  repeat'((first|apply st|(apply sq;intro K U)|(apply si;intro A B Y Z)|(apply Y;clear Z B Y A)|(apply U;clear U K)|refine⟨rfl,?_⟩|refine⟨kZ,?_⟩|refine ix ?_|(refine DR (fun hc=>?_)<;>(try rw[hc])<;>clear hc)|(constructor<;>intro hc<;>(try rw[hc])<;>(replace hc:=bp hc)<;>(try simp(disch:=omega) only[BT,wrap64,AN]at hc)<;>try(exfalso;omega))|clear U K)<;>conv=>whnf)
  all_goals try(exfalso;omega)
  exact⟨(),rfl,trivial,hs⟩
 ·have hke:1= [c].length:=rfl
  conv=>whnf
  repeat'((first|apply st|(apply sq;intro K U)|(apply si;intro A B Y Z)|(apply Y;clear Z B Y A)|(apply U;clear U K)|refine⟨rfl,?_⟩|(refine Ew (fun hc=>?_)<;>(try rw[hc])<;>clear hc)|clear U K)<;>conv=>whnf)
  rw[show IntKind.i64.wrap (3+((E3 g).length:Nat))=((3+g.length:Nat):Int) by rw[BT,wrap64 (by omega) (by omega)];omega];refine wh (n:=3) hs (by omega) (by omega) fun vp σ hs hv=>?_
  obtain⟨idp,rfl⟩:=hv
  conv=>whnf
  repeat'((first|(apply sq;intro K U)|(apply si;intro A B Y Z)|(apply Y;clear Z B Y A)|(apply U;clear U K)|refine ld ?_|(intro nn hnn;generalize hg:A5 _ nn _=σ;refine CN hg fun hs=>?_;clear hg)|fail)<;>conv=>whnf)
  obtain⟨mm,hs⟩: ∃mm,Sat σ [.box nn [.sl idp 3 (3+g.length),.l [] true,.m mm],.map mm [],.own (.sl idp 3 (3+g.length)) 1 (List.replicate 3 [.l [] true])]:=⟨_,hs⟩
  generalize nn=n0 at *;have hgr:=Ep D5 g;refine hAppend hs 2 rfl (by simp;omega) hgr.1 hgr.2 fun vp σ hs=>?_
  have hps:List.replicate 3 [.l [] true]++E3 g=pL (Ip g):=by simp[pL,Ip,List.replicate,E3]
  rw[hps]at hs;clear hps;have hs1p:=G9 hs 2 rfl
  conv=>whnf
  repeat'((first|apply st|(apply sq;intro K U)|(apply si;intro A B Y Z)|(apply Y;clear Z B Y A)|(apply U;clear U K)|refine lo ?_|refine ld ?_|refine Io fun σ hs=>?_|fail)<;>conv=>whnf)
  replace hs:Sat σ [.box n0 [vp,.l [] true,.m mm],.map mm [],.own vp 1 (pL (Ip g))]:=hs;refine C3 (Ip g).length (fun k (_:V×List Nat)=>[(55,eI (Bc k))]) (fun _ x=>[.own x.1 1 (x.2.map fun u=>[eU u]),.box n0 [vp,x.1,.m mm],.map mm [],.own vp 1 (pL (Ip g))]) (fun k x=>x.2.length=k∧ ∀u∈x.2,u<18446744073709551616) (.l [] true,[]) rfl ⟨rfl,fun u hu=>by cases hu⟩ (FP hs 1) ?_;clear hs;rintro k ⟨vu,us⟩ σ hk ⟨hul,hus⟩ hs;dsimp only at hul hus hs;rcases BU (Ip g) hk with⟨⟨l,lb⟩,hl,hlt⟩|hke2
  ·have hck:Bc k=k:=AN (by omega)
   obtain⟨b',hpa⟩:=Za g (k:=k) (by omega);have hle:l=A0 g (k:Int):=by rw[hl]at hpa;exact(Prod.mk.inj (Option.some.inj hpa)).1
   have hll:=DG hG (k:Int);rw[←hle]at hll;have hlm: ∀p∈l,3≤p∧p<(k:Int):=fun p hp=>Dk hG (by rw[←hle];exact hp)
   have hs1:(0|||2 ^ (Bc k).toNat)<18446744073709551616:=by
    rw[Nat.zero_or,hck,MH];exact KO (by omega)
   have hs1u:=G9 hs 0 rfl;have hl':(Ip g)[(Bc k).toNat]? =some (l,lb):=by rw[hck,MH];exact hl
   conv=>whnf
   repeat'((first|apply st|(apply sq;intro K U)|(apply si;intro A B Y Z)|(apply Y;clear Z B Y A)|(apply U;clear U K)|refine⟨rfl,?_⟩|refine Cg fun σ hs=>?_|refine oi ?_|refine wL ?_|(refine DR (fun hc=>?_)<;>(try rw[hc])<;>clear hc)|refine Pure.use (VD 0 (Bc k) (by decide) (by omega) (by omega)) ?_|refine Pure.use (VD _ _ (by first|omega|exact hs1) (by omega) (by omega)) ?_|(intro nn hnn;generalize hg:A5 _ nn _=σ;refine CN hg fun hs=>?_;clear hg)|fail)<;>conv=>whnf)
   have hs0:(0|||2 ^ (Bc k).toNat|||2 ^ Int.toNat 0)<18446744073709551616:=LC hs1 (by decide);generalize (0|||2 ^ (Bc k).toNat|||2 ^ Int.toNat 0)=s0 at *;refine C3 l.length (fun j (_:Nat)=>[(66,eI (Bc j))]) (fun _ s=>[.box nn [eU s],.own vu 1 (us.map fun u=>[eU u]),.box n0 [vp,vu,.m mm],.map mm [],.own vp 1 (pL (Ip g))]) (fun _ s=>s<18446744073709551616) s0 rfl hs0 hs ?_;clear hs hs0;rintro j s σ hj hsb hs;rcases BU l hj with⟨p,hp,hjlt⟩|hje
   ·obtain⟨hp3,hpk⟩:=hlm p (DL hp)
    obtain⟨u,hu⟩: ∃u,us[p.toNat]? =some u:=⟨_,EN (by omega)⟩
    have hub:=hus u (DL hu)
    conv=>whnf
    repeat'((first|apply st|(apply sq;intro K U)|(apply si;intro A B Y Z)|(apply Y;clear Z B Y A)|(apply U;clear U K)|apply dr|refine⟨rfl,?_⟩|refine⟨kZ,?_⟩|refine ix ?_|refine ld ?_|refine Cg fun σ hs=>?_|refine oi ?_|refine wL ?_|(refine DR (fun hc=>?_)<;>(try rw[hc])<;>clear hc)|refine Pure.use (xJ _ _ hsb hub) ?_|clear U K)<;>conv=>whnf)
    exact⟨hjlt,s|||u,rfl,LC hsb hub,hs⟩
   ·conv=>whnf
    repeat'((first|apply st|(apply sq;intro K U)|(apply si;intro A B Y Z)|(apply Y;clear Z B Y A)|(apply U;clear U K)|apply dr|refine⟨rfl,?_⟩|refine⟨kZ,?_⟩|refine ld ?_|(refine Ew (fun hc=>?_)<;>(try rw[hc])<;>clear hc)|clear U K)<;>conv=>whnf)
    refine Gh (GC hs 1 (enc:=fun u:Nat=>[eU u]) (xs:=us) (x:=s) rfl (by omega) my fun vu' σ hs hsl=>?_);have hs2u:=G9 hs 1 rfl
    conv=>whnf
    repeat'((first|(apply si;intro A B Y Z)|(apply Y;clear Z B Y A)|(apply U;clear U K)|apply dr|refine⟨rfl,?_⟩|refine Io fun σ hs=>?_|clear U K)<;>conv=>whnf)
    refine⟨hlt,(vu',us++[s]),rfl,⟨by simp[hul],fun u hu=>?_⟩,hs.less (K0 _ _)⟩;rcases FK.1 hu with hu|hu
    ·exact hus u hu
    ·rw[Nx.1 hu];exact hsb
  ·have hs1u:=G9 hs 0 rfl
   conv=>whnf
   repeat'((first|apply st|(apply sq;intro K U)|(apply si;intro A B Y Z)|(apply Y;clear Z B Y A)|(apply U;clear U K)|refine⟨rfl,?_⟩|refine lo ?_|refine ld ?_|(refine Ew (fun hc=>?_)<;>(try rw[hc])<;>clear hc)|clear U K)<;>conv=>whnf)
   replace hs:Sat σ (gH n0 mm vp vu (Ip g) us []):=hs.perm xH;refine C3 (Ip g).length (fun k (_:List Ord)=>[(96,eI (Bc k))]) (fun _ M=>gH n0 mm vp vu (Ip g) us M) (fun k M=>Ii g k M) [] rfl Ii.nil hs ?_;clear hs;rintro k M σ hk hkn hs;rcases BU (Ip g) hk with⟨⟨l,lb⟩,hl,hlt⟩|hke3
   ·have hck:Bc k=k:=AN (by omega)
    obtain⟨b',hpa⟩:=Za g (k:=k) (by omega);have hle:l=A0 g (k:Int):=by rw[hl]at hpa;exact(Prod.mk.inj (Option.some.inj hpa)).1
    have hll:=DG hG (k:Int);rw[←hle]at hll;have hlm: ∀p∈l,3≤p∧p<(k:Int):=fun p hp=>Dk hG (by rw[←hle];exact hp)
    have hlo:=cJ hG hkn hll (fun x hx=>by have:=hlm x hx;omega);have hord:=ik n0 mm vp vu (Ip g) us M (Bc k) l lb (by omega) (by rw[hck,MH];exact hl) hll (fun c=>by have:=(Lk hG hkn c).1;omega) (fun e he=>by have:=hkn.keys e he;omega) hlo.1 hlo.2
    conv=>whnf
    repeat'((first|apply st|(apply sq;intro K U)|(apply si;intro A B Y Z)|(apply Y;clear Z B Y A)|(apply U;clear U K)|refine⟨rfl,?_⟩|(refine DR (fun hc=>?_)<;>(try rw[hc])<;>clear hc)|fail)<;>conv=>whnf)
    refine hord.use (rest:=[]) (by simpa using hs) ?_;clear hs;rintro r post σ ⟨rfl,M',rfl,hM'⟩ hs;rw[KD]at hs;rw[hck]at hM'
    conv=>whnf
    repeat'((first|(apply si;intro A B Y Z)|(apply Y;clear Z B Y A)|(apply U;clear U K)|refine⟨rfl,?_⟩|clear U K)<;>conv=>whnf)
    exact⟨hlt,M',rfl,hkn.step hle (fun p hp=>by have:=hlm p hp;omega) (by omega) hM',hs⟩
   ·conv=>whnf
    repeat'((first|apply st|(apply sq;intro K U)|(apply si;intro A B Y Z)|(apply Y;clear Z B Y A)|(apply U;clear U K)|refine⟨rfl,?_⟩|(refine Ew (fun hc=>?_)<;>(try rw[hc])<;>clear hc)|clear U K)<;>conv=>whnf)
    exact A4 hs (List.Sublist.refl _) (.refl _) fun σ' hs'=>⟨_,⟨_,_,_,_,_,_,rfl,rfl,by rw[←hpl,←hke3];exact hkn⟩,hs'⟩
def vQ {M:List Ord} {c:Int} {σ:AH} {fx:List At} (hs:Sat σ (fx++M.map dk)) (hl:(CE M c).length≤Aj) (hne:CE M c≠[]) {k kp:V→AH→Prop} (hk: ∀σ',Sat σ' (fx++M.map dk)→k (.l (iL (CE M c)) false) σ'):A7 Tryz.prog 200 [Iy M c] σ (qk k kp):=by
 rcases PN M c with⟨h1,h2⟩|⟨j,hj⟩
 ·exact absurd h1 hne
 ·have hj':(fx++M.map dk)[fx.length+j]? =some (At.own (Iy M c) 1 (iL (CE M c))):=by
   rw[List.getElem?_append_right (by omega),Nat.add_sub_cancel_left,hj]
  have hcl:B3 Tryz.prog 200 [Iy M c] [.own (Iy M c) 1 (iL (CE M c))] fun r post=>r= .ret (.l (iL (CE M c)) false)∧post= [.own (Iy M c) 1 (iL (CE M c))]:=by
   clear hk hj' hj;generalize Iy M c=v at *;generalize CE M c=l at *;intro σ hs;refine gX kZ ?_;have hgr:=Ep DV l
   have hend: ∀ {σ:AH} {w u:V},Sat σ [.own w 1 (iL l),.own u 1 (iL l)]→Ap σ w fun r σ'=> ∃post,(r= .ret (.l (iL l) false)∧post= [.own u 1 (iL l)])∧Sat σ' post:=fun hs=>by
    obtain⟨σ2,h1,h2,h3⟩:=NX hs 0 rfl;exact Jc h1 h2 ⟨_,⟨rfl,rfl⟩,h3⟩
   have hM:=Mx;rcases hs.get (i:=0) rfl with⟨rfl,_⟩|⟨n,cap,rfl,hn⟩
   ·conv=>whnf
    repeat'((first|(apply sq;intro K U)|(apply si;intro A B Y Z)|(apply Y;clear Z B Y A)|(apply U;clear U K)|fail)<;>conv=>whnf)
    refine⟨fun e=>absurd (List.map_eq_nil_iff.1 e) hne,fun _=>?_⟩
    conv=>whnf
    repeat'((first|apply st|(apply sq;intro K U)|(apply si;intro A B Y Z)|(apply Y;clear Z B Y A)|(apply U;clear U K)|fail)<;>conv=>whnf)
    replace hs:=FP hs 1;refine Zx hs 0 1 rfl rfl (by simp;omega) hgr.1 hgr.2 fun w σ hs=>?_
    conv=>whnf
    repeat'((first|apply st|(apply Y;clear Z B Y A)|(apply U;clear U K)|fail)<;>conv=>whnf)
    exact hend hs
   ·conv=>whnf
    repeat'((first|apply st|(apply sq;intro K U)|(apply si;intro A B Y Z)|(apply Y;clear Z B Y A)|(apply U;clear U K)|fail)<;>conv=>whnf)
    replace hs:=FP hs 1;refine Zx hs 0 1 rfl rfl (by simp;omega) hgr.1 hgr.2 fun w σ hs=>?_
    conv=>whnf
    repeat'((first|apply st|(apply Y;clear Z B Y A)|(apply U;clear U K)|fail)<;>conv=>whnf)
    exact hend hs
  refine hcl.oY (Φ:=fun r=>r= .ret (.l (iL (CE M c)) false)) hs hj' ?_;rintro r σ' rfl hs';exact hk σ' hs'
def rl (g:List (List Int)) (f:Bool) (c:Int) (hg:Dy g=true) (hc0:0≤c) (hc1:c<3+g.length) :
    Pure Tryz.prog 324 [.l (E3 g) f,eI c] (if((CC g).getD c.toNat []).isEmpty then .t [.l [] true,eI 7]else .t [.l (iL ((CC g).getD c.toNat [])) false,eI 0]):=by
 have hop:=mD g f true c hg hc0 hc1;refine sy kZ ?_;have hs:=Sn;have hM:=Mx;have hG:=D6 hg
 conv=>whnf
 repeat'((first|(apply sq;intro K U)|(apply si;intro A B Y Z)|(apply Y;clear Z B Y A)|(apply U;clear U K)|fail)<;>conv=>whnf)
 refine hop.use (rest:=[]) hs ?_;clear hs;rintro r post σ ⟨n,mm,vp,vu,us,M,rfl,rfl,hkn⟩ hs;rw[KD]at hs;have hol:=(Lk hG hkn c).1;have hor:=hkn.eH c hc0 (by omega);by_cases hne:CE M c= []
 ·have hl0:(CE M c).length=0:=by rw[hne];rfl
  conv=>whnf
  repeat'((first|apply st|(apply sq;intro K U)|(apply si;intro A B Y Z)|(apply Y;clear Z B Y A)|(apply U;clear U K)|refine⟨rfl,?_⟩|refine ld ?_|refine GS ?_|refine yg ?_|refine PO (fx:=_::_::_::_:: []) hs (by omega) ?_|(constructor<;>intro hc<;>(try rw[hc])<;>(replace hc:=bp hc)<;>try(exfalso;omega))|clear U K)<;>conv=>whnf)
  all_goals try(exfalso;omega)
  rw[←hor,hne];exact AI rfl
 ·have hl0:0<(CE M c).length:=List.length_pos_iff.2 hne
  conv=>whnf
  repeat'((first|apply st|(apply sq;intro K U)|(apply si;intro A B Y Z)|(apply Y;clear Z B Y A)|(apply U;clear U K)|refine⟨rfl,?_⟩|refine ld ?_|refine GS ?_|refine yg ?_|refine PO (fx:=_::_::_::_:: []) hs (by omega) ?_|(constructor<;>intro hc<;>(try rw[hc])<;>(replace hc:=bp hc)<;>try(exfalso;omega))|fail)<;>conv=>whnf)
  all_goals try(exfalso;omega)
  refine vQ (fx:=_::_::_::_:: []) hs (by omega) hne fun σ hs=>?_
  conv=>whnf
  repeat'((first|apply st|(apply Y;clear Z B Y A)|(apply U;clear U K)|fail)<;>conv=>whnf)
  rw[←hor]
  have:(CE M c).isEmpty=false:=by
   cases h:(CE M c).isEmpty
   ·rfl
   ·exact absurd (List.isEmpty_iff.1 h) hne
  rw[this];exact AI rfl
def Po (xs:List Int) (f:Bool):Pure Tryz.prog 200 [.l (iL xs) f] (.l (iL xs) false):=by
 refine Pure.fit (by kernel_rfl) fun hf=>?_
 have hxl:=S8 hf.1;have hM:=Mx;refine gX kZ ?_;have hs:=Sn
 conv=>whnf
 repeat'((first|(apply sq;intro K U)|(apply si;intro A B Y Z)|(apply Y;clear Z B Y A)|(apply U;clear U K)|fail)<;>conv=>whnf)
 refine⟨fun e t=>?_,fun _=>?_⟩
 ·have hx:xs= []:=List.map_eq_nil_iff.1 e
  subst hx
  conv=>whnf
  repeat'((first|apply st|(apply sq;intro K U)|(apply si;intro A B Y Z)|(apply Y;clear Z B Y A)|(apply U;clear U K)|(constructor<;>intro hc<;>(try rw[hc])<;>(replace hc:=bp hc))|clear U K)<;>conv=>whnf)
  ·exact A8 Ds
  ·replace hs:=FP hs 1
   refine J2 hs 0 (xs:=[]) (ys:=[]) rfl (by simp) DV fun v σ hs=>?_
   conv=>whnf
   repeat'((first|apply st|(apply Y;clear Z B Y A)|(apply U;clear U K)|fail)<;>conv=>whnf)
   exact Ge hs 0 rfl rfl
 ·conv=>whnf
  repeat'((first|apply st|(apply sq;intro K U)|(apply si;intro A B Y Z)|(apply Y;clear Z B Y A)|(apply U;clear U K)|fail)<;>conv=>whnf)
  replace hs:=FP hs 1;refine J2 hs 0 (xs:=[]) (ys:=xs) rfl (by simp;omega) DV fun v σ hs=>?_
  conv=>whnf
  repeat'((first|apply st|(apply Y;clear Z B Y A)|(apply U;clear U K)|fail)<;>conv=>whnf)
  exact Ge hs 0 rfl rfl
def rD (c:Qm):Pure Tryz.prog 290 [.a (Ui c)] (.l (iL c.parents) false):=by
 refine tP kZ ?_;have hs:=Sn
 conv=>whnf
 repeat'((first|apply st|(apply sq;intro K U)|(apply si;intro A B Y Z)|(apply Y;clear Z B Y A)|(apply U;clear U K)|refine Pure.use (Po _ _) ?_|fail)<;>conv=>whnf)
 exact AI rfl
def nu (xs:List (List Int)) (v:V) (hl:xs.length≤Aj):B3 Tryz.prog 329 [v] [.own v 1 (E3 xs)] fun r post=>r= .ret (.l (E3 xs) true)∧post= []:=by
 intro σ hs;have hg:=Ep D5 xs;refine sr kZ ?_
 conv=>whnf
 repeat'((first|(apply sq;intro K U)|(apply si;intro A B Y Z)|(apply Y;clear Z B Y A)|(apply U;clear U K)|refine lo ?_|fail)<;>conv=>whnf)
 refine fE (i:=0) hs rfl hg.1 (by simpa using hl) fun σ hs=>?_
 conv=>whnf
 repeat'((first|apply st|(apply Y;clear Z B Y A)|(apply U;clear U K)|fail)<;>conv=>whnf)
 exact A4 hs (List.Sublist.refl _) (.refl _) fun σ' hs'=>⟨_,⟨rfl,rfl⟩,hs'⟩
def gi (xs:List Int) (v:V) (hl:xs.length≤Aj):B3 Tryz.prog 242 [v] [.own v 1 (iL xs)] fun r post=>r= .ret (.l (iL xs) true)∧post= []:=by
 intro σ hs;have hg:=Ep DV xs;refine tt kZ ?_
 conv=>whnf
 repeat'((first|(apply sq;intro K U)|(apply si;intro A B Y Z)|(apply Y;clear Z B Y A)|(apply U;clear U K)|refine lo ?_|fail)<;>conv=>whnf)
 refine fE (i:=0) hs rfl hg.1 (by simpa using hl) fun σ hs=>?_
 conv=>whnf
 repeat'((first|apply st|(apply Y;clear Z B Y A)|(apply U;clear U K)|fail)<;>conv=>whnf)
 exact A4 hs (List.Sublist.refl _) (.refl _) fun σ' hs'=>⟨_,⟨rfl,rfl⟩,hs'⟩
def nS (cs:List Qm) (hl:cs.length≤1000000):Pure Tryz.prog 289 [.l (cs.map Ui) false,.f (.func 290) [] []] (.l (E3 (cs.map (·.parents))) false):=by
 have hM:=Mx;refine tQ kZ ?_;have hs:=Sn
 conv=>whnf
 repeat'((first|apply st|(apply sq;intro K U)|(apply si;intro A B Y Z)|(apply Y;clear Z B Y A)|(apply U;clear U K)|fail)<;>conv=>whnf)
 refine C3 cs.length (fun k v=>[(5,v),(10,eI (Bc k))]) (fun k v=>[.own v 1 (E3 ((cs.take k).map (·.parents)))]) (fun _ _=>True) (.l [] true) rfl trivial (FP hs 1) ?_;clear hs;rintro k v σ hk - hs;rcases BU cs hk with⟨c,hc,hlt⟩|hke
 ·conv=>whnf
  repeat'((first|apply st|(apply sq;intro K U)|(apply si;intro A B Y Z)|(apply Y;clear Z B Y A)|(apply U;clear U K)|refine⟨rfl,?_⟩|refine⟨kZ,?_⟩|refine ix ?_|refine ld ?_|refine Cg fun σ hs=>?_|(refine DR (fun hc=>?_)<;>(try rw[hc])<;>clear hc)|(intro nn hnn;generalize hg:A5 _ nn _=σ;refine CN hg fun hs=>?_;clear hg)|fail)<;>conv=>whnf)
  refine Bg ((rD c).use ?_)
  conv=>whnf
  repeat'((first|(apply si;intro A B Y Z)|(apply Y;clear Z B Y A)|(apply U;clear U K)|refine⟨rfl,?_⟩|refine aq fun v σ hs hsl=>?_|clear U K)<;>conv=>whnf)
  exact⟨hlt,_,rfl,trivial,by rw[Aa hc,Qn];exact hs.less (K0 _ _)⟩
 ·rw[BI hke]at hs
  conv=>whnf
  repeat'((first|apply st|(apply sq;intro K U)|(apply si;intro A B Y Z)|(apply Y;clear Z B Y A)|(apply U;clear U K)|refine⟨rfl,?_⟩|(refine Ew (fun hc=>?_)<;>(try rw[hc])<;>clear hc)|clear U K)<;>conv=>whnf)
  refine(nu (cs.map (·.parents)) v (by simp;omega)).use (rest:=[]) hs ?_;clear hs;rintro r post σ ⟨rfl,rfl⟩ hs
  conv=>whnf
  repeat'((first|apply st|(apply Y;clear Z B Y A)|(apply U;clear U K)|fail)<;>conv=>whnf)
  exact A8 ez
def Lr (p:Prog) (hk0:p.AQ.length≤1000):Pure Tryz.prog 223 [.a (Be p)] (.l (E3 (A2 p)) false):=by
 refine Pure.fit (by kernel_rfl) fun hf=>?_
 have F:=I6 hf.1;refine uG kZ ?_;have hs:=Sn
 conv=>whnf
 repeat'((first|apply st|(apply sq;intro K U)|(apply si;intro A B Y Z)|(apply Y;clear Z B Y A)|(apply U;clear U K)|fail)<;>conv=>whnf)
 refine(nS p.AQ (by omega)).use ?_
 conv=>whnf
 repeat'((first|apply st|(apply Y;clear Z B Y A)|(apply U;clear U K)|fail)<;>conv=>whnf)
 exact AI rfl
def VC (p:Prog) (hk0:p.AQ.length≤1000) (hm:Bu p.AQ≤Aj):Pure Tryz.prog 151 [.a (Be p)] (.a (BC (AR p))):=by
 refine Pure.fit (by kernel_rfl) fun hf=>?_
 have F:=I6 hf.1;have hcl:=F.1;have hM:=Mx;refine u6 kZ ?_;have hs:=Sn
 conv=>whnf
 repeat'((first|apply st|(apply sq;intro K U)|(apply si;intro A B Y Z)|(apply Y;clear Z B Y A)|(apply U;clear U K)|refine⟨kZ,?_⟩|refine Cg fun σ hs=>?_|refine Pure.use (Lr _ hk0) ?_|(intro nn hnn;generalize hg:A5 _ nn _=σ;refine CN hg fun hs=>?_;clear hg)|fail)<;>conv=>whnf)
 rename_i n2 _ _ _ _ _
 rename Nat=>n3
 replace hs:Sat σ [.box n3 [.l (E3 (A2 p)) false,.l [] true],.box n2 [.l [] true,.l [] true]]:=hs;refine C3 p.AQ.length (fun k (_:V)=>[(12,eI (Bc k))]) (fun k v=>[.own v 1 (iL (BR 0 (p.AQ.take k))),.box n3 [.l (E3 (A2 p)) false,v],.box n2 [.l [] true,.l [] true]]) (fun _ _=>True) (.l [] true) rfl trivial (FP hs 1) ?_;clear hs;rintro k v σ hk - hs;rcases BU p.AQ hk with⟨c,hc,hlt⟩|hke
 ·have hcm:=F.2 c (DL hc)
  have htk:=QN hc;have hck:Bc k=k:=AN (by omega)
  have hap:BR 0 (p.AQ.take (k+1))=BR 0 (p.AQ.take k)++List.replicate c.AK.length ((k:Int)+3):=by
   rw[Aa hc,Ik];have:(p.AQ.take k).length=k:=by simp;omega
   rw[this];simp[BR]
  have hol:=Ce 0 (p.AQ.take k);have hw3:IntKind.i64.wrap (Bc k+3)=(k:Int)+3:=by rw[hck,wrap64 (by omega) (by omega)]
  have hcs:=hcm.2.1;generalize BR 0 (p.AQ.take k)=os at *
  conv=>whnf
  repeat'((first|apply st|(apply sq;intro K U)|(apply si;intro A B Y Z)|(apply Y;clear Z B Y A)|(apply U;clear U K)|refine⟨rfl,?_⟩|refine⟨kZ,?_⟩|refine ix ?_|refine ld ?_|refine Cg fun σ hs=>?_|(refine DR (fun hc=>?_)<;>(try rw[hc])<;>clear hc)|(intro nn hnn;generalize hg:A5 _ nn _=σ;refine CN hg fun hs=>?_;clear hg)|fail)<;>conv=>whnf)
  refine C3 c.AK.length (fun j (_:V)=>[(20,eI (Bc j))]) (fun j v=>[.own v 1 (iL (os++List.replicate j ((k:Int)+3))),.box n3 [.l (E3 (A2 p)) false,v],.box n2 [.l [] true,.l [] true]]) (fun _ _=>True) v rfl trivial (by simpa using hs.less (K0 _ _)) ?_;clear hs;rintro j v σ hj - hs;rcases BU c.AK hj with⟨s,hsl,hjlt⟩|hje
  ·have hsv0:=G9 hs 0 rfl
   conv=>whnf
   repeat'((first|apply st|(apply sq;intro K U)|(apply si;intro A B Y Z)|(apply Y;clear Z B Y A)|(apply U;clear U K)|refine⟨rfl,?_⟩|refine ld ?_|refine Io fun σ hs=>?_|refine aq fun v σ hs hsl=>?_|(refine DR (fun hc=>?_)<;>(try rw[hc])<;>clear hc)|clear U K)<;>conv=>whnf)
   have hsv:=G9 hs 0 rfl
   conv=>whnf
   refine⟨hjlt,v,rfl,trivial,?_⟩;rw[List.replicate_succ',←W5];rw[hw3]at hs;exact hs
  ·conv=>whnf
   repeat'((first|apply st|(apply sq;intro K U)|(apply si;intro A B Y Z)|(apply Y;clear Z B Y A)|(apply U;clear U K)|refine⟨rfl,?_⟩|(refine Ew (fun hc=>?_)<;>(try rw[hc])<;>clear hc)|clear U K)<;>conv=>whnf)
   exact⟨hlt,v,rfl,trivial,by rw[hap,←hje];exact hs⟩
 ·rw[BI hke]at hs
  have hsv:=G9 hs 0 rfl
  conv=>whnf
  repeat'((first|apply st|(apply sq;intro K U)|(apply si;intro A B Y Z)|(apply Y;clear Z B Y A)|(apply U;clear U K)|refine⟨rfl,?_⟩|refine⟨kZ,?_⟩|refine ld ?_|refine Cg fun σ hs=>?_|(refine Ew (fun hc=>?_)<;>(try rw[hc])<;>clear hc)|clear U K)<;>conv=>whnf)
  exact A8 (.a (.cons (.refl _) (.cons (hs.IV 0 rfl) .nil)))
end Go.Gl
namespace Go.Proofs
open Go.Shelf
def Tryz.Wf:Go.Shelf.Ren:=⟨fun|189=>268|125=>315|257=>314|128=>348|129=>349|294=>339|295=>340|296=>341|297=>342|298=>343|299=>344|216=>345|300=>346|301=>347|328=>360|329=>361|330=>362|331=>363|332=>364|215=>162|343=>375|n=>n,fun|28=>23|3=>3|46=>222|0=>0|51=>318|53=>139|4=>4|183=>394|182=>393|131=>266|5=>5|9=>9|218=>413|222=>329|228=>428|229=>429|n=>n,fun|n=>n⟩
def Tryz.mU:Go.Proofs.Lays.n189 Tryz.prog Tryz.Wf:={
 mixed:=by kernel_rfl
 f125:=Tryz.func315.trans (congrArg some (by kernel_rfl))
 f128:=Tryz.func348.trans (congrArg some (by kernel_rfl))
 f129:=Tryz.func349.trans (congrArg some (by kernel_rfl))
 f189:=Tryz.func268.trans (congrArg some (by kernel_rfl))
 f215:=Tryz.func162.trans (congrArg some (by kernel_rfl))
 f216:=Tryz.func345.trans (congrArg some (by kernel_rfl))
 f257:=Tryz.func314.trans (congrArg some (by kernel_rfl))
 f294:=Tryz.func339.trans (congrArg some (by kernel_rfl))
 f295:=Tryz.func340.trans (congrArg some (by kernel_rfl))
 f296:=Tryz.func341.trans (congrArg some (by kernel_rfl))
 f297:=Tryz.func342.trans (congrArg some (by kernel_rfl))
 f298:=Tryz.func343.trans (congrArg some (by kernel_rfl))
 f299:=Tryz.func344.trans (congrArg some (by kernel_rfl))
 f300:=Tryz.func346.trans (congrArg some (by kernel_rfl))
 f301:=Tryz.func347.trans (congrArg some (by kernel_rfl))
 f328:=Tryz.func360.trans (congrArg some (by kernel_rfl))
 f329:=Tryz.func361.trans (congrArg some (by kernel_rfl))
 f330:=Tryz.func362.trans (congrArg some (by kernel_rfl))
 f331:=Tryz.func363.trans (congrArg some (by kernel_rfl))
 f332:=Tryz.func364.trans (congrArg some (by kernel_rfl))
 f343:=Tryz.func375.trans (congrArg some (by kernel_rfl))
 t0:=Tryz.underlying0
 a0:=Tryz.isAgg0
 z0:=Tryz.sizeOf0
 v0:=Tryz.zeroValue0
 t3:=Tryz.underlying3
 a3:=Tryz.isAgg3
 z3:=Tryz.sizeOf3
 v3:=Tryz.zeroValue3
 t4:=Tryz.underlying4
 a4:=Tryz.isAgg4
 z4:=Tryz.sizeOf4
 v4:=Tryz.zeroValue4
 t5:=Tryz.underlying5
 a5:=Tryz.isAgg5
 z5:=Tryz.sizeOf5
 v5:=Tryz.zeroValue5
 t9:=Tryz.underlying9
 a9:=Tryz.isAgg9
 z9:=Tryz.sizeOf9
 v9:=Tryz.zeroValue9
 t28:=Tryz.underlying23
 a28:=Tryz.isAgg23
 z28:=Tryz.sizeOf23
 v28:=Tryz.zeroValue23
 t46:=Tryz.underlying222
 a46:=Tryz.isAgg222
 z46:=Tryz.sizeOf222
 v46:=Tryz.zeroValue222
 t51:=Tryz.underlying318
 a51:=Tryz.isAgg318
 z51:=Tryz.sizeOf318
 v51:=Tryz.zeroValue318
 t53:=Tryz.underlying139
 a53:=Tryz.isAgg139
 z53:=Tryz.sizeOf139
 v53:=Tryz.zeroValue139
 t131:=Tryz.underlying266
 a131:=Tryz.isAgg266
 z131:=Tryz.sizeOf266
 v131:=Tryz.zeroValue266
 t182:=Tryz.underlying393
 a182:=Tryz.isAgg393
 z182:=Tryz.sizeOf393
 v182:=Tryz.zeroValue393
 t183:=Tryz.underlying394
 a183:=Tryz.isAgg394
 z183:=Tryz.sizeOf394
 v183:=Tryz.zeroValue394
 t218:=Tryz.underlying413
 a218:=Tryz.isAgg413
 z218:=Tryz.sizeOf413
 v218:=Tryz.zeroValue413
 t222:=Tryz.underlying329
 a222:=Tryz.isAgg329
 z222:=Tryz.sizeOf329
 v222:=Tryz.zeroValue329
 t228:=Tryz.underlying428
 a228:=Tryz.isAgg428
 z228:=Tryz.sizeOf428
 v228:=Tryz.zeroValue428
 t229:=Tryz.underlying429
 a229:=Tryz.isAgg429
 z229:=Tryz.sizeOf429
 v229:=Tryz.zeroValue429}
end Go.Proofs
namespace Go.Gl
open Go.Proofs Go.Shelf
abbrev OZ (x y:Int):Bool:=decide (x≤y)
def iW {P:Program} {f:FuncId} (hok:okF P f=true)
    (hc: ∀(blk cap:Nat) (zs:List Int) (w:World),Sort.Holds (Value.int .i64) w blk 0 zs.toArray→blk<w.heap.size→zs.length<4611686018427387904→
     Calls P f #[.slice (some ⟨blk,0,none⟩) zs.length cap] w fun e w'=>e= .returned (.tuple #[])∧ ∃n os,w'=Sort.grow (Sort.putRow (Value.int .i64) (Sort.ahead w n) blk 0 (zs.mergeSort fun x y=>decide (x≤y)).toArray) os)
    (xs:List Int) (n len cap:Nat):B3 P f [.sl n len cap] [.own (.sl n len cap) 1 (iL xs)] fun r post=>r= .ret (.t [])∧post= [.own (.sl n len cap) 1 (iL (xs.mergeSort OZ))]:=by
 intro σ hs;refine⟨hok,fun Λ w cs G hv=>?_⟩;rcases hs.get (i:=0) rfl with⟨h,_⟩|⟨n',cap',h,hn⟩
 ·cases h
 cases h;rw[BT]at hv;obtain⟨c,e,hb,h1,h2,h3,h4⟩:=FA G hn;rw[BT]at h2 h3;have hM:Aj=17592186044416:=rfl;rw[BJ]at h4
 have hcell: ∀j x,xs[j]? =some x→c[j]? =some (Value.int .i64 x)∧IntKind.i64.min≤x∧x≤IntKind.i64.max:=fun j x hx=>by
  have:=(h4 j [.i .i64 x] (by rw[Q8,hx];rfl)).2;simp only[Bb,Nat.mul_one,G7]at this;obtain⟨⟨d,hd,hr⟩,_⟩:=this;simp only[Ai]at hr;obtain⟨rfl,hr⟩:=hr;exact⟨hd,hr⟩
 have hcs:cs= #[.slice (some ⟨n,0,none⟩) xs.length cap]:=by
  obtain⟨hsz,hv⟩:=hv;simp only[Bb,Ai]at hv;obtain⟨⟨d,hd,rfl,_⟩,_⟩:=hv;simp at hsz;apply Array.ext_getElem?;intro i;rcases i with _|i
  ·simpa using hd
  ·rw[Array.getElem?_eq_none (by omega),Array.getElem?_eq_none (by simp)]
 subst hcs
 have hH:Sort.Holds (Value.int .i64) w n 0 xs.toArray:=fun j hj=>by
  have hj':j<xs.length:=by simpa using hj
  obtain⟨h5,_⟩:=hcell j xs[j] (EN hj');refine⟨?_,?_⟩
  ·rw[G7,Df hb,h5]
   simp[getElem!_pos,hj']
  ·rw[G7];exact QS hb
 refine(hc n cap xs w hH (G.lt hn) (by omega)).mono fun e' w' ⟨he,k,os,hw⟩=>?_
 subst he;have hlen:(xs.mergeSort OZ).length=xs.length:=List.length_mergeSort _
 have hheap: ∀m,m<w.heap.size→w'.heap[m]? =if m=n then some (.cells (Sort.putCells (Value.int .i64) 0 (xs.mergeSort OZ).toArray c) e (0,0))else w.heap[m]? :=fun m hm=>by
  rw[hw];simp only[Sort.grow,Sort.putRow,Sort.mapBlock,Sort.ahead];rw[Array.getElem?_append_left (by simpa using hm),Array.getElem?_modify];by_cases e1:n=m
  ·subst e1
   rw[if_pos rfl,if_pos rfl,hb];rfl
  ·rw[if_neg e1,if_neg (Ne.symm e1)]
 have hadv:B8 Λ σ w (A5 σ n (.arr 1 (iL (xs.mergeSort OZ)) cap)) w':=by
  refine⟨fun m hm h0=>?_,?_,by rw[hw];rfl,by rw[hw];rfl,by rw[hw];rfl,fun m h0 _=>?_⟩
  ·rw[hheap m hm,if_neg]
   intro e1;subst e1;rw[hn]at h0;cases h0
  ·rw[hw];simp[Sort.grow]
  ·rw[Cl _ _ (fun e1=>by subst e1;rw[hn]at h0;cases h0)];exact h0
 refine⟨.ret (.t []),A5 σ n (.arr 1 (iL (xs.mergeSort OZ)) cap),⟨_,⟨rfl,rfl⟩,?_⟩,?_,?_,hadv⟩
 ·refine⟨fun a ha=>?_,List.pairwise_singleton _ _⟩
  rw[Nx.1 ha];exact .inr ⟨n,cap,by simp[hlen],DQ _ _ _⟩
 ·exact⟨_,rfl,by simp[Ai,Bb]⟩
 ·refine G.step hadv fun m o ho=>?_
  by_cases e1:m=n
  ·subst e1
   rw[DQ]at ho;cases ho;refine .inr ⟨(G.own _ _ hn).1,_,(hheap m (G.lt hn)).trans (if_pos rfl),_,_,rfl,by simpa[Sort.putCells]using h1,by simpa[hlen]using h2,by simpa[hlen]using h3,?_⟩;rw[BJ];intro i r hi;rw[Q8]at hi;cases hx:(xs.mergeSort OZ)[i]? with
   | none=>rw[hx]at hi;cases hi
   | some x=>
     rw[hx]at hi;cases hi;have hil:i<xs.length:=by have:=(MK.1 hx).1;omega
     have hxm:x∈xs:=(List.mergeSort_perm xs OZ).mem_iff.1 (DL hx);obtain⟨j,hj⟩:=List.getElem?_of_mem hxm;have hbd:=(hcell j x hj).2;obtain⟨hci,_⟩:=hcell i xs[i] (EN hil);have hcl:i<c.size:=(pb.1 hci).1;refine⟨rfl,?_⟩;simp only[Bb,Nat.mul_one,G7,Ai,and_true];refine⟨_,?_,rfl,hbd⟩;simp only[Sort.putCells,Array.getElem?_mapIdx];rw[hci];have hxe:=(MK.1 hx).2;simp[hlen,hil,getElem!_pos,hxe]
  ·rw[Cl _ _ e1]at ho
   exact .inl ⟨ho,(hheap m (G.lt ho)).trans (if_neg e1)⟩
def lS (xs:List Int) (n len cap:Nat):B3 Tryz.prog 268 [.sl n len cap] [.own (.sl n len cap) 1 (iL xs)] fun r post=>r= .ret (.t [])∧post= [.own (.sl n len cap) 1 (iL (xs.mergeSort OZ))]:=
 iW (by kernel_rfl) (fun blk cap zs w h1 h2 h3=>Any.slices_Sort_int Tryz.mU blk 0 cap zs w h1 h2 h3) xs n len cap
end Go.Gl
namespace Go.Gl
open Go.Proofs
attribute [local irreducible] A7 Ap Af AT AM Ae AS AU AL Ad AO AP Aw A1 Sat AX Az Ah W
def rq:Pure Tryz.prog 349 [.i .u64 0] (eI 0):=by
 refine sd kZ ?_;have hs:=Sn
 conv=>whnf
 repeat'((first|apply st|(apply sq;intro K U)|(apply si;intro A B Y Z)|(apply Y;clear Z B Y A)|(apply U;clear U K)|refine⟨rfl,?_⟩|(constructor<;>intro hc<;>(try rw[hc])<;>(replace hc:=bp hc)<;>try(exfalso;omega))|fail)<;>conv=>whnf)
 refine⟨by decide,?_⟩
 conv=>whnf
 repeat'((first|apply st|(apply Y;clear Z B Y A)|(apply U;clear U K)|refine⟨rfl,?_⟩|fail)<;>conv=>whnf)
 all_goals exact AI rfl
def ru:Pure Tryz.prog 315 [.i .u64 0] (eI 0):=by
 refine s6 kZ ?_;have hs:=Sn
 conv=>whnf
 repeat'((first|apply st|(apply sq;intro K U)|(apply si;intro A B Y Z)|(apply Y;clear Z B Y A)|(apply U;clear U K)|refine rq.use ?_|fail)<;>conv=>whnf)
 all_goals exact AI rfl
def r8:Pure Tryz.prog 339 [.l [] true,eI 0,eI 0] (.t []):=by
 refine se kZ ?_;have hs:=Sn
 conv=>whnf
 repeat'((first|apply st|(apply sq;intro K U)|(apply si;intro A B Y Z)|(apply Y;clear Z B Y A)|(apply U;clear U K)|refine⟨rfl,?_⟩|fail)<;>conv=>whnf)
 refine KI (fun(_:Unit)=>0) (fun _=>[(6,eI 1)]) (fun _=>[]) (fun _=>True) () rfl trivial hs ?_;clear hs;rintro - σ - hs
 conv=>whnf
 repeat'((first|apply st|(apply sq;intro K U)|(apply si;intro A B Y Z)|(apply Y;clear Z B Y A)|(apply U;clear U K)|refine⟨rfl,?_⟩|(constructor<;>intro hc<;>(try rw[hc])<;>(replace hc:=bp hc)<;>try(exfalso;omega))|clear U K)<;>conv=>whnf)
 all_goals exact AI rfl
def rA:Pure Tryz.prog 314 [.l [] true,eI 0,eI 0,eI 0] (.t []):=by
 refine s7 kZ ?_;have hs:=Sn
 conv=>whnf
 repeat'((first|apply st|(apply sq;intro K U)|(apply si;intro A B Y Z)|(apply Y;clear Z B Y A)|(apply U;clear U K)|fail)<;>conv=>whnf)
 refine KI (fun(_:Unit)=>0) (fun _=>[]) (fun _=>[]) (fun _=>True) () rfl trivial hs ?_;clear hs;rintro - σ - hs
 conv=>whnf
 repeat'((first|apply st|(apply sq;intro K U)|(apply si;intro A B Y Z)|(apply Y;clear Z B Y A)|(apply U;clear U K)|refine⟨rfl,?_⟩|refine r8.use ?_|(constructor<;>intro hc<;>(try rw[hc])<;>(replace hc:=bp hc)<;>(try simp(disch:=omega) only[BT,wrap64,AN]at hc)<;>try(exfalso;omega))|clear U K)<;>conv=>whnf)
 all_goals exact AI rfl
def iX:Pure Tryz.prog 268 [.l [] true] (.t []):=by
 refine tb kZ ?_;have hs:=Sn
 conv=>whnf
 repeat'((first|apply st|(apply sq;intro K U)|(apply si;intro A B Y Z)|(apply Y;clear Z B Y A)|(apply U;clear U K)|refine ru.use ?_|refine rA.use ?_|fail)<;>conv=>whnf)
 all_goals exact AI rfl
def oZ {xs:List Int} {v:V} (hv:(EI v).isSome=true∨(v= .l [] true∧xs= [])):B3 Tryz.prog 268 [v] [.own v 1 (iL xs)] fun r post=>r= .ret (.t [])∧post= [.own v 1 (iL (xs.mergeSort OZ))]:=by
 rcases hv with hv|⟨rfl,rfl⟩
 ·obtain⟨n,l,c,rfl⟩:=xA hv
  exact lS xs n l c
 ·intro σ hs
  have:=iX.use (σ:=σ) (k:=fun v σ'=>v= .t []∧σ'=σ) (kp:=fun _ _=>False) ⟨rfl,rfl⟩;refine A7.mono this ?_;rintro(u|u) σ' hq
  ·obtain⟨rfl,rfl⟩:=hq
   exact⟨_,⟨rfl,rfl⟩,by simpa using hs⟩
  ·exact hq.elim
def Wk {b:Nat} {σ:AH} {sz:Nat} {v:V} {ys:List (List V)} {f:Bool} {K:V→AH→Prop} (h:AM b σ sz v (.l ys f) fun v' σ'=>((EI v').isSome=true∨(v'=v∧ys= []))→K v' σ'):AM b σ sz v (.l ys f) K:=by
 unfold AM at *;obtain⟨h1,h2,h3⟩:=h;refine⟨h1,h2,?_⟩;cases v with
 | l es full=>exact⟨h3.1,h3.2.1,fun e=>h3.2.2.1 e (.inr ⟨rfl,e⟩),fun e=>⟨(h3.2.2.2 e).1,fun n cap hn hc=>(h3.2.2.2 e).2 n cap hn hc (.inl rfl)⟩⟩
 | sl n len cap=>
   simp only at h3 ⊢;split at h3
   ·exact⟨h3.1,h3.2.1,h3.2.2.1,h3.2.2.2.1,fun n' cap' hn hc=>h3.2.2.2.2 n' cap' hn hc (.inl rfl)⟩
   ·exact h3.elim
 | _=>exact h3.elim
def W6 (M:List Int):List (V×V):=M.map fun k=>(eI k,.b true)
def Se (M:List Int) (k:Int):List Int:=if M.contains k then M else M++[k]
def Vd (M:List Int) (k b:Int):(Se M k).contains b=(M.contains b||b==k):=by
 unfold Se;split
 ·rename_i h
  by_cases hb:b=k
  ·subst hb;simpa using h
  ·have:(b==k)=false:=by simpa using hb
   rw[this,Bool.or_false]
 ·simp[List.contains_append]
  rfl
def mW (M:List Int) (k:Int):Em (eI k) (.b true) (W6 M)=W6 (Se M k):=by
 induction M with
 | nil=>rfl
 | cons x r ih=>
   simp only[W6,Ct,Em]at *;have he:En (eI k) (eI x)=(k==x):=rfl;rw[he];cases hx:k==x
   ·rw[cond_false,ih]
    unfold Se;have:(x::r).contains k=r.contains k:=by rw[List.contains_cons,hx,Bool.false_or]
    rw[this];split<;>simp
   ·rw[cond_true]
    have hk:k=x:=by simpa using hx
    subst hk;unfold Se;simp
def jG (M:List Int) (k:Int):found (.b false) false (C6 (eI k) (W6 M))= .b (M.contains k):=by
 induction M with
 | nil=>rfl
 | cons x r ih=>
   simp only[W6,Ct,C6]at *;have he:En (eI k) (eI x)=(k==x):=rfl;rw[he,List.contains_cons];cases k==x
   ·simpa using ih
   ·rfl
def Vp (M:List Int): ∀kv∈W6 M,BW (.i .i64) kv.1=true:=by
 intro kv h;obtain⟨e,_,rfl⟩:=KE.1 h;rfl
def lkK {σ:AH} {l:List At} {i mm:Nat} {M:List Int} {k:Int} {K:V→Prop} (hk:K (.b (M.contains k))) (h:Sat σ l:=by assumption)
    (hi:l[i]? =some (.map mm (W6 M)):=by first|exact UL|exact UK|exact UJ|exact UI|exact UH|exact UG):AO σ (.i .i64) (.b false) false (.m mm) (eI k) K:=
 Th h i hi rfl (Vp M) (by rw[jG];exact hk)
def ye {σ:AH} {l:List At} {i mm:Nat} {M:List Int} {k:Int} {K:AH→Prop} (hk: ∀σ',Sat σ' (l.set i (.map mm (W6 (Se M k))))→K σ') (h:Sat σ l:=by assumption)
    (hi:l[i]? =some (.map mm (W6 M)):=by first|exact UL|exact UK|exact UJ|exact UI|exact UH|exact UG):AP σ (.i .i64) (.m mm) (eI k) (.b true) K:=
 OS h i hi rfl (Vp M) (fun σ' hs=>hk σ' (by rw[mW]at hs;exact hs))
def I9 (p:Prog) (c:Nat):Qm:=p.AQ.getD (c - 3) default
def EL (p:Prog) (c:Nat):Nat→List Int
 | 0=>[]
 | k+1=>if Im (A2 p) c (c - k)then EL p c k++(I9 p (c - k)).AK else EL p c k
def rB {ps:List (List Int)} (ho:ordered ps) {n c:Nat} (hc:c<n) (k:Nat): ∀p∈par ps (c - k),0≤p∧p.toNat<(HN ps n c k).length∧p.toNat<c - k:=fun p hp=>by
 have:=ho _ _ hp;rw[LN];omega
def VK {ps:List (List Int)} (ho:ordered ps) {n c:Nat} (hc:c<n) (k b:Nat):(HN ps n c (k+1)).getD b false=((HN ps n c k).getD b false||((HN ps n c k).getD (c - k) false&&(par ps (c - k)).contains (b:Int))):=by
 rw[HN,M6 _ _ (rB ho hc k)]
def VL {ps:List (List Int)} (ho:ordered ps) {n c:Nat} (hc:c<n) (k:Nat): ∀(m:Nat) (b:Nat),c - k≤b→(HN ps n c (k+m)).getD b false=(HN ps n c k).getD b false
 | 0,_,_=>rfl
 | m + 1,b,h=>by
   rw[←Nat.add_assoc,VK ho hc,VL ho hc k m b h]
   have:(par ps (c - (k+m))).contains (b:Int)=false:=by
    cases hb:(par ps (c - (k+m))).contains (b:Int)
    ·rfl
    ·have:=ho _ _ (List.contains_iff_mem.1 hb)
     omega
   rw[this,Bool.and_false,Bool.or_false]
def fM {ps:List (List Int)} (ho:ordered ps) {n c:Nat} (hc:c<n) {k:Nat} (hk:k≤c - 2):(HN ps n c k).getD (c - k) false=Im ps c (c - k):=by
 rw[←ZK ho hc (c - k),←VL ho hc k (c - 2 - k) (c - k) (Ht _)];congr 2;omega
def QU (b:Int): ∀(l M:List Int),(l.foldl Se M).contains b=(M.contains b||l.contains b)
 | [],M=>by simp
 | x::r,M=>by
   rw[List.foldl_cons,QU b r,Vd,List.contains_cons,Bool.or_assoc]
def qH {σ:AH} {l:List At} {i mm:Nat} {M:List Int} {k:Int} {b:Bool} {K:V→Prop} (e:M.contains k=b) (hk:K (.b b)) (h:Sat σ l:=by assumption)
    (hi:l[i]? =some (.map mm (W6 M)):=by first|exact UL|exact UK|exact UJ|exact UI|exact UH|exact UG):AO σ (.i .i64) (.b false) false (.m mm) (eI k) K:=lkK (e ▸ hk) h hi
def sA (p : Prog) (c:Nat) (h10:p.AQ.length≤10) (hsl:Cw 0 p.AQ=true) (hg:Dy (A2 p)=true) (hc3:3≤c) (hc:c<3+p.AQ.length) :
    Pure Tryz.prog 325 [.a (Be p),eI c] (.l (iL ((EL p c (c - 2)).mergeSort OZ)) false):=by
 refine Pure.fit (by kernel_rfl) fun hf=>?_
 have F:=I6 hf.1;have hM:=Mx;have hG:=D6 hg;have ho:=Jk hG;have hgl:(A2 p).length=p.AQ.length:=by simp[A2]
 refine sx kZ ?_;have hs:=Sn
 conv=>whnf
 repeat'((first|(apply sq;intro K U)|(apply si;intro A B Y Z)|(apply Y;clear Z B Y A)|(apply U;clear U K)|(intro nn hnn;generalize hg:A5 _ nn _=σ;refine CN hg fun hs=>?_;clear hg)|fail)<;>conv=>whnf)
 replace hs:Sat σ [.map nn (W6 [])]:=hs
 conv=>whnf
 repeat'((first|apply st|(apply sq;intro K U)|(apply si;intro A B Y Z)|(apply Y;clear Z B Y A)|(apply U;clear U K)|refine ye (fun σ hs=>?_)|fail)<;>conv=>whnf)
 generalize nn=mm at *;replace hs:Sat σ [.map mm (W6 [(c:Int)])]:=hs
 refine C3 (c - 2) (fun k (x:List Int×V)=>[(6,x.2),(7,eI ((c:Int) - k))]) (fun k x=>[.own x.2 1 (iL (EL p c k)),.map mm (W6 x.1)])
  (fun k x=>(∀b:Nat,b<3+(A2 p).length→x.1.contains (b:Int)=(HN (A2 p) (3+(A2 p).length) c k).getD b false)∧((EI x.2).isSome=true∨(x.2= .l [] true∧EL p c k= []))∧(EL p c k).length≤4*k) ([(c:Int)],.l [] true) ?_ ⟨?_,.inr ⟨rfl,rfl⟩,by simp[EL]⟩ (FP hs 1) ?_
 ·simp[Oc,get]
  exact⟨rfl,rfl,rfl⟩
 ·intro b hb
  simp only[HN];rw[FE (by simp;omega)];by_cases hbc:b=c
  ·subst hbc;simp
  ·rw[if_neg hbc]
   have:((c:Int)==(b:Int))=false:=by simp;omega
   simp[D9,List.getElem?_replicate];split<;>simp<;>omega
 clear hs;rintro k ⟨M,v⟩ σ hk ⟨hMb,hv,hml⟩ hs;dsimp only at hMb hv hs;rcases Nat.lt_or_ge k (c - 2)with hlt|hge
 ·have hkc:M.contains ((c:Int) - k)=Im (A2 p) c (c - k):=by
   have:=hMb (c - k) (by omega);rw[fM ho (by omega) (by omega)]at this;rw[←this];congr 1;omega
  have hcl:p.AQ[(IntKind.i64.wrap ((c:Int) - k - 3)).toNat]? =some (I9 p (c - k)):=by
   rw[wrap64 (by omega) (by omega),show((c:Int) - k - 3).toNat=c - k - 3 by omega,I9,D9,EN (by omega)];rfl
  have hwi:0≤IntKind.i64.wrap ((c:Int) - k - 3):=by rw[wrap64 (by omega) (by omega)];omega
  have hw1:IntKind.i64.wrap ((c:Int) - k - 1)=(c:Int) - (k+1:Nat):=by rw[wrap64 (by omega) (by omega)];omega
  have hmt:EL p c (k+1)=if Im (A2 p) c (c - k)then EL p c k++(I9 p (c - k)).AK else EL p c k:=rfl
  have hpar:(I9 p (c - k)).parents=par (A2 p) (c - k):=by
   unfold par I9 A2;rw[if_neg (by omega),D9,D9,Q8,EN (by omega)];rfl
  have hcm:=F.2 _ (DL hcl);have hs4:=((FZ _ _ hsl).2 _ (DL hcl)).2;have hst:=fun b=>VK ho (show c<3+(A2 p).length by omega) k b
  rw[fM ho (by omega) (by omega),←hpar]at hst;generalize I9 p (c - k)=cl at *;cases hb:Im (A2 p) c (c - k)
  ·rw[hb]at hkc hmt hst
   rw[if_neg (by decide)]at hmt
   conv=>whnf
   repeat'((first|apply st|(apply sq;intro K U)|(apply si;intro A B Y Z)|(apply Y;clear Z B Y A)|(apply U;clear U K)|refine⟨rfl,?_⟩|refine qH hkc ?_|(constructor<;>intro hc<;>(try rw[hc])<;>(replace hc:=bp hc)<;>try(exfalso;omega))|clear U K)<;>conv=>whnf)
   all_goals try(exfalso;omega)
   rw[hw1];exact⟨hlt,(M,v),rfl,⟨fun b hb=>by rw[hMb b hb,hst b];simp,by rw[hmt];exact hv,by rw[hmt];omega⟩,by rw[hmt];exact hs⟩
  ·rw [hb] at hkc hmt hst
   rw[if_pos rfl]at hmt
   conv=>whnf
   repeat'((first|apply st|(apply sq;intro K U)|(apply si;intro A B Y Z)|(apply Y;clear Z B Y A)|(apply U;clear U K)|refine⟨rfl,?_⟩|refine MI ?_|refine qH hkc ?_|(constructor<;>intro hc<;>(try rw[hc])<;>(replace hc:=bp hc)<;>try(exfalso;omega))|fail)<;>conv=>whnf)
   all_goals try(exfalso;omega)
   refine Wk (J2 hs 0 rfl (by omega) DV fun v' σ hs hv'=>?_);rw[←hmt]at hs
   conv=>whnf
   repeat'((first|apply st|(apply sq;intro K U)|(apply si;intro A B Y Z)|(apply Y;clear Z B Y A)|(apply U;clear U K)|refine⟨rfl,?_⟩|refine MI ?_|fail)<;>conv=>whnf)
   refine C3 cl.parents.length (fun j (_:List Int)=>[(38,eI (Bc j))]) (fun _ M=>[.own v' 1 (iL (EL p c (k+1))),.map mm (W6 M)]) (fun j M'=>M'=(cl.parents.take j).foldl Se M) M rfl rfl hs ?_;clear hs;rintro j M' σ hj hM' hs;rcases BU cl.parents hj with⟨q,hq,hjlt⟩|hje
   ·conv=>whnf
    repeat'((first|apply st|(apply sq;intro K U)|(apply si;intro A B Y Z)|(apply Y;clear Z B Y A)|(apply U;clear U K)|refine⟨rfl,?_⟩|refine ix ?_|(refine DR (fun hc=>?_)<;>(try rw[hc])<;>clear hc)|refine ye (fun σ hs=>?_)|clear U K)<;>conv=>whnf)
    exact⟨hjlt,_,rfl,by rw[Aa hq,List.foldl_append,←hM'];rfl,hs⟩
   ·rw [BI hje]at hM'
    conv=>whnf
    repeat'((first|apply st|(apply sq;intro K U)|(apply si;intro A B Y Z)|(apply Y;clear Z B Y A)|(apply U;clear U K)|refine⟨rfl,?_⟩|(refine Ew (fun hc=>?_)<;>(try rw[hc])<;>clear hc)|clear U K)<;>conv=>whnf)
    rw[hw1];refine⟨hlt,(M',v'),rfl,⟨fun b hb=>?_,?_,?_⟩,hs⟩
    ·rw[hM',QU,hMb b hb,hst b,EW]
    ·rcases hv' with hv'|⟨rfl,he⟩
     ·exact .inl hv'
     ·rcases hv with hv|⟨hv,hm0⟩
      ·exact .inl hv
      ·refine .inr ⟨hv,?_⟩
       rw[hmt,hm0,List.map_eq_nil_iff.1 he];rfl
    ·rw[hmt,Qi];omega
 ·have hkk:k=c - 2:=by omega
  rw[hkk]at hs hv hml;clear hMb
  conv=>whnf
  repeat'((first|apply st|(apply sq;intro K U)|(apply si;intro A B Y Z)|(apply Y;clear Z B Y A)|(apply U;clear U K)|refine⟨rfl,?_⟩|(constructor<;>intro hc<;>(try rw[hc])<;>(replace hc:=bp hc)<;>try(exfalso;omega))|clear U K)<;>conv=>whnf)
  all_goals try(exfalso;omega)
  refine(oZ hv).use (rest:=[_]) hs ?_;clear hs;rintro r post σ ⟨rfl,rfl⟩ hs
  conv=>whnf
  repeat'((first|(apply sq;intro K U)|(apply si;intro A B Y Z)|(apply Y;clear Z B Y A)|(apply U;clear U K)|fail)<;>conv=>whnf)
  refine(gi _ v (by rw[List.length_mergeSort];omega)).use (rest:=[_]) hs ?_;clear hs;rintro r post σ ⟨rfl,rfl⟩ hs
  conv=>whnf
  repeat'((first|apply st|(apply Y;clear Z B Y A)|(apply U;clear U K)|fail)<;>conv=>whnf)
  exact A8 ez
def QI {p : Prog} {c:Nat} (s:Int): ∀k,s∈EL p c k↔ ∃j,j<k∧Im (A2 p) c (c - j)=true∧s∈(I9 p (c - j)).AK
 | 0=>by simp[EL]
 | k + 1 =>by
   rw[EL];have ih:=QI (p:=p) (c:=c) s k;constructor
   ·intro h
    split at h
    ·rename_i hu
     rcases FK.1 h with h|h
     ·obtain⟨j,h1,h2⟩:=ih.1 h
      exact⟨j,by omega,h2⟩
     ·exact⟨k,by omega,hu,h⟩
    ·obtain⟨j,h1,h2⟩:=ih.1 h
     exact⟨j,by omega,h2⟩
   ·rintro⟨j,h1,h2,h3⟩
    by_cases hj:j=k
    ·subst hj
     rw[if_pos h2];exact FK.2 (.inr h3)
    ·have:=ih.2 ⟨j,by omega,h2,h3⟩
     split
     ·exact FK.2 (.inl this)
     ·exact this
def VZ: ∀(l:List Int) (n s:Int),K4 n l=true→(s∈l↔n≤s∧s<n+l.length)
 | [],n,s,_=>by simp<;>omega
 | x::r,n,s,h=>by
   simp only[K4,A9,DK]at h;obtain⟨rfl,h⟩:=h;have:=VZ r (x+1) s h;rw[F7,this,K1];omega
def Rp: ∀(cs:List Qm) (i:Nat) (n s:Int),Cw n cs=true→0≤n→ ∀(j:Nat) (c:Qm),cs[j]? =some c→(s∈c.AK↔n≤s∧s<n+(Bu cs:Int)∧(BR i cs).getD (s - n).toNat 0=((i+j:Nat):Int)+3)
 | [],_,_,_,_,_,_,_,h=>by cases h
 | d ::r,i,n,s,h,h0,j,c,hj=>by
   simp only[Cw,A9,Cf]at h;obtain⟨-,-,hq,hr⟩:=h;have hm:=VZ d.AK n s hq;have hml:(Bu (d::r):Int)=d.AK.length+Bu r:=by simp[Bu]
   have hgd:n≤s→(BR i (d::r)).getD (s - n).toNat 0=if s<n+d.AK.length then(i:Int)+3 else(BR (i+1) r).getD (s - (n+d.AK.length)).toNat 0:=fun hns=>by
    simp only[BR,D9];split
    ·rw[oN (by simp;omega),List.getElem?_replicate,if_pos (by omega)]
     rfl
    ·rw[List.getElem?_append_right (by simp;omega)]
     congr 2;simp;omega
   have hout: ∀q,q∈BR (i+1) r→(3:Int)+((i+1:Nat):Int)≤q:=fun q hq=>(GM hq).1
   cases j with
   | zero=>
     simp at hj;subst hj;rw[hm,hml];constructor
     ·rintro⟨h1,h2⟩
      refine⟨h1,by omega,?_⟩;rw[hgd h1,if_pos h2];simp
     ·rintro⟨h1,h2,h3⟩
      refine⟨h1,?_⟩;rw[hgd h1]at h3;by_cases hlt:s<n+d.AK.length
      ·exact hlt
      ·rw[if_neg hlt,D9]at h3
       have hlen:(s - (n+d.AK.length)).toNat<(BR (i+1) r).length:=by rw[Ce];omega
       rw[EN hlen]at h3;have:=hout _ (List.getElem_mem hlen);simp at h3;omega
   | succ j=>
     simp at hj;have ih:=Rp r (i+1) (n+d.AK.length) s hr (by omega) j c hj;rw[ih,hml];constructor
     ·rintro⟨h1,h2,h3⟩
      refine⟨by omega,by omega,?_⟩;rw[hgd (by omega),if_neg (by omega),h3];omega
     ·rintro⟨h1,h2,h3⟩
      rw[hgd h1]at h3;by_cases hlt:s<n+d.AK.length
      ·rw[if_pos hlt]at h3;omega
      ·rw[if_neg hlt]at h3
       exact⟨by omega,by omega,by rw[h3];omega⟩
def iy {p:Prog} {c:Nat} (hsl:Cw 0 p.AQ=true) (ho:ordered (A2 p)) (hc3:3≤c) (hc:c<3+p.AQ.length) (s:Int) :
    ((EL p c (c - 2)).mergeSort OZ).contains s=(decide (0≤s)&&(decide (s<(Bu p.AQ:Int))&&hasB (AR p) (c:Int) s)):=by
 rw[Hu,List.contains_iff_mem,(List.mergeSort_perm _ OZ).mem_iff,QI];simp only[A9,Cf,hasB]
 have hown: ∀j,j<c - 2→(s∈(I9 p (c - j)).AK↔0≤s∧s<(Bu p.AQ:Int)∧CZ (AR p) s=((c - j:Nat):Int)):=fun j hj=>by
  have hcl:p.AQ[c - j - 3]? =some (I9 p (c - j)):=by
   rw[I9,D9,EN (by omega)];rfl
  have:=Rp p.AQ 0 0 s hsl (by omega) (c - j - 3) _ hcl;rw[this];simp only[Int.sub_zero,Int.zero_add,CZ,AR];constructor
  ·rintro⟨h1,h2,h3⟩;exact⟨h1,h2,by rw[h3];omega⟩
  ·rintro⟨h1,h2,h3⟩;exact⟨h1,h2,by rw[h3];omega⟩
 constructor
 ·rintro⟨j,h1,h2,h3⟩
  obtain⟨h4,h5,h6⟩:=(hown j h1).1 h3;refine⟨h4,h5,by omega,?_⟩;rw[h6];simp only[I2,F6,A9,Cf];exact .inr (.inr ⟨by omega,by simpa[AR]using h2⟩)
 ·rintro⟨h1,h2,h3,h4⟩
  have hmem:CZ (AR p) s∈BR 0 p.AQ:=by
   have hlen:s.toNat<(BR 0 p.AQ).length:=by rw[Ce];omega
   have:CZ (AR p) s=(BR 0 p.AQ)[s.toNat]:=by
    simp only[CZ,AR,D9,EN hlen];rfl
   rw[this];exact List.getElem_mem hlen
  have hb:=GM hmem
  have hup:Im (A2 p) c (CZ (AR p) s).toNat=true:=by
   simp only[I2,F6,A9,Cf,DK]at h4;rcases h4 with h4|h4|⟨_,h4⟩
   ·rw[←h4,MH];exact D2 ho c
   ·omega
   ·simpa[AR]using h4
  have hle:=fN ho _ _ hup;refine⟨c - (CZ (AR p) s).toNat,by omega,?_,?_⟩
  ·rw[show c - (c - (CZ (AR p) s).toNat)=(CZ (AR p) s).toNat by omega]
   exact hup
  ·refine(hown _ (by omega)).2 ⟨h1,h2,by omega⟩
def iw {σ:AH}:A7 Tryz.prog 283 [.b false] σ fun r σ'=>r= .Bo D3∧σ'=σ:=by
 refine gQ kZ ?_
 conv=>whnf
 repeat'((first|apply st|(apply sq;intro K U)|(apply si;intro A B Y Z)|(apply Y;clear Z B Y A)|(refine Z _ _ _ ?_;clear Z B Y A)|(apply U;clear U K)|refine Iw ?_|fail)<;>conv=>whnf)
 exact DX ⟨rfl,rfl⟩
def C0 {x:Bool} {σ:AH} {k kp:V→AH→Prop} (h1:x=true→k (.t []) σ) (h2:x=false→kp D3 σ):A7 Tryz.prog 283 [.b x] σ (qk k kp):=by
 cases x
 ·refine A7.mono iw ?_
  rintro r σ' ⟨rfl,rfl⟩;exact h2 rfl
 ·exact iv.use (h1 rfl)
def F8:Int→List Qm→Bool
 | _,[]=>true
 | n,c::r=>decide (c.AK.length≤4)&&(K4 n c.AK&&F8 (n+c.AK.length) r)
def PV: ∀(cs:List Qm) (n:Int),Cw n cs=(F8 n cs&&cs.all fun c=>decide (c.parents.length≤3))
 | [],_=>rfl
 | c::r,n=>by
   simp only[Cw,F8,SZ];rw[PV r];cases decide (c.AK.length≤4)<;>cases decide (c.parents.length≤3)<;>cases K4 n c.AK<;>simp
def Rc: ∀(cs:List Qm) (n:Int),F8 n cs=true→Bu cs≤4*cs.length
 | [],_,_=>Ht _
 | c::r,n,h=>by
   simp only[F8,A9,Cf]at h;have:=Rc r _ h.2.2;simp only[Bu,Ct,List.sum_cons,K1]at *;omega
def Vx {p:Prog} (h:Dy (A2 p)=true):(p.AQ.all fun c=>decide (c.parents.length≤3))=true:=by
 rw[Ev];intro c hc;obtain⟨i,hi⟩:=List.getElem?_of_mem hc;have:=(D6 h).2 i c.parents (by rw[A2,Q8,hi];rfl);exact decide_eq_true this.1
def Qc (p:Prog):BE p=(decide (p.AQ.length≤10)&&(F8 0 p.AQ&&((Bu p.AQ:Int)==p.AK&&(Dy (A2 p)&&GY (AR p) (Bu p.AQ) 0 p.AQ)))):=by
 rw[BE,PV];cases hg:Dy (A2 p)
 ·simp
 ·rw[Vx hg,Bool.and_true]
abbrev wu (p:Prog):R→AH→Prop:=fun r σ'=> ∃post:List At,(r=(if BE p then R.ret (.t [])else R.Bo D3)∧post= [])∧Sat σ' post
def XO {p:Prog} {σ:AH} (h:BE p=false):Af σ D3 (wu p):=DX ⟨_,⟨by rw[h];rfl,rfl⟩,Sat.nil⟩
def clsT {p:Prog} {σ:AH} {l:List At} (hs:Sat σ l) (h:BE p=true):Ap σ (.t []) (wu p):=A4 hs (MJ _) (.refl _) fun σ' hs'=>⟨_,⟨by rw[h];rfl,rfl⟩,hs'⟩
set_option maxHeartbeats 4000000 in
def Yq (p : Prog):B3 Tryz.prog 282 [.a (Be p)] [] fun r post=>r=(if BE p then R.ret (.t [])else R.Bo D3)∧post= []:=by
 intro σ hs;refine A7.fit (by kernel_rfl) fun hf=>?_
 have F:=I6 hf.1;have hcl:=F.1;have hM:=Mx;refine tW kZ ?_;have hcb:=Qc p;by_cases h10:p.AQ.length≤10
 rotate_left
 ·conv=>whnf
  repeat'((first|apply st|(apply sq;intro K U)|(apply si;intro A B Y Z)|(apply Y;clear Z B Y A)|(refine Z _ _ _ ?_;clear Z B Y A)|(apply U;clear U K)|refine⟨rfl,?_⟩|(refine C0 (fun hc=>?_) (fun hc=>?_)<;>(replace hc:=bp hc)<;>(try simp(disch:=omega) only[BT,wrap64,AN]at hc)<;>(try(exfalso;omega)))|clear U K)<;>conv=>whnf)
  all_goals try(exfalso;omega)
  exact XO (by rw[hcb];simp[h10])
 rw[decide_eq_true h10,EW]at hcb
 conv=>whnf
 repeat'((first|apply st|(apply sq;intro K U)|(apply si;intro A B Y Z)|(apply Y;clear Z B Y A)|(apply U;clear U K)|refine⟨rfl,?_⟩|(refine C0 (fun hc=>?_) (fun hc=>?_)<;>(replace hc:=bp hc)<;>(try simp(disch:=omega) only[BT,wrap64,AN]at hc)<;>(try(exfalso;omega)))|fail)<;>conv=>whnf)
 all_goals try(exfalso;omega)
 refine C3 p.AQ.length (fun k (n:Int)=>[(2,eI n),(24,eI (Bc k))]) (fun _ _=>[]) (fun k n=>F8 0 p.AQ=F8 n (p.AQ.drop k)∧0≤n∧n+Bu (p.AQ.drop k)=Bu p.AQ∧n≤4*k) 0 rfl (by simp) hs ?_;clear hs;rintro k n σ hk ⟨hn,hn0,hn1,hn2⟩ hs;rcases BU p.AQ hk with⟨c,hc,hlt⟩|hke
 ·have hcm:=(F.2 c (DL hc)).2.1
  have hms:n+(c.AK.length:Int)+Bu (p.AQ.drop (k+1))=Bu p.AQ:=by
   rw[drop_cons hc]at hn1;simp only[Bu,Ct,List.sum_cons]at hn1 ⊢;omega
  rw[drop_cons hc,F8]at hn;by_cases h4:c.AK.length≤4
  ·rw [decide_eq_true h4,EW]at hn
   conv=>whnf
   repeat'((first|apply st|(apply sq;intro K U)|(apply si;intro A B Y Z)|(apply Y;clear Z B Y A)|(apply U;clear U K)|refine⟨rfl,?_⟩|refine⟨kZ,?_⟩|refine ix ?_|refine ld ?_|refine Cg fun σ hs=>?_|(refine DR (fun hc=>?_)<;>(try rw[hc])<;>clear hc)|(refine C0 (fun hc=>?_) (fun hc=>?_)<;>(replace hc:=bp hc)<;>(try simp(disch:=omega) only[BT,wrap64,AN]at hc)<;>(try(exfalso;omega)))|(intro nn hnn;generalize hg:A5 _ nn _=σ;refine CN hg fun hs=>?_;clear hg)|fail)<;>conv=>whnf)
   all_goals try(exfalso;omega)
   refine C3 c.AK.length (fun j (m:Int)=>[(2,eI m),(36,eI (Bc j))]) (fun _ _=>[]) (fun j m=>F8 0 p.AQ=(K4 m (c.AK.drop j)&&F8 (n+c.AK.length) (p.AQ.drop (k+1)))∧m=n+j) n rfl ⟨hn,by simp⟩ (hs.take 0) ?_;clear hs hn;rintro j m σ hj ⟨hm,he⟩ hs;rcases BU c.AK hj with⟨x,hx,hjlt⟩|hje
   ·rw[drop_cons hx,K4]at hm
    conv=>whnf
    repeat'((first|apply st|(apply sq;intro K U)|(apply si;intro A B Y Z)|(apply Y;clear Z B Y A)|(refine Z _ _ _ ?_;clear Z B Y A)|(apply U;clear U K)|refine⟨rfl,?_⟩|refine ix ?_|(refine DR (fun hc=>?_)<;>(try rw[hc])<;>clear hc)|(refine C0 (fun hc=>?_) (fun hc=>?_)<;>(replace hc:=bp hc))|clear U K)<;>conv=>whnf)
    ·rw[wrap64 (by omega) (by omega)]
     rw[hc,beq_self_eq_true,EW]at hm;exact⟨hjlt,_,rfl,⟨by rw[←hc];rw[←hc]at hm;exact hm,by omega⟩,hs⟩
    ·exact XO (by rw[hcb,hm];simp[hc])
   ·rw[Au hje,K4,EW]at hm
    conv=>whnf
    repeat'((first|apply st|(apply sq;intro K U)|(apply si;intro A B Y Z)|(apply Y;clear Z B Y A)|(apply U;clear U K)|refine⟨rfl,?_⟩|(refine Ew (fun hc=>?_)<;>(try rw[hc])<;>clear hc)|clear U K)<;>conv=>whnf)
    exact⟨hlt,m,rfl,⟨by rw[hm];congr 1;omega,by omega,by omega,by omega⟩,hs⟩
  ·conv=>whnf
   repeat'((first|apply st|(apply sq;intro K U)|(apply si;intro A B Y Z)|(apply Y;clear Z B Y A)|(refine Z _ _ _ ?_;clear Z B Y A)|(apply U;clear U K)|refine⟨rfl,?_⟩|refine⟨kZ,?_⟩|refine ix ?_|refine ld ?_|refine Cg fun σ hs=>?_|(refine DR (fun hc=>?_)<;>(try rw[hc])<;>clear hc)|(refine C0 (fun hc=>?_) (fun hc=>?_)<;>(replace hc:=bp hc)<;>(try simp(disch:=omega) only[BT,wrap64,AN]at hc)<;>(try(exfalso;omega)))|(intro nn hnn;generalize hg:A5 _ nn _=σ;refine CN hg fun hs=>?_;clear hg)|clear U K)<;>conv=>whnf)
   all_goals try(exfalso;omega)
   exact XO (by rw[hcb,hn];simp[h4])
 ·have hne:n=Bu p.AQ:=by rw[Au hke]at hn1;simpa[Bu]using hn1
  rw[Au hke]at hn;have hsp:F8 0 p.AQ=true:=hn;have hml:=Rc _ _ hsp;rw[hsp,EW,←hne]at hcb;cases hgd:Dy (A2 p)
  ·rw[hgd]at hcb
   have hck:=WB (A2 p) false;rw[hgd,if_neg (by decide)]at hck;have hcF:BE p=false:=by rw[hcb];simp
   conv=>whnf
   repeat'((first|apply st|(apply sq;intro K U)|(apply si;intro A B Y Z)|(apply Y;clear Z B Y A)|(refine Z _ _ _ ?_;clear Z B Y A)|(apply U;clear U K)|refine⟨rfl,?_⟩|refine⟨kZ,?_⟩|(refine Ew (fun hc=>?_)<;>(try rw[hc])<;>clear hc)|(refine C0 (fun hc=>?_) (fun hc=>?_)<;>(replace hc:=bp hc)<;>(try simp(disch:=omega) only[BT,wrap64,AN]at hc)<;>(try(exfalso;omega))<;>(try(cases hc;done)))|refine Pure.use (Lr _ (by omega)) ?_|(constructor<;>intro hc<;>(try rw[hc])<;>(replace hc:=bp hc))|refine Pure.use (by assumption) ?_|clear U K)<;>conv=>whnf)
   all_goals exact XO hcF
  ·have hck:=WB (A2 p) false
   rw[hgd,if_pos rfl]at hck;rw[hgd,EW]at hcb;by_cases hps:n=p.AK
   ·rw [hps,beq_self_eq_true,EW,←hps]at hcb
    have hslB:Cw 0 p.AQ=true:=by rw[PV,hsp,Vx hgd];rfl
    have hG:=D6 hgd;have ho:=Jk hG;have hgl:(A2 p).length=p.AQ.length:=by simp[A2]
    conv=>whnf
    repeat'((first|apply st|(apply sq;intro K U)|(apply si;intro A B Y Z)|(apply Y;clear Z B Y A)|(apply U;clear U K)|refine⟨rfl,?_⟩|refine⟨kZ,?_⟩|(refine Ew (fun hc=>?_)<;>(try rw[hc])<;>clear hc)|(refine C0 (fun hc=>?_) (fun hc=>?_)<;>(replace hc:=bp hc)<;>(try simp(disch:=omega) only[BT,wrap64,AN]at hc)<;>(try(exfalso;omega)))|refine Pure.use (Lr _ (by omega)) ?_|(constructor<;>intro hc<;>(try rw[hc])<;>(replace hc:=bp hc)<;>try(exfalso;omega))|refine Pure.use (by assumption) ?_|clear U K)<;>conv=>whnf)
    refine C3 p.AQ.length (fun k (_:Unit)=>[(63,eI (Bc k))]) (fun _ _=>[]) (fun k _=>BE p=GY (AR p) n k (p.AQ.drop k)) () rfl hcb hs ?_;clear hs;rintro i - σ hi hn' hs;rcases BU p.AQ hi with⟨c,hc,hilt⟩|hie
    ·rw [drop_cons hc,GY]at hn'
     have hci:Bc i=i:=AN (by omega);have hw3:IntKind.i64.wrap (Bc i+3)=(i:Int)+3:=by rw[hci,wrap64 (by omega) (by omega)]
     have hlin:=rl (A2 p) false ((i:Int)+3) hgd (by omega) (by omega);have hinl:=(F.2 c (DL hc)).2.2;have hlb:lB (AR p).parents ((i:Int)+3)= !((CC (A2 p)).getD ((i:Int)+3).toNat []).isEmpty:=rfl;cases hem:((CC (A2 p)).getD ((i:Int)+3).toNat []).isEmpty
     ·rw [hem]at hlb
      rw[hlb,Bool.not_false,EW]at hn';rw[hem,if_neg (by decide),←hw3]at hlin;have hhas:=sA p (i+3) h10 hslB hgd (by omega) (by omega);have hmh:=iy hslB ho (show 3≤i+3 by omega) (show i+3<3+p.AQ.length by omega);have ei3:((i+3:Nat):Int)=(i:Int)+3:=by omega
      rw[ei3,←hw3]at hhas;rw[ei3]at hmh;generalize (EL p (i+3) (i+3 - 2)).mergeSort OZ=mine at *
      conv=>whnf
      repeat'((first|apply st|(apply sq;intro K U)|(apply si;intro A B Y Z)|(apply Y;clear Z B Y A)|(apply U;clear U K)|refine⟨rfl,?_⟩|refine⟨kZ,?_⟩|refine ix ?_|refine ld ?_|refine Cg fun σ hs=>?_|(refine DR (fun hc=>?_)<;>(try rw[hc])<;>clear hc)|(refine C0 (fun hc=>?_) (fun hc=>?_)<;>(replace hc:=bp hc)<;>(try simp(disch:=omega) only[BT,wrap64,AN]at hc)<;>(try(exfalso;omega)))|(intro nn hnn;generalize hg:A5 _ nn _=σ;refine CN hg fun hs=>?_;clear hg)|refine Pure.use (by assumption) ?_|fail)<;>conv=>whnf)
      generalize nn=mm at *;replace hs:Sat σ [.map mm (W6 [])]:=hs.take 1;refine C3 c.inits.length (fun j (_:List Int)=>[(86,eI (Bc j))]) (fun _ M=>[.map mm (W6 M)]) (fun j M=>BE p=(EM (AR p) ((i:Int)+3) n (c.inits.take j) (c.inits.drop j)&&GY (AR p) n (i+1) (p.AQ.drop (i+1)))∧ ∀s,M.contains s=(c.inits.take j).any fun y=>y.1==s) [] rfl ⟨hn',fun s=>rfl⟩ hs ?_;clear hs;rintro j M σ hj ⟨hm,hMs⟩ hs;rcases BU c.inits hj with⟨x,hx,hjlt⟩|hje
      ·have hpa:((c.inits.take j).all fun y=>y.1 != x.1)= !M.contains x.1:=by
        rw[hMs,List.all_eq_not_any_not];congr 2;funext y;simp[bne]
       have hst:BE p=((mine.contains x.1&&(!M.contains x.1&&Sr x.2))&&(EM (AR p) ((i:Int)+3) n (c.inits.take (j+1)) (c.inits.drop (j+1))&&GY (AR p) n (i+1) (p.AQ.drop (i+1)))):=by
        rw[hm,drop_cons hx,EM,hpa,hmh,←hne,Aa hx];cases decide (0≤x.1)<;>cases decide (x.1<n)<;>cases hasB (AR p) ((i:Int)+3) x.1<;>cases Sr x.2<;>cases M.contains x.1<;>simp
       have hMs': ∀s,(Se M x.1).contains s=(c.inits.take (j+1)).any fun y=>y.1==s:=fun s=>by
        rw[Vd,hMs,Aa hx,List.any_append];simp only[SY,List.any_nil,Bool.or_false];congr 1;rw[Hu];simp;exact eq_comm
       have hct:=D7 mine false x.1;have hbt:=Qe x.2;clear hmh hpa hMs hm;cases eA:mine.contains x.1<;>cases eB:M.contains x.1<;>cases eD:Sr x.2<;>rw[eA]at hct<;>rw[eD]at hbt<;>rw[eA,eB,eD]at hst
       all_goals
        conv=>whnf
        repeat'((first|apply st|(apply sq;intro K U)|(apply si;intro A B Y Z)|(apply Y;clear Z B Y A)|(refine Z _ _ _ ?_;clear Z B Y A)|(apply U;clear U K)|refine⟨rfl,?_⟩|refine⟨kZ,?_⟩|refine ix ?_|refine ld ?_|refine Cg fun σ hs=>?_|refine Iw ?_|refine GS ?_|(refine DR (fun hc=>?_)<;>(try rw[hc])<;>clear hc)|(refine C0 (fun hc=>?_) (fun hc=>?_)<;>(replace hc:=bp hc)<;>(try simp(disch:=omega) only[BT,wrap64,AN]at hc)<;>(try(cases hc;done)))|refine qH eB ?_|refine ye (fun σ hs=>?_)|(intro nn hnn;generalize hg:A5 _ nn _=σ;refine CN hg fun hs=>?_;clear hg)|refine Pure.use (by assumption) ?_|clear U K)<;>conv=>whnf)
       all_goals first
        | exact⟨hjlt,_,rfl,⟨hst,hMs'⟩,hs.less (K0 _ _)⟩
        | exact XO (by rw[hst];rfl)
      ·rw[Au hje,EM,EW]at hm
       conv=>whnf
       repeat'((first|apply st|(apply sq;intro K U)|(apply si;intro A B Y Z)|(apply Y;clear Z B Y A)|(apply U;clear U K)|refine⟨rfl,?_⟩|(refine Ew (fun hc=>?_)<;>(try rw[hc])<;>clear hc)|clear U K)<;>conv=>whnf)
       exact⟨hilt,(),rfl,hm,hs.take 0⟩
     ·rw[hem]at hlb
      rw[hem,if_pos rfl,←hw3]at hlin;have hcF:BE p=false:=by rw[hn',hlb];rfl
      conv=>whnf
      repeat'((first|apply st|(apply sq;intro K U)|(apply si;intro A B Y Z)|(apply Y;clear Z B Y A)|(refine Z _ _ _ ?_;clear Z B Y A)|(apply U;clear U K)|refine⟨rfl,?_⟩|refine⟨kZ,?_⟩|refine ix ?_|refine Cg fun σ hs=>?_|(refine DR (fun hc=>?_)<;>(try rw[hc])<;>clear hc)|(refine C0 (fun hc=>?_) (fun hc=>?_)<;>(replace hc:=bp hc)<;>(try(exfalso;omega)))|(intro nn hnn;generalize hg:A5 _ nn _=σ;refine CN hg fun hs=>?_;clear hg)|refine Pure.use (by assumption) ?_|clear U K)<;>conv=>whnf)
      all_goals exact XO hcF
    ·conv=>whnf
     repeat'((first|apply st|(apply sq;intro K U)|(apply si;intro A B Y Z)|(apply Y;clear Z B Y A)|(apply U;clear U K)|refine⟨rfl,?_⟩|(refine Ew (fun hc=>?_)<;>(try rw[hc])<;>clear hc)|clear U K)<;>conv=>whnf)
     exact clsT hs (by rw[hn',Au hie];rfl)
   ·have hcF:BE p=false:=by rw[hcb];simp[hps]
    conv=>whnf
    repeat'((first|apply st|(apply sq;intro K U)|(apply si;intro A B Y Z)|(apply Y;clear Z B Y A)|(refine Z _ _ _ ?_;clear Z B Y A)|(apply U;clear U K)|refine⟨rfl,?_⟩|refine⟨kZ,?_⟩|(refine Ew (fun hc=>?_)<;>(try rw[hc])<;>clear hc)|(refine C0 (fun hc=>?_) (fun hc=>?_)<;>(replace hc:=bp hc)<;>(try simp(disch:=omega) only[BT,wrap64,AN]at hc)<;>(try(cases hc;done)))|refine Pure.use (Lr _ (by omega)) ?_|(constructor<;>intro hc<;>(try rw[hc])<;>(replace hc:=bp hc)<;>try(exfalso;omega))|clear U K)<;>conv=>whnf)
    all_goals exact XO hcF
def ba (f : Fact):O3 f=true→Pure Tryz.prog 288 [.a (xF f)] (eI (BQ f)):=by
 induction f using Fact.ind with
 | h f ih=>
   intro ha;refine Pure.fit (by kernel_rfl) fun hf=>?_
   have⟨h2,h3,h4⟩:=J5 hf.1;have hM:=Mx;rw[Lw]at ha;simp only[A9,Cf,List.all_map,Ev]at ha;refine tR kZ ?_;have hs:=Sn;by_cases hlf:Bj f=true
   ·have hlo:=GK hlf
    have hw:IntKind.i64.wrap (f.arg+1)=f.arg+1:=wrap64 (by omega) (by omega)
    conv=>whnf
    repeat'((first|apply st|(apply sq;intro K U)|(apply si;intro A B Y Z)|(apply Y;clear Z B Y A)|(apply U;clear U K)|refine⟨rfl,?_⟩|(constructor<;>intro hc<;>(try rw[hc])<;>(replace hc:=bp hc)<;>try(exfalso;omega))|fail)<;>conv=>whnf)
    all_goals try(exfalso;omega)
    all_goals
     refine C3 f.kids.length (fun k (_:Unit)=>[(3,eI (((f.kids.take k).map BQ).foldl EY (if Bj f then f.arg+1 else 0))),(25,eI (Bc k))]) (fun _ _=>[]) (fun _ _=>True) () (by rw[hw,if_pos hlf];rfl) trivial hs ?_;clear hs;rintro k - σ hk - hs;rcases BU f.kids hk with⟨x,hx,hlt⟩|hke
     ·have hxs:=ih x (DL hx) (ha.2 x (DL hx))
      conv=>whnf
      repeat'((first|apply st|(apply sq;intro K U)|(apply si;intro A B Y Z)|(apply Y;clear Z B Y A)|(apply U;clear U K)|refine⟨rfl,?_⟩|refine⟨kZ,?_⟩|refine UR ?_|refine ld ?_|refine Cg fun σ hs=>?_|(refine DR (fun hc=>?_)<;>(try rw[hc])<;>clear hc)|(intro nn hnn;generalize hg:A5 _ nn _=σ;refine CN hg fun hs=>?_;clear hg)|refine Pure.use (by assumption) ?_|clear U K)<;>conv=>whnf)
      exact⟨hlt,(),by rw[Ee _ _ _ hx];rfl,trivial,hs.take 0⟩
     ·conv=>whnf
      repeat'((first|apply st|(apply sq;intro K U)|(apply si;intro A B Y Z)|(apply Y;clear Z B Y A)|(apply U;clear U K)|refine⟨rfl,?_⟩|(refine Ew (fun hc=>?_)<;>(try rw[hc])<;>clear hc)|clear U K)<;>conv=>whnf)
      exact AI (by rw[BI hke,←B4])
   ·have hlo:f.op≠2∧f.op≠3∧f.op≠4:=by
     simp only[Bj,F6,DK]at hlf;omega
    conv=>whnf
    repeat'((first|apply st|(apply sq;intro K U)|(apply si;intro A B Y Z)|(apply Y;clear Z B Y A)|(apply U;clear U K)|refine⟨rfl,?_⟩|(constructor<;>intro hc<;>(try rw[hc])<;>(replace hc:=bp hc)<;>try(exfalso;omega))|fail)<;>conv=>whnf)
    all_goals try(exfalso;omega)
    all_goals
     refine C3 f.kids.length (fun k (_:Unit)=>[(3,eI (((f.kids.take k).map BQ).foldl EY (if Bj f then f.arg+1 else 0))),(25,eI (Bc k))]) (fun _ _=>[]) (fun _ _=>True) () (by rw[if_neg hlf];rfl) trivial hs ?_;clear hs;rintro k - σ hk - hs;rcases BU f.kids hk with⟨x,hx,hlt⟩|hke
     ·have hxs:=ih x (DL hx) (ha.2 x (DL hx))
      conv=>whnf
      repeat'((first|apply st|(apply sq;intro K U)|(apply si;intro A B Y Z)|(apply Y;clear Z B Y A)|(apply U;clear U K)|refine⟨rfl,?_⟩|refine⟨kZ,?_⟩|refine UR ?_|refine ld ?_|refine Cg fun σ hs=>?_|(refine DR (fun hc=>?_)<;>(try rw[hc])<;>clear hc)|(intro nn hnn;generalize hg:A5 _ nn _=σ;refine CN hg fun hs=>?_;clear hg)|refine Pure.use (by assumption) ?_|clear U K)<;>conv=>whnf)
      exact⟨hlt,(),by rw[Ee _ _ _ hx];rfl,trivial,hs.take 0⟩
     ·conv=>whnf
      repeat'((first|apply st|(apply sq;intro K U)|(apply si;intro A B Y Z)|(apply Y;clear Z B Y A)|(apply U;clear U K)|refine⟨rfl,?_⟩|(refine Ew (fun hc=>?_)<;>(try rw[hc])<;>clear hc)|clear U K)<;>conv=>whnf)
      exact AI (by rw[BI hke,←B4])
def b7 (p:Prog) (x:Node) (size:Int):Pure Tryz.prog 286 [.a (Be p),.a (I8 x),eI size] (.b (MS p x size)):=by
 refine Pure.fit (by kernel_rfl) fun hf=>?_
 have⟨p1,p2,p3,p4⟩:=GD hf.1;have hM:=Mx;have hw:IntKind.i64.wrap (3+((p.AQ.map Ui).length:Nat))=3+(p.AQ.length:Int):=by rw[BT,wrap64 (by omega) (by omega)]
 refine tT kZ ?_;have hs:=Sn
 conv=>whnf
 repeat'((first|apply st|(apply sq;intro K U)|(apply si;intro A B Y Z)|(apply Y;clear Z B Y A)|(apply U;clear U K)|refine⟨rfl,?_⟩|refine Pure.use (Qe _) ?_|(constructor<;>intro hc<;>(try rw[hc])<;>(replace hc:=bp hc))|clear U K)<;>conv=>whnf)
 all_goals first
  | (refine AI ?_;simp[MS, *];done)
  | (refine AI ?_;simp[MS, *];omega)
  | (refine AI ?_;rw[hw];simp[MS, *];done)
  | (refine AI ?_;congr 1;rw[Hu];simp[MS, *];omega)
def rY (n:Nat) (hn:n≤120):Pure Tryz.prog 239 [.i .u64 1,eU n] (.t [.i .u64 0,eU n]):=by
 refine tv kZ ?_;have hs:=Sn
 conv=>whnf
 repeat'((first|apply st|(apply sq;intro K U)|(apply si;intro A B Y Z)|(apply Y;clear Z B Y A)|(apply U;clear U K)|refine⟨rfl,?_⟩|refine⟨(by decide:(0:Int)≤_),?_⟩|fail)<;>conv=>whnf)
 have ea: ∀m:Nat,m≤120→bits .and .u64 (m:Int) 4294967295=(m:Int):=fun m hm=>by
  have:=Lu (a:=m) (b:=4294967295) (by omega) (by decide)
  have e:m&&&4294967295=m:=by
   have:=Nat.and_two_pow_sub_one_eq_mod m 32;rw[show 2 ^ 32 - 1=4294967295 from rfl]at this;rw[this];omega
  rw[e]at this;exact this
 have e0:=ea 0 (by omega);have e1:=ea 1 (by omega);have en:=ea n hn
 have ef: ∀m:Nat,m≤120→(m:Int).fdiv (2 ^ min (Int.toNat 32) IntKind.u64.bits)=0:=fun m hm=>by
  have:=ZO (a:=m) (c:=32) (by decide);rw[show(Int.toNat 32)=32 from rfl,this,Nat.shiftRight_eq_div_pow];have:m / 2 ^ 32=0:=Nat.div_eq_of_lt (by omega);rw[this];rfl
 have f0:=ef 0 (by omega);have f1:=ef 1 (by omega);have fn:=ef n hn;have w0:IntKind.u64.wrap 0=0:=rfl;have wn:IntKind.u64.wrap (n:Int)=n:=Hc (by omega);simp only[Int.natCast_zero,Int.natCast_one,Int.cast_ofNat_Int]at e0 e1 f0 f1;simp only[e0,e1,en,f0,f1,fn,w0,wn,Int.zero_mul,Int.mul_zero,Int.zero_add,Int.add_zero,Int.one_mul];exact AI rfl
def rZ (n:Nat) (hn:n≤120):Pure Tryz.prog 160 [.i .u64 1,eU n] (.t [.i .u64 0,eU n]):=by
 refine uv kZ ?_;have hs:=Sn
 conv=>whnf
 repeat'((first|apply st|(apply sq;intro K U)|(apply si;intro A B Y Z)|(apply Y;clear Z B Y A)|(apply U;clear U K)|refine Pure.use (rY n hn) ?_|fail)<;>conv=>whnf)
 all_goals exact AI rfl
end Go.Gl
namespace Go.Gl
variable {P:Program} {σ:AH}
def yu {n sz len cap:Nat} {ki:IntKind} {j:Int} {K:V→AH→Prop} (h:K (.sv n sz j.toNat ((len:Int) - j).toNat) σ) (h0:0≤j:=by omega) (h1:j≤(len:Int):=by omega):AS σ sz (.sl n len cap) (some (.i ki j)) none none K:=by
 unfold AS;simp only[Ql];exact⟨h0,h1,Int.le_refl _,h⟩
def yv {n sz len cap:Nat} {ki:IntKind} {j:Int} {K:V→AH→Prop} (h:K (.sv n sz 0 j.toNat) σ) (h0:0≤j:=by omega) (h1:j≤(len:Int):=by omega):AS σ sz (.sl n len cap) none (some (.i ki j)) none K:=by
 unfold AS;simp only[Ql];refine⟨Int.le_refl _,h0,h1,?_⟩;simpa using h
def xZ {l:List At} (h:Sat σ l) (i:Nat) {n len cap sz:Nat} {es ys:List (List V)} {f:Bool} {K:V→AH→Prop} (hi:l[i]? =some (.own (.sl n len cap) sz es)) (hle:ys.length≤es.length) (hys: ∀e∈ys,e.length=sz) (ho: ∀e∈ys,∀v∈e,CO v=true)
    (hk: ∀σ',Sat σ' (l.set i (.own (.sl n len cap) sz (ys++es.drop ys.length)))→K (.i .i64 (ys.length:Nat)) σ'):Ad σ sz (.sl n len cap) (.l ys f) K:=by
 rcases h.get hi with⟨h1,_⟩|⟨n',cap',h1,hn⟩
 ·cases h1
 cases h1;unfold Ad;refine⟨hys,ho,?_⟩;simp only[Oe,hn];have hm:min ys.length es.length=ys.length:=Nat.min_eq_left hle;refine⟨trivial,by omega,?_⟩;rw[hm];refine hk _ ?_;simp only[List.take_zero,List.nil_append,List.take_length,G7];refine h.change hi (fun b hb ha=>Fq hb fun m hm=>?_) (fun b hb ha m hm=>ha m hm) (.inr ⟨n,cap,by simp;omega,by simp[A5]⟩);rw[Cl];intro e;subst e;exact ha m rfl hm
def xY {l:List At} (h:Sat σ l) (i:Nat) {n len cap sz a b c:Nat} {es:List (List V)} {K:V→AH→Prop} (hi:l[i]? =some (.own (.sl n len cap) sz es)) (hbc:a+b≤es.length) (hc:c≤es.length) (hys: ∀e∈es,e.length=sz) (ho: ∀e∈es,∀v∈e,CO v=true)
    (hk: ∀σ',Sat σ' (l.set i (.own (.sl n len cap) sz (es.take a++((es.take c).take (min c b)++es.drop (a+min c b)))))→K (.i .i64 (min c b:Nat)) σ'):Ad σ sz (.sv n sz a b) (.sv n sz 0 c) K:=by
 rcases h.get hi with⟨h1,_⟩|⟨n',cap',h1,hn⟩
 ·cases h1
 cases h1;unfold Ad;simp only[rowsOf,hn];have hl:((es.drop 0).take c).length=c:=by simp;omega
 refine⟨trivial,trivial,by omega,fun e he v hv=>ho e (List.mem_of_mem_take (by simpa using he)) v hv,trivial,?_⟩;simp only[Oe,hn,List.drop_zero];refine⟨trivial,by omega,?_⟩;have hl2:(es.take c).length=c:=by simp;omega
 rw[hl2];refine hk _ ?_;refine h.change hi (fun b hb ha=>Fq hb fun m hm=>?_) (fun b hb ha m hm=>ha m hm) (.inr ⟨n,cap,by simp;omega,by simp[A5]⟩);rw[Cl];intro e;subst e;exact ha m rfl hm
end Go.Gl
