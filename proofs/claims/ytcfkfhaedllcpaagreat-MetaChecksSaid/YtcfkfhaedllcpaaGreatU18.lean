import Derived.Test.YtcfkfhaedllcpaaGreatU12
import Derived.Test.YtcfkfhaedllcpaaGreatU14
import Derived.Test.YtcfkfhaedllcpaaGreatU15
import Derived.Test.YtcfkfhaedllcpaaGreatU16
import Derived.Test.YtcfkfhaedllcpaaGreatU17
set_option linter.all false
set_option linter.defProp false
set_option maxHeartbeats 8000000
noncomputable section
namespace Go.Gl
open Go.Proofs
attribute [local irreducible] BD A3 Au AS AL Ao AU AV AM An AP AT BF BM Sat Af BK Aw W
abbrev Ord:=Int×V×List Int
def Xk (e:Ord):V×V:=(eI e.1,e.2.1)
def Ur (e:Ord):At:= .own e.2.1 1 (iL e.2.2)
abbrev pL (ps:List (List Int×Bool)):List (List V):=ps.map fun p=>[.l (iL p.1) p.2]
abbrev gH (n mm:Nat) (vp vu:V) (ps:List (List Int×Bool)) (us:List Nat) (M:List Ord):List At:=
 .box n [vp,vu,.m mm]:: .own vp 1 (pL ps):: .own vu 1 (us.map fun u=>[eU u]):: .map mm (M.map Xk)::M.map Ur
def Bf (M:List Ord) (c:Int):List Int:=((M.find? fun e=>c==e.1).map fun e=>e.2.2).getD []
def Gd (M:List Ord) (c:Int):V:=((M.find? fun e=>c==e.1).map fun e=>e.2.1).getD (.l [] true)
def Wx (M:List Ord) (c:Int):found (.l [] true) false (C7 (eI c) (M.map Xk))=Gd M c:=by
 induction M with
 | nil=>rfl
 | cons e r ih=>
   simp only[Fw,Xk,C7,Gd,List.find?_cons]at *;have he:D9 (eI c) (eI e.1)=(c==e.1):=rfl;rw[he];cases c==e.1
   .exact ih
   .rfl
def Qz (M:List Ord): ∀kv∈M.map Xk,BB (.i .i64) kv.1=true:=by
 intro kv h;obtain⟨e,_,rfl⟩:=Ol.1 h;rfl
def Yk {M:List Ord} {c:Int} (v:V) (l:List Int) (h: ∀e∈M,e.1≠c):D6 (eI c) v (M.map Xk)=(M++[(c,v,l)]).map Xk:=by
 induction M with
 | nil=>rfl
 | cons e r ih=>
   simp only[Fw,List.cons_append,Xk,D6];have he:D9 (eI c) (eI e.1)=(c==e.1):=rfl;rw[he,beq_false_of_ne (fun e'=>h e (.head _) e'.symm)];simp only[cond_false];rw[ih fun e he=>h e (.tail _ he)]
def LO (M:List Ord) (c:Int):(Bf M c= []/\Gd M c= .l [] true)\/ ∃j:Nat,(M.map Ur)[j]? =some (At.own (Gd M c) 1 (iL (Bf M c))):=by
 unfold Bf Gd;cases h:M.find? fun e=>c==e.1 with
 | none=>exact .inl ⟨rfl,rfl⟩
 | some e=>
   refine .inr ?_;obtain⟨j,hj⟩:=List.getElem?_of_mem (List.mem_of_find?_eq_some h);refine⟨j,?_⟩;rw[NX,hj];rfl
def LP {M:List Ord} {c:Int} {Z:AE} {fx:List At} (hs:Sat Z (fx++M.map Ur)) (hl:(Bf M c).length<=AX) {K:V->Prop} (hk:K (.i .i64 (Bf M c).length)):BK (Gd M c) K:=by
 rcases LO M c with⟨h1,h2⟩|⟨j,hj⟩
 .rw[h2]
  rw[h1]at hk;exact Hb hk
 .have hj':(fx++M.map Ur)[fx.length+j]? =some (At.own (Gd M c) 1 (iL (Bf M c))):=by
   rw[List.getElem?_append_right (by omega),Nat.add_sub_cancel_left,hj]
  exact gJ hs _ hj' (by simpa using hl) (by simpa using hk)
def jP {Z:AE} {l:List At} {i mm:Nat} {M:List Ord} {c:Int} {K:V->Prop} (hk:K (Gd M c)) (h:Sat Z l:=by assumption)
    (hi:l[i]? =some (.map mm (M.map Xk)):=by first|exact ML|exact MK|exact MJ|exact MI|exact MH|exact MG):AP Z (.i .i64) (.l [] true) false (.m mm) (eI c) K:=
 Ss h i hi rfl (Qz M) (by rw[Wx];exact hk)
def iW {M:List Ord} {c:Int} {Z:AE} {fx:List At} (hs:Sat Z (fx++M.map Ur)) (hl:(Bf M c).length<=AX) (hne:Bf M c≠[]) {k kp:V->AE->Prop} (hk: ∀Z',Sat Z' (fx++M.map Ur)->k (.l (iL ((Bf M c).filter (· != 0))) false) Z'):BD zP 381 [Gd M c] Z (qk k kp):=by
 rcases LO M c with⟨h1,h2⟩|⟨j,hj⟩
 .exact absurd h1 hne
 .have hj':(fx++M.map Ur)[fx.length+j]? =some (At.own (Gd M c) 1 (iL (Bf M c))):=by
   rw[List.getElem?_append_right (by omega),Nat.add_sub_cancel_left,hj]
  refine(XV (Bf M c) (Gd M c) hl).Zn hs hj' ?_;rintro r Z' rfl hs';exact hk Z' hs'
def P9 {Z Z2:AE}: ∀ {a a' b b':List (List V)},DU Z Z2 a a'->DU Z Z2 b b'->DU Z Z2 (a++b) (a'++b')
 | [],[],_,_,.nil,h=>h
 | _::_,_::_,_,_,.cons h1 h2,h=> .cons h1 (P9 h2 h)
def Wr (n mm:Nat) (vp vu:V) (ps:List (List Int×Bool)) (us:List Nat) (M:List Ord) (c:Int) (l:List Int) (b:Bool) (hc0:0<=c) (hl:ps[c.toNat]? =some (l,b)) (hll:l.length<=3) (hol: ∀c,(Bf M c).length<=AX) :
    Cl zP 360 [.p n 0,eI c] (gH n mm vp vu ps us M) fun r post=>r= .ret (if l.any fun p=>(Bf M p).isEmpty then .t [.l [] true,.b false]else .t [.l (Df (l.map (fun p=>(Bf M p).filter (· != 0))++[l])) false,.b true])/\post=gH n mm vp vu ps us M:=by
 intro Z hs;have hM:=Mx;have hci:c<ps.length:=by have:=(KT.1 hl).1;omega
 refine dI kZ ?_;refine zz ?_;(repeat clear U K);repeat intro K U
 refine Cc l.length (fun k v=>[(6,v),(17,eI (BU k))]) (fun k v=> .own v 1 (Df ((l.take k).map fun p=>(Bf M p).filter (· != 0)))::gH n mm vp vu ps us M) (fun k _=>((l.take k).any fun p=>(Bf M p).isEmpty)=false) (.l [] true) rfl rfl (IQ hs 1) ?_;clear hs;rintro k v Z hk hne hs;rcases Bd l hk with⟨p,hp,hlt⟩|hke
 .have han:((l.take (k+1)).any fun p=>(Bf M p).isEmpty)=(Bf M p).isEmpty:=by rw[Aa hp,List.any_append,hne];simp
  have hap:(l.take k).length<=3:=by rw[Uv];omega
  conv=>whnf
  repeat'((first|clear U K|apply st|(apply zk;intro K U)|refine zY ?_|refine jP ?_|refine LP (fx:=_::_::_::_::_:: []) hs (hol _) ?_|refine za (fun hc=>?_) fun hc=>?_|fail)<;>conv=>whnf)
  .have h0:(Bf M p).isEmpty=true:=by rw[List.isEmpty_iff_length_eq_zero];omega
   have hany:(l.any fun p=>(Bf M p).isEmpty)=true:=Ut.2 ⟨p,Dx hp,h0⟩;refine A4 (l':=gH n mm vp vu ps us M) hs (Uu _ _) (.refl _) fun Z' hs'=>⟨_,⟨?_,rfl⟩,hs'⟩
   rw[if_pos hany]
  .have h0:(Bf M p).isEmpty=false:=by
    cases h:(Bf M p).isEmpty
    .rfl
    .rw[List.isEmpty_iff_length_eq_zero]at h;omega
   refine iW (fx:=_::_::_::_::_:: []) hs (hol _) (fun e=>by rw[e]at h0;cases h0) fun Z hs=>?_
   conv=>whnf
   repeat'((first|clear U K|apply st|(apply zk;intro K U)|refine zY ?_|refine aq fun v Z hs hsl=>?_|fail)<;>conv=>whnf)
   refine⟨hlt,_,rfl,by rw[han];exact h0,?_⟩;rw[Aa hp,R8];exact hs
 .rw[BN hke]at hne hs
  refine zz ?_;(repeat clear U K);repeat intro K U
  refine hAppend hs 0 rfl (by simp;omega) (fun e he=>by simp at he;subst he;rfl) (fun e he v hv=>by simp at he;subst he;simp at hv;subst hv;rfl) fun v Z hs=>?_
  refine zz ?_;(repeat clear U K);repeat intro K U
  obtain⟨Z2,h1,h2,h3⟩:=cM (es':=Df (l.map (fun p=>(Bf M p).filter (· != 0))++[l])) hs 0 rfl fun Z2=>by
   have e:Df (l.map (fun p=>(Bf M p).filter (· != 0))++[l])=Df (l.map fun p=>(Bf M p).filter (· != 0))++[[.l (iL l) false]]:=by simp only[Df,R8,Fw,List.map_nil]
   rw[e];exact P9 (NT _) (.cons (.cons VR .nil) .nil)
  refine HD h1 (.t (.cons h2 (.cons (.refl _) .nil))) ⟨_,⟨?_,rfl⟩,h3⟩;rw[hne,if_neg (by decide)]
def Sat.jc {Z:AE} {l:List At} {a:At} (h:Sat Z (a::l)):Sat Z (l++[a]):=h.perm (by
 have:=fj (l₁:=[a]) (l₂:=l)
 simpa using this)
def CL (M:List Ord) (l:List Int):List (List Int):=l.map (fun p=>(Bf M p).filter (· != 0))++[l]
def FE (M:List Ord) (l:List Int) (c:Int):List Int:=
 if c=0 then [0]else if l.any (fun p=>(Bf M p).isEmpty)then []else if(Bl (CL M l)).2 then [c]++(Bl (CL M l)).1++[0]else []
def Sw (n mm:Nat) (vp vu:V) (ps:List (List Int×Bool)) (us:List Nat) (M:List Ord) {c:Int} {v:V} {l:List Int} (hk: ∀e∈M,e.1≠c) {Z:AE}
    (hs:Sat Z (.own v 1 (iL l):: .box n [vp,vu,.m mm]:: .own vp 1 (pL ps):: .own vu 1 (us.map fun u=>[eU u]):: .map mm (D6 (eI c) v (M.map Xk))::M.map Ur)):Sat Z (gH n mm vp vu ps us (M++[(c,v,l)])):=by
 rw[Yk v l hk]at hs;have:=hs.jc;unfold gH;rw[R8 (f:=Ur)];exact this
def Wf (n mm:Nat) (vp vu:V) (ps:List (List Int×Bool)) (us:List Nat) (M:List Ord) (c:Int) (l:List Int) (b:Bool) (hc0:0<=c) (hl:ps[c.toNat]? =some (l,b)) (hll:l.length<=3) (hol: ∀c,(Bf M c).length<=AX) (hk: ∀e∈M,e.1≠c)
    (hok:JI (CL M l)) (ht:total (CL M l)<1000000000) :
    Cl zP 328 [.p n 0,eI c] (gH n mm vp vu ps us M) fun r post=>r= .ret (.t [])/\ ∃M',post=gH n mm vp vu ps us M'/\((M'=M/\FE M l c= [])\/ ∃v,M'=M++[(c,v,FE M l c)]/\FE M l c≠[]):=by
 intro Z hs;have hM:=Mx;refine dS kZ ?_;by_cases hc:c=0
 .subst hc
  conv=>whnf
  repeat'((first|clear U K|apply st|(apply zk;intro K U)|refine zY ?_|(refine zb (fun hc=>?_) (fun hc=>?_)<;>try exact⟨⟩)|fail)<;>conv=>whnf)
  refine OL hs 3 rfl rfl (Qz M) fun Z hs=>?_
  refine zz ?_;(repeat clear U K);repeat intro K U
  refine A4 (l':=gH n mm vp vu ps us (M++[(0,.l [[eI 0]] true,[0])])) ?_ (List.Sublist.refl _) (.refl _) fun Z' hs'=>⟨_,⟨rfl,_,rfl,.inr ⟨.l [[eI 0]] true,?_,?_⟩⟩,hs'⟩
  .refine Sw n mm vp vu ps us M hk ?_
   exact Zw hs (fun e he=>by simp at he;subst he;rfl)
  .rw[FE,if_pos rfl]
  .rw[FE,if_pos rfl];exact fun e=>by cases e
 .have hoc:FE M l c=if l.any (fun p=>(Bf M p).isEmpty)then []else if(Bl (CL M l)).2 then [c]++(Bl (CL M l)).1++[0]else []:=by rw[FE,if_neg hc]
  have hli:=Wr n mm vp vu ps us M c l b hc0 hl hll hol;have hmg:=Wn (CL M l) false hok (by omega);have hml:=GF (total (CL M l)) (CL M l) [];have hml2:(Bl (CL M l)).1.length<=total (CL M l):=by simpa[Bl]using hml
  cases hany:l.any fun p=>(Bf M p).isEmpty
  .rw[hany,if_neg (by decide)]at hoc
   simp only[hany,Of,if_false]at hli;have hdn: ∀ {Z:AE} {M':List Ord},Sat Z (gH n mm vp vu ps us M')->((M'=M/\FE M l c= [])\/ ∃v,M'=M++[(c,v,FE M l c)]/\FE M l c≠[])->A3 Z (.t []) fun r Z'=> ∃post,(r= .ret (.t [])/\ ∃M',post=gH n mm vp vu ps us M'/\((M'=M/\FE M l c= [])\/ ∃v,M'=M++[(c,v,FE M l c)]/\FE M l c≠[]))/\Sat Z' post:=fun hs h=>A4 hs (List.Sublist.refl _) (.refl _) fun Z' hs'=>⟨_,⟨rfl,_,rfl,h⟩,hs'⟩
   conv=>whnf
   repeat'((first|clear U K|apply st|(apply zk;intro K U)|refine zY ?_|(refine zb (fun hc=>?_) (fun hc=>?_)<;>try exact⟨⟩)|fail)<;>conv=>whnf)
   refine hli.use (rest:=[]) (by simpa using hs) ?_;clear hs;rintro r post Z ⟨rfl,rfl⟩ hs;rw[Qi]at hs;have hml3:(CL M l)=l.map (fun p=>(Bf M p).filter (· != 0))++[l]:=rfl;rw[<-hml3];generalize CL M l=ll at *;cases hb:(Bl ll).2<;>rw[hb]at hmg hoc
   .conv=>whnf
    repeat'((first|clear U K|apply st|(apply zk;intro K U)|refine zY ?_|refine zC ?_|fail)<;>conv=>whnf)
    exact hdn hs (.inl ⟨rfl,by rw[hoc];rfl⟩)
   .rw[if_pos rfl]at hoc
    conv=>whnf
    repeat'((first|clear U K|apply st|(apply zk;intro K U)|refine zY ?_|refine zC ?_|fail)<;>conv=>whnf)
    replace hs:=Zw hs (sz:=1) (es:=[[eI c]]) (fun e he=>by simp at he;subst he;rfl);refine PD hs 0 (xs:=[c]) (ys:=(Bl ll).1) rfl (by simp;omega) B8 fun v Z hs=>?_
    conv=>whnf
    repeat'((first|apply st|refine zY ?_|refine rk ?_ ?_|exact fun s e=>by cases e;rfl|refine aq fun v Z hs hsl=>?_|fail)<;>conv=>whnf)
    refine OL hs 4 rfl rfl (Qz M) fun Z hs=>?_
    refine zz ?_;(repeat clear U K);repeat intro K U
    refine hdn (Sw n mm vp vu ps us M hk (l:=FE M l c) ?_) (.inr ⟨v,rfl,by rw[hoc];simp⟩);rw[hoc];exact hs
  .rw[hany,if_pos rfl]at hoc
   simp only[hany,if_true]at hli
   conv=>whnf
   repeat'((first|clear U K|apply st|(apply zk;intro K U)|refine zY ?_|(refine zb (fun hc=>?_) (fun hc=>?_)<;>try exact⟨⟩)|fail)<;>conv=>whnf)
   refine hli.use (rest:=[]) (by simpa using hs) ?_;clear hs;rintro r post Z ⟨rfl,rfl⟩ hs;rw[Qi]at hs;refine zz ?_;(repeat clear U K);repeat intro K U
   exact A4 hs (List.Sublist.refl _) (.refl _) fun Z' hs'=>⟨_,⟨rfl,_,rfl,.inl ⟨rfl,hoc⟩⟩,hs'⟩
end Go.Gl
namespace Go.Gl
def T0 {M:List Ord} {k:Int} {v:V} {o:List Int} (h: ∀e∈M,e.1<k) (d:Int):Bf (M++[(k,v,o)]) d=if d=k then o else Bf M d:=by
 unfold Bf;rw[List.find?_append];split
 .rename_i e
  have:M.find? (fun e=>d==e.1)=none:=by
   rw[List.find?_eq_none];intro x hx;have:=h x hx;simp;omega
  rw[this];simp[e]
 .rename_i e
  cases hf:M.find? fun e=>d==e.1 with
  | some x=>simp
  | none=>simp[List.find?_cons,e]
structure GV (g:List (List Int)) (k:Nat) (M:List Ord):Prop where
 keys: ∀e∈M,0<=e.1/\e.1<(k:Int)
 U5: ∀d:Int,0<=d->d<k->Bf M d=(Be g).getD d.toNat []
def Pf {g:List (List Int)} {k:Nat} {M:List Ord} (h:GV g k M) {d:Int} (hd:d<0\/(k:Int)<=d):Bf M d= []:=by
 unfold Bf
 have:M.find? (fun e=>d==e.1)=none:=by
  rw[List.find?_eq_none];intro x hx;have:=h.keys x hx;simp;omega
 rw[this];rfl
def Is {g:List (List Int)} (hg:GN g) {k:Nat} {M:List Ord} (h:GV g k M) (d:Int):(Bf M d).length<=71744535/\ ∀x∈Bf M d,(0:Int)<=x:=by
 by_cases hd:d<0\/(k:Int)<=d
 .rw[Pf h hd]
  exact⟨by simp,fun x hx=>by cases hx⟩
 .rw[h.U5 d (by omega) (by omega)]
  have hb:=GJ hg (2+g.length);have hl:=TA (k:=2+g.length) (by have:=hg.1;omega);unfold Be;exact⟨Pt (fun o ho=>Nat.le_trans (hb o ho).1 hl) _,LY (fun o ho=>(hb o ho).2) _⟩
def T6 {g:List (List Int)} (hg:GN g) {k:Nat} {M:List Ord} (h:GV g k M) {l:List Int} (hl:l.length<=3) (h0: ∀x∈l,(0:Int)<=x):JI (CL M l)/\total (CL M l)<1000000000:=by
 have hM:AX=17592186044416:=rfl;have hf: ∀p,((Bf M p).filter (· != 0)).length<=71744535:=fun p=>Nat.le_trans (Xh _ _) (Is hg h p).1
 have ht: ∀l:List Int,total (l.map fun p=>(Bf M p).filter (· != 0))<=l.length*71744535:=by
  intro l
  induction l with
  | nil=>simp[total]
  | cons p r ih=>
    simp only[total,Fw,List.sum_cons,Om]at *;have:=hf p;rw[Nat.add_mul];omega
 refine⟨⟨by simp[CL];omega,fun m hm=>?_⟩,?_⟩
 .rcases FC.1 hm with hm|hm
  .obtain⟨p,_,rfl⟩:=Ol.1 hm
   refine⟨by have:=hf p;omega,fun x hx=>(Is hg h p).2 x (Zd.1 hx).1⟩
  .rw[ME.1 hm]
   exact⟨by omega,h0⟩
 .have h1:=ht l
  have h2:total (CL M l)=total (l.map fun p=>(Bf M p).filter (· != 0))+l.length:=by simp[CL,total]
  have h3:=Oj 71744535 hl;omega
def YS {g:List (List Int)} {k:Nat} {M:List Ord} (h:GV g (k+1) M) {l:List Int} (hl:l=Ai g ((k:Int)+1)) (hp: ∀p∈l,(0:Int)<=p/\p<(k:Int)+1) (hk:k+1<3+g.length) :
    FE M l ((k:Int)+1)=C2 g (BH g k) ((k:Int)+1):=by
 have ho: ∀p∈l,Bf M p=(BH g k).getD p.toNat []:=fun p hpl=>by
  obtain⟨h0,h1⟩:=hp p hpl;rw[h.U5 p h0 (by omega)];unfold Be;rw[FD,FD,Dc (k:=2+g.length) (j:=p.toNat) (by omega),Dc (k:=k) (j:=p.toNat) (by omega)]
 have e1:(l.any fun p=>(Bf M p).isEmpty)=(l.any fun p=>((BH g k).getD p.toNat []).isEmpty):=by
  rw[R9,Ut,Ut];constructor
  .rintro⟨p,h1,h2⟩;exact⟨p,h1,by rw[<-ho p h1];exact h2⟩
  .rintro⟨p,h1,h2⟩;exact⟨p,h1,by rw[ho p h1];exact h2⟩
 have e2:CL M l=l.map (fun p=>((BH g k).getD p.toNat []).filter (· != 0))++[l]:=by
  unfold CL;congr 1;exact List.map_congr_left fun p hpl=>by rw[ho p hpl]
 unfold FE C2 DD;rw[if_neg (by omega),e1,e2,<-hl];split<;>rfl
def GV.nil {g:List (List Int)}:GV g 0 []:=⟨fun e h=>(by cases h),fun d h0 h1=>by omega⟩
def GV.step {g:List (List Int)} {k:Nat} {M M':List Ord} (h:GV g k M) {l:List Int} (hl:l=Ai g (k:Int)) (hp: ∀p∈l,(0:Int)<=p/\p<(k:Int)) (hk:k<3+g.length)
    (hM:(M'=M/\FE M l k= [])\/ ∃v,M'=M++[((k:Int),v,FE M l k)]/\FE M l k≠[]):GV g (k+1) M':=by
 have hc:FE M l k=(Be g).getD k []:=by
  cases k with
  | zero=>
    unfold FE Be;rw[if_pos (by simp),FD,Dc (j:=0) (by omega)];rfl
  | succ k=>
    have:=YS h (by simpa using hl) (fun p hpl=>by have:=hp p hpl;simpa using this) hk;have e:((k+1:Nat):Int)=(k:Int)+1:=by omega
    rw[e,this];unfold Be;rw[FD,Dc (k:=2+g.length) (j:=k+1) (by omega),BH,List.getElem?_append_right (by rw[Bz];omega),Bz,Nat.sub_self];rfl
 rcases hM with⟨rfl,he⟩|⟨v,rfl,_⟩
 .refine⟨fun e he=>by have:=h.keys e he;omega,fun d h0 h1=>?_⟩
  by_cases hd:d=k
  .subst hd
   rw[Pf h (by omega)];rw[MF,<-hc,he]
  .exact h.U5 d h0 (by omega)
 .refine⟨fun e he=>?_,fun d h0 h1=>?_⟩
  .rcases FC.1 he with he|he
   .have:=h.keys e he;omega
   .rw[ME.1 he]
    exact⟨by simp,by simp;omega⟩
  .rw[T0 (fun e he=>(h.keys e he).2)]
   split
   .rename_i hd
    rw[hd,MF];exact hc
   .exact h.U5 d h0 (by omega)
end Go.Gl
namespace Go.Gl
open Go.Proofs
attribute [local irreducible] BD A3 Au AS AL Ao AU AV AM An AP AT BF BM Sat Af BK Aw W
def Aj (p:Prog):List (List Int):=p.AG.map (·.parents)
def bG (p:Prog):Prop:=p.AG.length<=AX/\ ∀c∈p.AG,c.parents.length<=AX/\c.AH.length<=AX/\c.inits.length<=AX
def Sv (p:Prog) (hp:bG p) (hk0:p.AG.length<=1000):Pure zP 158 [.a (A7 p)] (.l (Df (Aj p)) false):=by
 refine fD kZ ?_;refine zh ?_;(repeat clear U K);repeat intro K U
 refine Cc p.AG.length (fun k v=>[(3,v),(4,eI (BU k))]) (fun k v=>[.own v 1 (Df ((p.AG.take k).map (·.parents)))]) (fun _ _=>True) (.l [] true) rfl trivial (Gg Sat.nil 1) ?_;rintro k v Z hk - hs;refine zh ?_;(repeat clear U K);repeat intro K U
 refine Ej hk hp.1 (fun c hc hlt=>?_) fun hk=>?_
 .have hcm:=hp.2 c (Dx hc)
  refine zh ?_;(repeat clear U K);repeat intro K U
  refine Gi hc hp.1 rfl ?_;refine zh ?_;(repeat clear U K);repeat intro K U
  refine Vr B8 (by have:=hcm.1;have hM:=Mx;omega) ?_
  conv=>whnf
  refine E0 hs 0 (x:=c.parents) rfl (by have hM:=Mx;simp only[BW,Uv];omega) CM fun v' Z' hs'=>?_
  refine zh ?_;(repeat clear U K);repeat intro K U
  refine⟨hlt,v',rfl,trivial,?_⟩;rw[Aa hc,R8];exact hs'
 .refine zh ?_;(repeat clear U K);repeat intro K U
  exact Fj hs 0 rfl (by rw[BN hk];rfl)
def A5 (i:Nat):List MD->List Int
 | []=>[]
 | c::r=>List.replicate c.AH.length ((i:Int)+3)++A5 (i+1) r
def Ab (p:Prog):Ap:=⟨Aj p,A5 0 p.AG⟩
def GX (i:Nat) (a b:List MD):A5 i (a++b)=A5 i a++A5 (i+a.length) b:=by
 induction a generalizing i with
 | nil=>simp[A5]
 | cons c r ih=>
   simp only[List.cons_append,A5,ih,aS,Om];rw[show i+1+r.length=i+(r.length+1) by omega]
def BX (cs:List MD):Nat:=(cs.map (·.AH.length)).sum
def Bw (i:Nat) (cs:List MD):(A5 i cs).length=BX cs:=by
 induction cs generalizing i with
 | nil=>rfl
 | cons c r ih=>simp[A5,ih,BX]
def Lz {cs:List MD} {k:Nat} {c:MD} (h:cs[k]? =some c):BX (cs.take k)+c.AH.length<=BX cs:=by
 induction cs generalizing k with
 | nil=>cases h
 | cons d r ih=>
   cases k with
   | zero=>simp at h;subst h;simp[BX]
   | succ k=>simp at h;have:=ih h;simp only[BX,List.take_succ_cons,Fw,List.sum_cons]at *;omega
def SU (p:Prog) (hp:bG p) (hk0:p.AG.length<=1000) (hm:BX p.AG<=AX):Pure zP 94 [.a (A7 p)] (.a (BC (Ab p))):=by
 refine iH kZ ?_
 conv=>whnf
 repeat((first|clear U K|(apply zk;intro K U)|fail);conv=>whnf)
 intro n hn;have hs:=VB (l:=[]) (Z:=emp) Sat.nil hn (o:= .cs [.l [] true,.l [] true]);refine zh ?_;(repeat clear U K);repeat intro K U
 refine(Sv p hp hk0).use ?_
 conv=>whnf
 intro m hm;have hs:=VB hs hm (o:= .cs [.l [] true,.l [] true])
 conv=>whnf
 refine Ht hs 1 rfl rfl rfl rfl (by decide) fun Z hs=>?_
 refine zh ?_;(repeat clear U K);repeat intro K U
 refine Cc p.AG.length (fun k _=>[(4,eI (BU k))]) (fun k v=>[.box n [.l [] true,.l [] true],.box m [.l (Df (Aj p)) false,v],.own v 1 (iL (A5 0 (p.AG.take k)))]) (fun _ _=>True) (.l [] true) rfl trivial (Gg hs 1) ?_;rintro k v Z hk - hs;refine zh ?_;(repeat clear U K);repeat intro K U
 refine Ej hk hp.1 (fun c hc hlt=>?_) fun hk=>?_
 .have hcm:=hp.2 c (Dx hc)
  have htk:=Lz hc;refine zh ?_;(repeat clear U K);repeat intro K U
  refine Cc c.AH.length (fun j _=>[(5,eI (BU j))]) (fun j v=>[.box n [.l [] true,.l [] true],.box m [.l (Df (Aj p)) false,v],.own v 1 (iL (A5 0 (p.AG.take k)++List.replicate j ((k:Int)+3)))]) (fun _ _=>True) v rfl trivial (by simpa using hs) ?_;rintro j v Z hj - hs;refine zh ?_;(repeat clear U K);repeat intro K U
  refine Gi hc hp.1 rfl ?_;refine zh ?_;(repeat clear U K);repeat intro K U
  refine Ej hj hcm.2.1 (fun s hsl hjlt=>?_) fun hj=>?_
  .refine zh ?_;(repeat clear U K);repeat intro K U
   refine SH hs 1 rfl ?_;refine zh ?_;(repeat clear U K);repeat intro K U
   have he:IntKind.i64.wrap (BU k+3)=(k:Int)+3:=by
    have:=hp.1;rw[AJ (by omega),wrap64 (by omega) (by simp only[AX]at *;omega)]
   refine E0 hs 2 (x:=IntKind.i64.wrap (BU k+3)) rfl (by have hM:=Mx;simp only[Uw,Bw,List.length_replicate];omega) B8 fun v' Z' hs'=>?_
   conv=>whnf
   refine Ia hs' 1 rfl (FF hs' 2 rfl) kZ fun Z2 hs2=>?_
   refine zh ?_;(repeat clear U K);repeat intro K U
   refine⟨hjlt,v',rfl,trivial,?_⟩;rw[List.replicate_succ',<-aS];rw[he]at hs2;exact hs2
  .refine zh ?_;(repeat clear U K);repeat intro K U
   refine⟨hlt,v,rfl,trivial,?_⟩;rw[Aa hc,GX];have:(p.AG.take k).length=k:=by simp;omega
   rw[this];simpa[A5,hj]using hs
 .refine zh ?_;(repeat clear U K);repeat intro K U
  refine SH hs 1 rfl ?_;refine zh ?_;(repeat clear U K);repeat intro K U
  refine Ht hs 0 rfl rfl rfl (by simp[FF hs 2 rfl]) kZ fun Z2 hs2=>?_
  refine zh ?_;(repeat clear U K);repeat intro K U
  refine SH hs2 0 rfl ?_;refine zh ?_;(repeat clear U K);repeat intro K U
  refine B1 (.a (.cons (.refl _) (.cons ?_ .nil)));have:=hs2.HR 2 rfl;rw[BN hk]at this;exact this
def IK:Int->List Int->Bool
 | _,[]=>true
 | n,s::r=>s==n&&IK (n+1) r
def B3:Int->List MD->Bool
 | _,[]=>true
 | n,c::r=>decide (c.AH.length<=4)&&(decide (c.parents.length<=3)&&(IK n c.AH&&B3 (n+c.AH.length) r))
def C8 (w:Ap) (c n:Int):List (Int×Int)->List (Int×Int)->Bool
 | _,[]=>true
 | pre,x::r=>decide (0<=x.1)&&(decide (x.1<n)&&(hasB w c x.1&&(Np x.2&&(pre.all (fun y=>y.1 != x.1)&&C8 w c n (pre++[x]) r))))
def Xv (g:List (List Int)) (c:Int):Bool:= !((Be g).getD c.toNat []).isEmpty
def Eh (w:Ap) (n:Int):Nat->List MD->Bool
 | _,[]=>true
 | i,c::r=>Xv w.parents ((i:Int)+3)&&(C8 w ((i:Int)+3) n [] c.inits&&Eh w n (i+1) r)
def Ar (p:Prog):Bool:=decide (p.AG.length<=10)&&(B3 0 p.AG&&((BX p.AG:Int)==p.AH&&(Cn (Aj p)&&Eh (Ab p) (BX p.AG) 0 p.AG)))
def iD {c:MD} (h:Fy (Hm c)):c.parents.length<=AX/\c.AH.length<=AX/\c.inits.length<=AX:=by
 simp only[Hm,C3,FK,BW]at h;exact⟨h.1.1,h.2.1.1,h.2.2.1.1⟩
def K7 {p:Prog} (h:Dg (.a (A7 p))):bG p:=by
 refine⟨(D8 h).1,fun c hc=>?_⟩;simp only[A7,F4,C3,FK,Gw]at h;exact iD (h.1.2 c hc)
def W5 (p:Prog) (hk0:p.AG.length<=1000):Pure zP 158 [.a (A7 p)] (.l (Df (Aj p)) false):=Pure.fit (by kernel_rfl) fun hf=>Sv p (K7 hf.1) hk0
def Eb: ∀(cs:List MD) (n:Int),B3 n cs=true->BX cs<=4*cs.length/\ ∀c∈cs,c.parents.length<=3/\c.AH.length<=4
 | [],_,_=>⟨JE _,fun _ h=>by cases h⟩
 | c::r,n,h=>by
   simp only[B3,Ba,DG]at h;have⟨h1,h2⟩:=Eb r _ h.2.2.2;refine⟨by simp only[BX,Fw,List.sum_cons,Om]at *;omega,fun d hd=>?_⟩;rcases HV.1 hd with rfl|hd
   .exact⟨h.2.1,h.1⟩
   .exact h2 d hd
def NL {i:Nat}: ∀(r pre:List Int),JM i pre r=true->pre.Nodup->(pre++r).Nodup/\ ∀c∈r,(3:Int)<=c/\c<3+(i:Int)
 | [],pre,_,h=>⟨by simpa using h,fun _ h=>by cases h⟩
 | c::r,pre,h,hn=>by
   simp only[JM,aZ,Ba,DG,Bool.not_eq_true']at h;have hc:c∉pre:=by simpa using h.1.2.2
   obtain⟨h1,h2⟩:=NL r (pre++[c]) h.2 (List.nodup_append.2 ⟨hn,by simp,fun a ha b hb=>by simp at hb;subst hb;exact fun e=>hc (e ▸ ha)⟩);refine⟨by simpa using h1,fun d hd=>?_⟩;rcases HV.1 hd with rfl|hd
   .exact⟨h.1.1,h.1.2.1⟩
   .exact h2 d hd
def Ln: ∀(g:List (List Int)) (k:Nat),GL k g=true-> ∀(i:Nat) (l:List Int),g[i]? =some l->l.length<=3/\l.Nodup/\ ∀c∈l,(3:Int)<=c/\c<3+((k+i:Nat):Int)
 | [],_,_,_,_,h=>by cases h
 | l ::r,k,h,i,l',hi=>by
   simp only[GL,Ba,DG]at h;cases i with
   | zero=>
     simp at hi;subst hi;obtain⟨h1,h2⟩:=NL l [] h.2.1 .nil;exact⟨h.1,by simpa using h1,by simpa using h2⟩
   | succ i=>
     simp at hi;have:=Ln r (k+1) h.2.2 i l' hi;rw[show k+(i+1)=k+1+i by omega];exact this
def Cx {g:List (List Int)} (h:Cn g=true):GN g:=by
 simp only[Cn,Ba,DG]at h;refine⟨h.1,fun i l hi=>?_⟩;have:=Ln g 0 h.2 i l hi;simpa using this
def Jr {g:List (List Int)} (h:GN g):ordered g:=by
 intro c p hp;unfold par at hp;split at hp
 .cases hp
 .rename_i h3
  rw[FD]at hp;cases hq:g[c - 3]? with
  | none=>rw[hq]at hp;cases hp
  | some l=>
    rw[hq]at hp;have:=(h.2 _ _ hq).2.2 p hp;omega
def EZ {i:Nat} {cs:List MD} {c:Int} (h:c∈A5 i cs):(3:Int)+i<=c/\c<3+i+cs.length:=by
 induction cs generalizing i with
 | nil=>cases h
 | cons d r ih=>
   simp only[A5,FC,List.mem_replicate]at h;simp only[Om];rcases h with⟨_,rfl⟩|h
   .omega
   .have:=ih h;omega
def RJ {p:Prog} (h1:p.AG.length<=10) (h2:B3 0 p.AG=true) (h3:Cn (Aj p)=true):o8 (Ab p):=by
 have hl:(Ab p).parents.length=p.AG.length:=by simp[Ab,Aj]
 refine⟨by omega,Jr (Cx h3),fun c hc=>?_,?_⟩
 .have:=EZ hc
  rw[hl];omega
 .have:=(Eb _ _ h2).1
  simp only[Ab,Bw];omega
def Ue (p : Prog):Pure zP 128 [.a (A7 p)] (.b (Ar p)):=by
 refine Pure.fit (by kernel_rfl) fun hf=>?_
 have hP:=K7 hf.1;have hcl:=hP.1;have hM:=Mx;refine fL kZ ?_
 conv=>whnf
 repeat'((first|clear U K|apply st|(apply zk;intro K U)|refine zn ?_|(refine zd (fun hc=>?_) (fun hc=>?_)<;>try exact⟨⟩)|fail)<;>conv=>whnf)
 .exact AF (by simp[Ar];intros;omega)
 have h10:p.AG.length<=10:=by omega
 refine Cc p.AG.length (fun k (n:Int)=>[(3,eI n),(4,eI (BU k))]) (fun _ _=>[]) (fun k n=>B3 0 p.AG=B3 n (p.AG.drop k)/\0<=n/\n+BX (p.AG.drop k)=BX p.AG/\n<=4*k) 0 rfl (by simp) Sat.nil ?_;rintro k n Z hk ⟨hn,hn0,hn1,hn2⟩ hs
 conv=>whnf
 repeat'((first|clear U K|apply st|(apply zk;intro K U)|refine zn ?_|(refine fc (fun x hx hlt hc=>?_) (fun hk hc=>?_)<;>(try rw[hc])<;>clear hc)|refine Pure.use (W5 _ (by omega)) ?_|refine Pure.use (Yv _ _) ?_|(refine zd (fun hc=>?_) (fun hc=>?_)<;>try exact⟨⟩)|fail)<;>conv=>whnf)
 .exact AF (by simp only[Ar];rw[hn,drop_cons hx,B3];simp;intros;omega)
 .have hms:n+(x.AH.length:Int)+BX (p.AG.drop (k+1))=BX p.AG:=by
   rw[drop_cons hx]at hn1;simp only[BX,Fw,List.sum_cons]at hn1 ⊢;omega
  have hsl:=(hP.2 x (Dx hx)).2.1
  have hn':B3 0 p.AG=(IK n x.AH&&B3 (n+x.AH.length) (p.AG.drop (k+1))):=by
   have a1:x.AH.length<=4:=by omega
   have a2:x.parents.length<=3:=by omega
   rw[hn,drop_cons hx,B3];simp only[a1,a2,decide_true,Fv]
  revert x
  rintro c hx hcs h3 hms hsl hn';refine Cc c.AH.length (fun j (m:Int)=>[(3,eI m),(6,eI (BU j))]) (fun _ _=>[]) (fun j m=>B3 0 p.AG=(IK m (c.AH.drop j)&&B3 (n+c.AH.length) (p.AG.drop (k+1)))/\m=n+j) n rfl ⟨hn',by simp⟩ Sat.nil ?_;rintro j m Z hj ⟨hm,he⟩ hs
  conv=>whnf
  repeat'((first|clear U K|apply st|(apply zk;intro K U)|refine zn ?_|(refine fc (fun x hx hlt hc=>?_) (fun hk hc=>?_)<;>(try rw[hc])<;>clear hc)|refine za (fun hc=>?_) fun hc=>?_|fail)<;>conv=>whnf)
  .exact AF (by simp only[Ar];rw[hm,drop_cons (by assumption),IK];simp[hc])
  .refine⟨hlt,_,rfl,⟨?_,?_⟩,hs⟩
   .rw[hm,drop_cons (by assumption),IK,wrap64 (by omega) (by omega)];simp[hc]
   .rw[wrap64 (by omega) (by omega)];omega
  .refine⟨by assumption,m,rfl,⟨?_,by omega,by omega,by omega⟩,hs⟩
   rw[hm,Ax (by assumption),IK,Fv,he];congr 1;omega
 .exact AF (by simp only[Ar];rw[hn,drop_cons hx,B3];simp;intros;omega)
 .have hne:n=BX p.AG:=by rw[Ax hk]at hn1;simpa[BX]using hn1
  exact AF (by simp only[Ar];rw[hc];simp)
 .have hne:n=BX p.AG:=by rw[Ax hk]at hn1;simpa[BX]using hn1
  have hsb:B3 0 p.AG=true:=by rw[hn,Ax hk];rfl
  have hms:=(Eb _ _ hsb).1;have hok:=RJ h10 hsb hc
  have hcb:Ar p=Eh (Ab p) n 0 p.AG:=by
   simp only[Ar,hsb,hc,<-hne];simp[*]
  refine(SU p hP (by omega) (by omega)).use ?_
  conv=>whnf
  repeat'((first|clear U K|apply st|(apply zk;intro K U)|refine zr fun Z hs=>?_|refine zp fun nn hnn Z hs=>?_|fail)<;>conv=>whnf)
  refine Cc p.AG.length (fun k (_:Unit)=>[(9,eI (BU k))]) (fun _ _=>[.box nn (BC (Ab p))]) (fun k _=>Ar p=Eh (Ab p) n k (p.AG.drop k)) () rfl (by rw[hcb];rfl) hs ?_;rintro k - Z hk hn hs
  conv=>whnf
  repeat'((first|clear U K|apply st|(apply zk;intro K U)|refine zn ?_|(refine fc (fun x hx hlt hc=>?_) (fun hk hc=>?_)<;>(try rw[hc])<;>clear hc)|fail)<;>conv=>whnf)
  .have e3 : IntKind.i64.wrap (BU k+3)=(k:Int)+3:=by rw[AJ (by omega),wrap64 (by omega) (by omega)]
   rw[e3];have hgl:(Aj p).length=p.AG.length:=by simp[Aj]
   refine(cL (Aj p) false ((k:Int)+3) (Cx hc) (by omega) (by omega)).use ?_
   conv=>whnf
   repeat'((first|clear U K|apply st|(apply zk;intro K U)|refine zn ?_|refine za (fun hc=>?_) fun hc=>?_|fail)<;>conv=>whnf)
   .have hlb:Xv (Ab p).parents ((k:Int)+3)=false:=by
     show(!((Be (Aj p)).getD ((k:Int)+3).toNat []).isEmpty)=false;rw[hc];rfl
    exact AF (by rw[hn,drop_cons hx,Eh,hlb];rfl)
   .have hil:=(hP.2 x (Dx hx)).2.2
    have hn':Ar p=(C8 (Ab p) ((k:Int)+3) n [] x.inits&&Eh (Ab p) n (k+1) (p.AG.drop (k+1))):=by
     have hlb:Xv (Ab p).parents ((k:Int)+3)=true:=by
      show(!((Be (Aj p)).getD ((k:Int)+3).toNat []).isEmpty)=true;rw[hc];rfl
     rw[hn,drop_cons hx,Eh,hlb];rfl
    revert x
    rintro c hx hil hn';refine Cc c.inits.length (fun j (_:Unit)=>[(14,eI (BU j))]) (fun _ _=>[.box nn (BC (Ab p))]) (fun j _=>Ar p=(C8 (Ab p) ((k:Int)+3) n (c.inits.take j) (c.inits.drop j)&&Eh (Ab p) n (k+1) (p.AG.drop (k+1)))) () rfl (by rw[hn'];rfl) hs ?_;rintro j - Z hj hm hs
    conv=>whnf
    repeat'((first|clear U K|apply st|(apply zk;intro K U)|refine zn ?_|(refine fc (fun x hx hlt hc=>?_) (fun hk hc=>?_)<;>(try rw[hc])<;>clear hc)|refine za (fun hc=>?_) fun hc=>?_|fail)<;>conv=>whnf)
    .refine(cU (Ab p) ((k:Int)+3) x.1 hok (by omega) (by rw[show(Ab p).parents=Aj p from rfl];omega) (by omega) (by rw[show(Ab p).owner=A5 0 p.AG from rfl,Bw];omega)).use ?_
     conv=>whnf
     repeat'((first|clear U K|apply st|(apply zk;intro K U)|refine zn ?_|refine Pure.use (Zv _) ?_|refine za (fun hc=>?_) fun hc=>?_|fail)<;>conv=>whnf)
     .exact AF (by rw[hm,drop_cons hx,C8];simp[*])
     .have hm':Ar p=((c.inits.take j).all (fun y=>y.1 != x.1)&&(C8 (Ab p) ((k:Int)+3) n (c.inits.take (j+1)) (c.inits.drop (j+1))&&Eh (Ab p) n (k+1) (p.AG.drop (k+1)))):=by
       have b1:decide (0<=x.1)=true:=decide_eq_true (by assumption);have b2:decide (x.1<n)=true:=decide_eq_true (by assumption);rw[hm,drop_cons hx,C8,Aa hx,b1,b2,‹hasB _ _ _=true›,hc];simp only[Fv,Bool.and_assoc]
      revert x
      rintro x hxj hx0 hx1 hhb hbt hm';refine Cc j (fun i (_:Unit)=>[(15,eI (BU i))]) (fun _ _=>[.box nn (BC (Ab p))]) (fun i _=>Ar p=(((c.inits.take j).drop i).all (fun y=>y.1 != x.1)&&(C8 (Ab p) ((k:Int)+3) n (c.inits.take (j+1)) (c.inits.drop (j+1))&&Eh (Ab p) n (k+1) (p.AG.drop (k+1))))) () rfl (by rw[hm'];rfl) hs ?_;rintro i - Z hi hl hs;rcases Nat.lt_or_ge i j with hij|hij
      .obtain⟨y,hy⟩: ∃y,c.inits[i]? =some y:=⟨_,D2 (by omega)⟩
       have hy':(c.inits.take j)[i]? =some y:=by rw[List.getElem?_take,if_pos hij,hy]
       conv=>whnf
       repeat'((first|clear U K|apply st|(apply zk;intro K U)|refine zn ?_|(refine zb (fun hc=>?_) (fun hc=>?_)<;>try exact⟨⟩)|fail)<;>conv=>whnf)
       .exact AF (by rw[hl,drop_cons hy',NV,hc];simp)
       .refine⟨hij,(),rfl,?_,hs⟩
        have hc':(y.1 != x.1)=true:=by simpa using hc
        rw[hl,drop_cons hy',NV,hc',Fv]
      .conv=>whnf
       repeat'((first|clear U K|apply st|(apply zk;intro K U)|refine zn ?_|(refine zb (fun hc=>?_) (fun hc=>?_)<;>try exact⟨⟩)|fail)<;>conv=>whnf)
       refine⟨by assumption,(),rfl,?_,hs⟩;rw[hl,List.drop_of_length_le (by rw[Uv];omega),List.all_nil,Fv]
     .exact AF (by rw[hm,drop_cons hx,C8];simp[*])
    .exact AF (by rw[hm,drop_cons hx,C8];simp;intros;omega)
    .exact AF (by rw[hm,drop_cons hx,C8];simp;intros;omega)
    .refine⟨by assumption,(),rfl,?_,hs⟩
     rw[hm,Ax hk,C8,Fv]
  .exact AF (by rw[hn,Ax hk];rfl)
 .have hne:n=BX p.AG:=by rw[Ax hk]at hn1;simpa[BX]using hn1
  exact AF (by simp only[Ar];rw[<-hne];simp[hc])
def D7 (f:Int->Int->List Int->Option (List Int)) (op size:Int):Nat->List Int->List Int->Option (List Int)
 | _,[],s=>some s
 | i,k::r,s=>match f k (if op=9/\i=1 then size+1 else size) s with
   | none=>none
   | some s'=>D7 f op size (i+1) r s'
def C5 (p:Prog) (next:Bool) (size:Int) (x:Node):Bool:=((x.kids.length:Int)==Gm p x)&&(JJ p x size&&(x.op != 18||next))
def Bp (p:Prog) (next:Bool):Nat->Int->Int->List Int->Option (List Int)
 | 0,_,_,_=>none
 | d+1,n,size,s=>
   if n<0\/(p.nodes.length:Int)<=n\/0<=s.getD n.toNat 0 then none else
   match p.nodes[n.toNat]? with
   | none=>none
   | some x=>if C5 p next size x then D7 (Bp p next d) x.op size 0 x.kids (s.set n.toNat size)else none
def PT (v:V) (s:List Int) (o:Option (List Int)) (r:R) (post:List At):Prop:=
 ∃s':List Int,s'.length=s.length/\post= [.own v 1 (iL s')]/\((o=some s'/\r= .ret (.b true))\/(o=none/\r= .ret (.b false)))
def K9 {v:V} {s s':List Int} {o:Option (List Int)} {Z:AE} {rest:List At} (hs:Sat Z (.own v 1 (iL s')::rest)) (hl:s'.length=s.length) (ho:o=none):A3 Z (.b false) fun r Z'=> ∃post,PT v s o r post/\Sat Z' post:=
 A4 hs (.cons₂ _ (NW _)) (.refl _) fun Z' hs'=>⟨_,⟨s',hl,rfl,.inr ⟨ho,rfl⟩⟩,hs'⟩
def Vs {p:Prog} (h:Dg (.a (A7 p))) {x:Node} (hx:x∈p.nodes):x.kids.length<=AX:=by
 simp only[A7,F4,C3,FK,Gw]at h
 have h2:Fy (GQ x):=by
  first|exact h.2.2.2.2.1.2 x hx|exact h.2.2.2.2.2.1.2 x hx|exact h.2.2.2.1.2 x hx|exact h.2.2.1.2 x hx|exact h.2.1.2 x hx
 simp only[GQ,C3,FK,BW]at h2
 first|exact h2.2.2.1.1|exact h2.2.2.1|exact h2.1
def Ke {p:Prog} {next:Bool} {d:Nat} {n size:Int} {s:List Int} {x:Node} {y:Int} (h0:0<=n) (h1:n<(p.nodes.length:Int)) (hs:s[n.toNat]? =some y) (hy:y<0) (hx:p.nodes[n.toNat]? =some x) :
    Bp p next (d+1) n size s=if C5 p next size x then D7 (Bp p next d) x.op size 0 x.kids (s.set n.toNat size)else none:=by
 have e:s.getD n.toNat 0=y:=by rw[FD,hs];rfl
 simp only[Bp];rw[if_neg (by rw[e];omega),hx]
def Jh {p:Prog} {next:Bool} {d:Nat} {n size:Int} {s:List Int} (h:n<0\/(p.nodes.length:Int)<=n\/0<=s.getD n.toNat 0):Bp p next (d+1) n size s=none:=by
 simp only[Bp];rw[if_pos h]
def VU (p : Prog) (next:Bool): ∀d:Nat,d<=12-> ∀(n size depth:Int) (s:List Int) (v:V),depth=13 - d->0<=size->size+d<=100->s.length=p.nodes.length->(DI v).isSome=true->
    Cl zP 131 [.a (A7 p),eI n,eI size,eI depth,.b next,v] [.own v 1 (iL s)] (PT v s (Bp p next d n size s)):=by
 intro d
 induction d with
 | zero=>
   intro _ n size depth s v hd h0 h1 hl hv Z hs;refine BD.fit (by kernel_rfl) fun hf=>?_
   have⟨p1,p2,p3,p4⟩:=D8 hf.1;have hM:=Mx;refine Vz kZ ?_
   conv=>whnf
   repeat'((first|clear U K|apply st|(apply zk;intro K U)|refine zn ?_|refine ze fun x hx=>?_|(refine zb (fun hc=>?_) (fun hc=>?_)<;>try exact⟨⟩)|fail)<;>conv=>whnf)
   all_goals exact A4 hs (.refl _) (.refl _) fun Z' hs'=>⟨_,⟨s,rfl,rfl,.inr ⟨rfl,rfl⟩⟩,hs'⟩
 | succ d ih =>
   intro hd12 n size depth s v hd h0 h1 hl hv Z hs;refine BD.fit (by kernel_rfl) fun hf=>?_
   have⟨p1,p2,p3,p4⟩:=D8 hf.1;have hM:=Mx;refine Vz kZ ?_
   conv=>whnf
   repeat'((first|clear U K|apply st|(apply zk;intro K U)|refine zn ?_|refine rk ?_ ?_|exact fun s e=>by cases e;rfl|refine ze fun x hx=>?_|refine zr fun Z hs=>?_|refine Pure.use (Yn _ _) ?_|refine Pure.use (T2 _ _ _) ?_|(refine zb (fun hc=>?_) (fun hc=>?_)<;>try exact⟨⟩)|refine zp fun nn hnn Z hs=>?_|fail)<;>conv=>whnf)
   .exact K9 hs (by simp) (by rw[Ke (by assumption) (by assumption) (by assumption) (by assumption) hx];simp[C5, *])
   rotate_left
   .cases hc
   rotate_left
   .exact K9 hs (by simp) (by rw[Ke (by assumption) (by assumption) (by assumption) (by assumption) hx];simp[C5, *])
   .exact K9 hs (by simp) (by rw[Ke (by assumption) (by assumption) (by assumption) (by assumption) hx];simp[C5, *])
   .exact K9 hs rfl (Jh (.inr (.inr (by rw[FD,hx];exact hc))))
   .exact K9 hs rfl (Jh (.inr (.inl hc)))
   .exact K9 hs rfl (Jh (.inl hc))
   all_goals
    have hW:Bp p next (d+1) n size s=D7 (Bp p next d) x.op size 0 x.kids (s.set n.toNat size):=by
     rw[Ke (by assumption) (by assumption) (by assumption) (by assumption) hx];simp[C5, *]
    rw[hW]
    rename Node=>nd
    refine Cc nd.kids.length (fun k (_:List Int)=>[(14,eI (BU k))]) (fun _ s'=>[.own v 1 (iL s'),.obj nn (.cs (GQ nd))]) (fun k s'=>s'.length=s.length/\D7 (Bp p next d) nd.op size 0 nd.kids (s.set n.toNat size)=D7 (Bp p next d) nd.op size k (nd.kids.drop k) s') (s.set n.toNat size) rfl ⟨by simp,by simp⟩ hs ?_;clear hs;rintro k s' Z hk ⟨hl',hkids⟩ hs;have hkm:=Vs hf.1 (Dx hx);have hck:BU k=k:=AJ (by omega);by_cases hlt:k<nd.kids.length
    .obtain⟨kid,hkid⟩: ∃kid,nd.kids[k]? =some kid:=⟨_,D2 hlt⟩
     have hrec:=fun kid sz h0 h1=>ih (by omega) kid sz (depth+1) s' v (by omega) h0 h1 (by omega) hv
     conv=>whnf
     repeat'((first|clear U K|apply st|(apply zk;intro K U)|refine zn ?_|(refine fc (fun x hx hlt hc=>?_) (fun hk hc=>?_)<;>(try rw[hc])<;>clear hc)|(refine zb (fun hc=>?_) (fun hc=>?_)<;>try exact⟨⟩)|fail)<;>conv=>whnf)
     all_goals try(exfalso;omega)
     all_goals try refine Gi (enc:=fun i:Int=>[V.i .i64 i]) hkid hkm rfl ?_
     conv=>whnf
     all_goals try(exfalso;omega)
     all_goals
      have hK2:=hkids;rw[drop_cons hx,D7]at hK2
      first
       | rw[if_pos (by omega)]at hK2
         rw[wrap64 (by omega) (by omega),wrap64 (by omega) (by omega)];refine(hrec x (size+1) (by omega) (by omega)).use hs ?_
       | rw[if_neg (by omega)]at hK2
         rw[wrap64 (by omega) (by omega)];refine(hrec x size (by omega) (by omega)).use hs ?_
      rintro r post Z' ⟨s2,hl2,rfl,⟨ho,rfl⟩|⟨ho,rfl⟩⟩ hs
      .rw[ho]at hK2
       conv=>whnf
       repeat'((first|clear U K|apply st|(apply zk;intro K U)|refine zn ?_|(refine zd (fun hc=>?_) (fun hc=>?_)<;>try exact⟨⟩)|fail)<;>conv=>whnf)
       all_goals first|(exfalso;cases hc;done)|exact⟨hlt,s2,rfl,⟨by omega,hK2⟩,hs⟩
      .rw[ho]at hK2
       conv=>whnf
       repeat'((first|clear U K|apply st|(apply zk;intro K U)|refine zn ?_|(refine zd (fun hc=>?_) (fun hc=>?_)<;>try exact⟨⟩)|fail)<;>conv=>whnf)
       all_goals first|exact K9 hs (by omega) hK2|(exfalso;cases hc;done)
    .have hke:k=nd.kids.length:=by omega
     conv=>whnf
     repeat'((first|clear U K|apply st|(apply zk;intro K U)|refine zn ?_|(refine fc (fun x hx hlt hc=>?_) (fun hk hc=>?_)<;>(try rw[hc])<;>clear hc)|(refine zb (fun hc=>?_) (fun hc=>?_)<;>try exact⟨⟩)|fail)<;>conv=>whnf)
     all_goals try(exfalso;omega)
     rw[hke,Ax rfl]at hkids;exact A4 hs (.cons₂ _ (NW _)) (.refl _) fun Z' hs'=>⟨_,⟨s',hl',rfl,.inl ⟨(by first|rw[hW,hkids,D7]|rw[hkids,D7]),rfl⟩⟩,hs'⟩
end Go.Gl
