import Derived.Test.YtegbmnmnaijioaaGreatX6
import Derived.Test.YtegbmnmnaijioaaGreatX9
set_option linter.all false
set_option linter.defProp false
set_option maxHeartbeats 8000000
noncomputable section
namespace Go.Gl
open Go.Proofs
attribute [local irreducible] Ar Aj AZ AQ AL AX AP AR AJ AW AM AN Am Av Sat AT As Aa W
def sy {a b:Nat} {A B:Prop} (e:a=b) (h:A):(a=b->A)/\(a≠b->B):=⟨fun _=>h,fun n=>absurd e n⟩
def tasN {a b:Nat} {A B:Prop} (e:a≠b) (h:B):(a=b->A)/\(a≠b->B):=⟨fun n=>absurd n e,fun _=>h⟩
def k7 {P:Program} {Z:AE} {tab:List (TypeId×FuncId)} {t:TypeId} {f:FuncId} {v:V} {args:List V} {Q:R->AE->Prop} (h:look t tab=some f) (hc:Ar P f (v::args) Z Q):Av P tab (.FF t v) args Z Q:=by
 unfold Av;simp only[h];exact hc
def nB (p:Prog) (n size depth:Int):Pure zP 285 [.a (BR p),eI n,.a [eI size,eI depth]] (.f (.func 327) [] [.rp (BR p),.rp [eI n],.rp [eI size,eI depth]]):=by
 refine wb kZ ?_;have hs:=Sn;exact zW
def u7 (p:Prog) (next:Bool) {L:Nat} {E:Env} {ok:FuncId->Array Tmp->Code->Code->Nat->Prop} {v:V} {nO:Nat}
    (hY:Nv zP L E ok eaP (hOut nO v) (fun s=>s.length=p.nodes.length) (fun y s=>gk (FP p next y.1 y.2.1 y.2.2 s)) (dP p)) (n size:Int) (s:List Int) (h0:0<=size) (h1:size<=20) (hl:s.length=p.nodes.length) (rest:List At) (Z:AE)
    (hs : Sat Z (.obj L (.loop .ready E ok)::(hOut nO v s++rest))) :
     Ar zP 327 [.f (.yield L) [] [],.rp (BR p),.rp [eI n],.rp [eI size,eI 1]] Z
      (ny L E ok (hOut nO v) (fun s=>s.length=p.nodes.length) rest (.t []) (.t []) (gk (CS p next 12 n size s))):=by
 refine vq kZ ?_
 conv=>whnf
 repeat'((first|clear U K|apply st|(apply zk;intro K U)|refine zY ?_|refine zs fun Z hs=>?_|refine zo fun nn hnn Z hs=>?_|fail)<;>conv=>whnf)
 have hp:Sat Z (.obj L (.loop .ready E ok)::(hOut nO v s++(.box nn [Yh p L nn]::rest))):=hs.perm (by
  refine(List.Perm.swap _ _ _).trans (.cons _ ?_)
  exact(List.perm_middle (l₁:=hOut nO v s)).symm)
 refine BA ((oT p next hY 12 (Ia _) n size 1 s rfl h0 (by omega) hl nn rest Z hp).mono ?_);cases hw:CS p next 12 n size s with
 | none=>
   rintro r Z' ⟨rfl,s',hj,hs'⟩
   conv=>whnf
   repeat'((first|clear U K|apply st|fail)<;>conv=>whnf)
   refine DV ?_;rw[hw];exact⟨rfl,s',hj,hs'.less (List.Sublist.append_left (K7 _ _) _)⟩
 | some s2=>
   rintro r Z' ⟨rfl,hs'⟩
   conv=>whnf
   repeat'((first|clear U K|apply st|fail)<;>conv=>whnf)
   refine AI ?_;rw[hw];exact⟨rfl,hs'.less (.cons₂ _ (List.Sublist.append_left (K7 _ _) _))⟩
def X2 (p:Prog) (x:Node):(x.op=5/\Sj x.op= .FF 360 (.a []))\/(x.op≠5/\ ∃m:Int,Sj x.op= .FF 359 (eI m)/\Ji p x=m)\/(Sj x.op= .Dv/\Ji p x= -1):=by
 unfold Sj Ji;by_cases h5:x.op=5
 .exact .inl ⟨h5,by rw[if_pos h5]⟩
 .rw[if_neg h5]
  split
  .exact .inr (.inl ⟨h5,_,rfl,rfl⟩)
  split
  .exact .inr (.inl ⟨h5,_,rfl,rfl⟩)
  split
  .exact .inr (.inl ⟨h5,_,rfl,rfl⟩)
  split
  .exact .inr (.inl ⟨h5,_,rfl,rfl⟩)
  .exact .inr (.inr ⟨rfl,by rw[if_neg (by rintro⟨h,_⟩;exact h5 h)]⟩)
def U3 {p:Prog} {x:Node} (h:x.op=5) {size:Int} (hn:NU p x size=true):0<=x.n/\x.n<p.Cb.length/\Ji p x=p.Cb.getD x.n.toNat 0:=by
 have h2:0<=x.n/\x.n<p.Cb.length:=by
  simp only[NU,h]at hn;simpa using hn
 refine⟨h2.1,h2.2,?_⟩;unfold Ji;rw[h,if_neg (by decide),if_neg (by decide),if_neg (by decide),if_neg (by decide),if_pos ⟨rfl,h2.1,h2.2⟩]
def lF {p:Prog} {next:Bool} {n size depth:Int} {s:List Int} (h:n<0\/(p.nodes.length:Int)<=n\/0<=s.getD n.toNat 0\/12<depth):FP p next n size depth s=none:=by
 unfold FP;rw[if_pos h]
def lG {p:Prog} {next:Bool} {n size depth:Int} {s:List Int} {y:Int} {x:Node} (h0:0<=n) (h1:n<(p.nodes.length:Int)) (hy:s[n.toNat]? =some y) (hy0:y<0) (hd:depth<=12) (hx:p.nodes[n.toNat]? =some x):FP p next n size depth s=if EL p next size x then some (s.set n.toNat size)else none:=by
 have e:s.getD n.toNat 0=y:=by rw[C6,hy];rfl
 unfold FP;rw[if_neg (by rw[e];omega),hx]
def ABa (p:Prog) (nO:Nat) (v:V) (rest:List At) (o:Option (List Int)) (r:R) (Z:AE):Prop:=
 match o with
 | some s=>r= .ret (.t [])/\Sat Z (hOut nO v s++rest)
 | none=>r= .Bh D3/\ ∃s:List Int,s.length=p.nodes.length/\Sat Z (hOut nO v s++rest)
def VE (p:Prog) (next:Bool) {v:V} {nO:Nat} (hv:(Ce v).isSome=true) (n size:Int) (s:List Int) (h0:0<=size) (h1:size<=20) (hl:s.length=p.nodes.length) (rest:List At) (Z:AE) (hs:Sat Z (hOut nO v s++rest)) :
    Ar zP 284 [eI n,eI size,.b next,.rp (BR p),.p nO 0] Z (ABa p nO v rest (CS p next 12 n size s)):=by
 refine Ar.fit (by kernel_rfl) fun hf=>?_
 have hM:=Mx
 have hfp:FO (.a (BR p)):=by
  have:=hf.2.2.2.1;simp only[U9]at this;simpa only[Jq]using this
 have⟨p1,p2,p3,p4⟩:=G7 hfp;refine wc kZ ?_
 conv=>whnf
 repeat'((first|clear U K|apply st|(apply zk;intro K U)|refine zY ?_|refine Pure.use (nB _ _ _ _) ?_|refine zo fun nn hnn Z hs=>?_|fail)<;>conv=>whnf)
 refine Ar.mono (u7 p next (L:=nn) (v:=v) (nO:=nO) ?_ n size s h0 h1 hl rest Z hs) ?_
 .refine Om (fun y=>rfl) ?_
  clear hs hnn hl h0 h1;rintro⟨k,sz,dp⟩ s ⟨d0,d1,d2,d3,hl⟩ rest Z hs;dsimp only at d0 d1 d2 d3 hl;dsimp only;rw[show eaP (k,sz,dp)= [eI k,.a [eI sz,eI dp]] from rfl]
  conv=>whnf
  repeat'((first|apply st|(apply sq;intro K U)|(apply si;intro A B hA hB)|(refine hA _ _ ?_;clear hB B hA A)|(refine hB _ _ _ ?_;clear hB B hA A)|(refine hB _ _ fun Z hsub=>?_;clear hB B hA A)|(apply U;clear U K)|apply dr|refine rk ?_ ?_|exact fun s e=>by cases e;rfl|refine⟨rfl,?_⟩|refine⟨kZ,?_⟩|refine iq fun x hx=>?_|refine ld ?_|refine snb fun Z hs=>?_|refine oi ?_|refine ol fun x hx=>?_|refine oset fun Z hs=>?_|refine cft ?_|refine cff ?_|(refine Cz (fun hc=>?_) (fun hc=>?_)<;>(replace hc:=bp hc)<;>(try simp(disch:=omega) only[Ca,wrap64,Ag]at hc)<;>(try(cases hc;done)))|refine Pure.use (eJ _ _ _) ?_|refine Pure.use (eV _) ?_|(rcases X2 p (by assumption)with⟨e5,ek⟩|⟨e5,m,ek,hm⟩|⟨ek,hm⟩<;>rw[ek]<;>clear ek)|refine sy rfl ?_|refine tasN (by decide) ?_|refine k7 rfl (Pure.use (AAT _ _ _) ?_)|refine k7 rfl (Pure.use (rO _ _ (U3 (by assumption) (by assumption)).1 (U3 (by assumption) (by assumption)).2.1) ?_)|(constructor<;>intro hc<;>(try rw[hc])<;>(replace hc:=bp hc)<;>(try simp(disch:=omega) only[Ca,wrap64,Ag]at hc))|(intro nn hnn;generalize hg:B5 _ nn _=Z;refine alF hg fun hs=>?_;clear hg)|clear U K)<;>conv=>whnf)
  all_goals first
   | (intro hn;refine TB (s:=s) (by rw[lF (by first|omega|(rw[C6,‹s[k.toNat]? =some _›];simp only[Option.getD_some];omega))];rfl) hl (hs.less (by repeat first|exact List.Sublist.refl _|apply List.Sublist.cons)) hn)
   | skip
  all_goals
   have hva:=lG (next:=next) (size:=sz) (depth:=dp) (show 0<=k by omega) (show k<(p.nodes.length:Int) by omega) ‹s[k.toNat]? =some _› (by assumption) (by omega) ‹p.nodes[k.toNat]? =some _›
   rename Node=>x
   have hk5:x.op=5->NU p x sz=true->Ji p x=p.Cb.getD x.n.toNat 0:=fun h hn=>(U3 h hn).2.2
   intro hn
  all_goals first
   | (rw[if_neg (by first|(intro h;rw[EL,hk5 (by assumption) (by assumption)]at h;simp only[A0,Cd]at h;exact absurd h.1 (by assumption))|(simp[EL, *];done)|(simp[EL, *];omega)|(rw[EL,hk5 (by assumption) (by assumption)];simp[*];done)|(simp[EL, *];intros;omega))]at hva
      refine TB (s:=s.set k.toNat sz) (by rw[hva];rfl) (by simpa using hl) ?_ hn
      first
       | exact hs.less (by repeat first|exact List.Sublist.refl _|apply List.Sublist.cons)
       | exact(hs.less (by repeat first|exact List.Sublist.refl _|apply List.Sublist.cons)).up (by assumption))
   | (rw[if_pos (by first|(simp[EL, *];done)|(rw[EL,hk5 (by assumption) (by assumption)];simp[*];done))]at hva
      exact Wv (s:=s.set k.toNat sz) (by rw[hva];rfl) (hs.less (by repeat first|exact List.Sublist.refl _|apply List.Sublist.cons)) hn)
 .cases hw:CS p next 12 n size s with
  | none=>
    rintro r Z' ⟨rfl,s',hj,hs'⟩
    conv=>whnf
    exact DV ⟨rfl,s',hj,hs'⟩
  | some s2=>
    rintro r Z' ⟨rfl,hs'⟩;refine Ju hs' fun Z2 hs2=>?_
    conv=>whnf
    exact AI ⟨rfl,hs2⟩
def B3 (w:AF):Prop:=JD w.parents/\w.owner.length<=40/\ ∀o∈w.owner,(3:Int)<=o/\o<3+(w.parents.length:Int)
def T6 (us:List Nat) (l:List Int) (s:Nat):Nat:=l.foldl (fun s c=>s|||us.getD c.toNat 0) s
def Bq (g:List (List Int)):Nat->List Nat
 | 0=>[1,3,5]
 | k+1=>Bq g k++[T6 (Bq g k) (g.getD k []) (1|||2 ^ (3+k))]
def A5 (g:List (List Int)):List Nat:=Bq g g.length
def oG (us:List Nat):List V:=us.map eU++List.replicate (63 - us.length) (eU 0)
def wC (w:AF) (us:List Nat):List V:=A9 w++oG us
def C5 (g:List (List Int)): ∀k,(Bq g k).length=3+k
 | 0=>rfl
 | k+1=>by simp[Bq,C5 g k];omega
def il (w:AF) {us:List Nat} (h:us.length<=63):(wC w us).length=65:=by
 simp only[wC,A9,oG,SB,Lr,List.length_nil,Ca,List.length_replicate];omega
def ik (w:AF) (us:List Nat) (s:Nat) (h:us.length<63):(wC w us).set (2+us.length) (eU s)=wC w (us++[s]):=by
 simp only[wC,oG];rw[List.set_append_right _ _ (by simp[A9])];congr 1;have e:2+us.length - (A9 w).length=us.length:=by simp[A9]
 rw[e,List.set_append_right _ _ (by simp)];rw[Ca,Nat.sub_self,VV,Ps];congr 1;rw[show 63 - us.length=(63 - (us++[s]).length)+1 by simp;omega,List.replicate_succ];rfl
def aB (w:AF) (us:List Nat) {i:Nat} (h:i<us.length):(wC w us)[2+i]? =some (eU (us.getD i 0)):=by
 simp only[wC,oG];rw[List.getElem?_append_right (by simp[A9]),show 2+i - (A9 w).length=i by simp[A9],nX (by simpa using h),OR,DC h,C6,DC h];rfl
def ra (us:List Nat):Prop:= ∀u∈us,u<18446744073709551616
def Nh {us:List Nat} (h:ra us) (i:Nat):us.getD i 0<18446744073709551616:=by
 rw[C6];cases hx:us[i]? with
 | none=>simp
 | some x=>exact h x (CY hx)
def PO {us:List Nat} (h:ra us): ∀(l:List Int) (s:Nat),s<18446744073709551616->T6 us l s<18446744073709551616
 | [],_,hs=>hs
 | c::r,s,hs=>PO h r _ (H2 hs (Nh h _))
def E9 (g:List (List Int)): ∀k,k<=60->ra (Bq g k)
 | 0,_=>by intro u hu;simp[Bq]at hu;omega
 | k+1,hk=>by
   intro u hu;simp only[Bq,D9,Lp]at hu;rcases hu with hu|rfl
   .exact E9 g k (by omega) u hu
   .exact PO (E9 g k (by omega)) _ _ (H2 (by decide) (Gc (by omega)))
def uC (w:AF) (us:List Nat) (c:Int) {n:Nat} (hM:w.parents.length<=60):BS zP 247 [.p n 0,eI c] [.box n (wC w us)] fun r post=>r= .ret (.b (decide (3<=c)&&decide (c<3+(w.parents.length:Int))))/\post= [.box n (wC w us)]:=by
 intro Z hs;have hw:IntKind.i64.wrap (3+((En w.parents).length:Nat))=3+(w.parents.length:Int):=by rw[Ca,wrap64 (by omega) (by omega)]
 refine jt kZ ?_
 conv=>whnf
 repeat'((first|clear U K|apply st|(apply zk;intro K U)|refine zY ?_|refine za (fun hc=>?_) fun hc=>?_|fail)<;>conv=>whnf)
 .refine AI ⟨_,⟨?_,rfl⟩,hs⟩
  rw[hw,decide_eq_true (show 3<=c by omega)];rfl
 .refine AI ⟨_,⟨?_,rfl⟩,hs⟩
  rw[decide_eq_false (show¬3<=c by omega)];rfl
def pG (w:AF) (us:List Nat) (c:Int) (hM:w.parents.length<=60):Pure zP 247 [.rp (wC w us),eI c] (.b (decide (3<=c)&&decide (c<3+(w.parents.length:Int)))):=by
 have hw:IntKind.i64.wrap (3+((En w.parents).length:Nat))=3+(w.parents.length:Int):=by rw[Ca,wrap64 (by omega) (by omega)]
 refine jt kZ ?_;have hs:=Sn
 conv=>whnf
 repeat'((first|clear U K|apply st|(apply zk;intro K U)|refine zY ?_|refine za (fun hc=>?_) fun hc=>?_|fail)<;>conv=>whnf)
 .refine AG ?_
  rw[hw,decide_eq_true (show 3<=c by omega)];rfl
 .refine AG ?_
  rw[decide_eq_false (show¬3<=c by omega)];rfl
def mu (w:AF) (us:List Nat) (c:Int) (hM:w.parents.length<=60):Pure zP 305 [.rp (wC w us),eI c] (.b (P3 w c)):=by
 have hw:IntKind.i64.wrap (3+((En w.parents).length:Nat))=3+(w.parents.length:Int):=by rw[Ca,wrap64 (by omega) (by omega)]
 refine wM kZ ?_;have hs:=Sn
 conv=>whnf
 repeat'((first|clear U K|apply st|(apply zk;intro K U)|refine zY ?_|refine za (fun hc=>?_) fun hc=>?_|fail)<;>conv=>whnf)
 .refine AG ?_
  rw[hw,P3,decide_eq_true (show 0<=c by omega)];rfl
 .refine AG ?_
  rw[P3,decide_eq_false (show¬0<=c by omega)];rfl
def oh (w:AF) (us:List Nat) (c:Int) (hM:w.owner.length<=60):Pure zP 336 [.rp (wC w us),eI c] (.b (Hy w c)):=by
 refine vZ kZ ?_;have hs:=Sn
 conv=>whnf
 repeat'((first|clear U K|apply st|(apply zk;intro K U)|refine zY ?_|refine za (fun hc=>?_) fun hc=>?_|fail)<;>conv=>whnf)
 .refine AG ?_
  rw[Hy,decide_eq_true (show 0<=c by omega),Ca];rfl
 .refine AG ?_
  rw[Hy,decide_eq_false (show¬0<=c by omega)];rfl
def pB (w:AF) (us:List Nat) (l:List Int) (f:Bool) (hM:w.owner.length<=60):Pure zP 304 [.rp (wC w us),.l (iL l) f] (.b (Eo w l)):=by
 have hall:=rU (g:=336) (fi:=[.rp (wC w us)]) (ca:=[]) (f:=Hy w) (xs:=l) f (fun y _=>oh w us y hM);refine wN kZ ?_;have hs:=Sn
 conv=>whnf
 repeat'((first|clear U K|apply st|(apply zk;intro K U)|refine zY ?_|refine zC ?_|(refine zd (fun hc=>?_) (fun hc=>?_)<;>try exact⟨⟩)|fail)<;>conv=>whnf)
 .refine AG ?_
  rw[Eo,decide_eq_true (show l.length<=2 by omega),Bool.and_true];rfl
 .refine AG ?_
  rw[Eo,decide_eq_false (show¬l.length<=2 by omega),Bool.and_false];rfl
def IA (s:Nat) (c:Int) (hs0:s<18446744073709551616) (h0:0<=c) (hc:c<64):Pure zP 245 [eU s,eI c] (eU (s|||2 ^ c.toNat)):=by
 have:=aY s c.toNat hs0 (by omega);rw[Int.toNat_of_nonneg h0]at this;exact this
def up3 {k:Nat} (h:k<3):([1,3,5]:List Nat).take k++[1|||2 ^ k]= [1,3,5].take (k+1):=by
 rcases k with _|_|_|k
 .rfl
 .rfl
 .rfl
 .omega
def pM (w : AF) (hw:B3 w):Pure zP 174 [.a (A9 w)] (.t [.rp (wC w (A5 w.parents)),.b true]):=by
 obtain⟨⟨hl,hrow⟩,ho,how⟩:=hw;have hM:=Mx;refine Pure.of ?_;refine yF kZ ?_;have hs:=Sn;have hi1:((En w.parents).length:Int)<=60:=by rw[Ca];omega
 have hi2:((iL w.owner).length:Int)<=40:=by rw[Ca];omega
 conv=>whnf
 repeat'((first|clear U K|apply st|(apply zk;intro K U)|refine zY ?_|(refine zb (fun hc=>?_) (fun hc=>?_)<;>try exact⟨⟩)|refine zo fun nn hnn Z hs=>?_|fail)<;>conv=>whnf)
 generalize nn=n0 at *;refine CZ 3 (fun k (_:Unit)=>[(24,eI (BL k))]) (fun k _=>[.box n0 (wC w ([1,3,5].take k))]) (fun k _=>True) () rfl trivial hs ?_;clear hs;rintro k - Z hk - hs;have hck:BL k=k:=Ag (by omega);have hlen:(([1,3,5]:List Nat).take k).length=k:=by simp;omega
 by_cases hlt:k<3
 .have hst:=ik w ([1,3,5].take k) (1|||2 ^ k) (by omega)
  rw[hlen,up3 hlt]at hst
  conv=>whnf
  repeat'((first|clear U K|apply st|(apply zk;intro K U)|refine zY ?_|refine Pure.use (IA 1 _ (by decide) (by omega) (by omega)) ?_|(refine zb (fun hc=>?_) (fun hc=>?_)<;>try exact⟨⟩)|fail)<;>conv=>whnf)
  refine MJ hs 0 rfl rfl (by rw[il w (by omega)];omega) fun Z hs=>?_
  refine zz ?_;(repeat clear U K);repeat intro K U
  refine⟨hlt,(),rfl,trivial,?_⟩;rw[hck,HP,Nat.mul_one,Gu]at hs;simp only[List.set_cons_zero]at hs;rw[hst]at hs;exact hs
 .have hke:k=3:=by omega
  subst hke;clear hk hck hlen hlt
  conv=>whnf
  repeat'((first|clear U K|apply st|(apply zk;intro K U)|refine zY ?_|(refine zb (fun hc=>?_) (fun hc=>?_)<;>try exact⟨⟩)|fail)<;>conv=>whnf)
  refine CZ w.parents.length (fun k (_:Unit)=>[(38,eI (BL k))]) (fun k _=>[.box n0 (wC w (Bq w.parents k))]) (fun k _=>True) () rfl trivial hs ?_;clear hs;rintro k - Z hk - hs;have hck:BL k=k:=Ag (by omega);have hul:=C5 w.parents k;have huo:=E9 w.parents k (by omega);have hw3:IntKind.i64.wrap (3+(k:Int))=3+(k:Int):=wrap64 (by omega) (by omega);rcases BF w.parents hk with⟨row,hr,hlt⟩|hke
  .obtain⟨r1,r2,r3⟩:=hrow k row hr
   rw[<-hck]at hw3
   conv=>whnf
   repeat'((first|clear U K|apply st|(apply zk;intro K U)|refine zY ?_|refine Pure.use (IA 1 _ (by decide) (by omega) (by omega)) ?_|fail)<;>conv=>whnf)
   have hbig:ra (Bq w.parents k):=huo;have hst0:IntKind.i64.wrap (3+BL k)=3+(k:Int):=by rw[hck];exact wrap64 (by omega) (by omega)
   have hs0lt:1|||2 ^ (3+k)<18446744073709551616:=H2 (by decide) (Gc (by omega))
   have hs0e:1|||2 ^ (IntKind.i64.wrap (3+BL k)).toNat=1|||2 ^ (3+k):=by rw[hst0,show(3+(k:Int)).toNat=3+k by omega]
   rw[hs0e];refine CZ row.length (fun j (s:Nat)=>[(48,eI (BL j)),(8,eU s)]) (fun _ _=>[.box n0 (wC w (Bq w.parents k))]) (fun j s=>s=T6 (Bq w.parents k) (row.take j) (1|||2 ^ (3+k))) (1|||2 ^ (3+k)) rfl rfl hs ?_;clear hs;rintro j s Z hj hse hs;rcases BF row hj with⟨c,hcj,hjlt⟩|hje
   .obtain⟨q1,q2⟩:=r3 c (CY hcj)
    have hload:(wC w (Bq w.parents k))[0+2+c.toNat*1]? =some (eU ((Bq w.parents k).getD c.toNat 0)):=by
     have:=aB w (Bq w.parents k) (i:=c.toNat) (by omega);rw[<-this];congr 1;omega
    have hnc:(row.take j).contains c=false:=by
     rw[<-Bool.not_eq_true,List.contains_iff_mem];intro hm;obtain⟨i,hi,he⟩:=List.mem_iff_getElem.1 hm;have hi':i<j:=by rw[Lq]at hi;omega
     rw[List.getElem_take]at he;have hcj':=(JT.1 hcj).2;exact absurd ((List.getElem_inj r2).1 (he.trans hcj'.symm)) (by omega)
    have hct: ∀b,Pure zP 34 [.l (iL (row.take j)) b,eI c] (.b false):=fun b=>by
     have:=Cr (row.take j) b c
     rwa [hnc]at this
    conv=>whnf
    repeat'((first|clear U K|apply st|(apply zk;intro K U)|refine zY ?_|refine Pure.use (hct _) ?_|(rw[hload])|(refine zb (fun hc=>?_) (fun hc=>?_)<;>try exact⟨⟩)|fail)<;>conv=>whnf)
    refine⟨hjlt,s|||(Bq w.parents k).getD c.toNat 0,?_,?_,hs⟩
    .have hsl:s<18446744073709551616:=by rw[hse];exact PO huo _ _ hs0lt
     rw[HG hsl (Nh huo _)];rfl
    .rw[hse,AU hcj]
     simp only[T6,List.foldl_append];rfl
   .refine zz ?_;(repeat clear U K);repeat intro K U
    refine MJ hs 0 rfl rfl (by rw[il w (by omega),hst0];omega) fun Z hs=>?_
    refine zz ?_;(repeat clear U K);repeat intro K U
    refine⟨hlt,(),rfl,trivial,?_⟩
    have e:Bq w.parents (k+1)=Bq w.parents k++[s]:=by
     rw[hse,Bq,C6,hr,hje,List.take_length];rfl
    have hst:=ik w (Bq w.parents k) s (by omega);rw[e,<-hst];have e2:0+2+(IntKind.i64.wrap (3+BL k)).toNat*1=2+(Bq w.parents k).length:=by rw[hst0,hul];omega
    rw[e2]at hs;exact hs
  .have hown:=kQ 247 [.p n0 0] [] (fun _=>[.box n0 (wC w (Bq w.parents k))]) (V8 fun c=>decide (3<=c)&&decide (c<3+(w.parents.length:Int))) (fun _ _=>True) (fun y s _ Z hs=>BA (Ar.mono (uC w (Bq w.parents k) y (by omega) Z hs) (by
    rintro r Z' ⟨post,⟨h1,h2⟩,h3⟩;subst h2
    exact⟨h1,h3⟩))) w.owner false () (Ha fun _ _ _=>trivial)
   rw[Kg]at hown
   have hall:(w.owner.all fun c=>decide (3<=c)&&decide (c<3+(w.parents.length:Int)))=true:=by
    rw[DJ];intro o hoo;have:=how o hoo;simp only[A0,CC];exact this
   rw[hall]at hown;refine zz ?_;(repeat clear U K);repeat intro K U
   refine hown.use (rest:=[]) hs ?_;rintro r post Z ⟨rfl,rfl⟩ hs;refine zz ?_;(repeat clear U K);repeat intro K U
   rw[hke]at hs;exact Is (Z2:=emp) (fun n o ho=>by cases ho) (.t (.cons (hs.oJ 0 rfl (.refl _ _ _)) (.cons (.refl _) .nil))) rfl
def Nj (w:AF) (f:Fact):Bool:=decide (0<=f.arg)&&(decide (f.arg<3)&&(Eo w f.path&&(if f.op=2 then f.n==0&&P3 w f.cls else f.cls==0&&(decide (-1000000000<=f.n)&&decide (f.n<=1000000000)))))
def Ep (w:AF) (f:Fact):Int->Int->Bool×Int:=f.HU fun f l left deep=>
 if IntKind.i64.wrap (left - 1)<0\/deep=0\/f.op<1\/7<f.op\/f.kids.length≠CE f.op then(false,IntKind.i64.wrap (left - 1))else
 if Bl f then(Nj w f,IntKind.i64.wrap (left - 1))else
 if f.arg≠0\/0<f.path.length\/f.cls≠0\/f.n≠0 then(false,IntKind.i64.wrap (left - 1))else
 CL (fun(k:Int->Int->Bool×Int) s=>k s (deep - 1)) l (IntKind.i64.wrap (left - 1))
def M3 {α β S:Type} (g:α->β) (stp:β->S->Bool×S): ∀(l:List α) (s:S),CL stp (l.map g) s=CL (fun a s=>stp (g a) s) l s
 | [],_=>rfl
 | a::r,s=>by simp only[EW,CL,M3 g stp r]
def IC (w:AF) (f:Fact) (left deep:Int):Ep w f left deep =
    if IntKind.i64.wrap (left - 1)<0\/deep=0\/f.op<1\/7<f.op\/f.kids.length≠CE f.op then(false,IntKind.i64.wrap (left - 1))else
    if Bl f then(Nj w f,IntKind.i64.wrap (left - 1))else
    if f.arg≠0\/0<f.path.length\/f.cls≠0\/f.n≠0 then(false,IntKind.i64.wrap (left - 1))else
    CL (fun k s=>Ep w k s (deep - 1)) f.kids (IntKind.i64.wrap (left - 1)):=by
 rw[Ep,Fact.DT,M3];rfl
def aG {w:AF} {f:Fact} {left deep L1:Int} {b:Bool} {nL:Nat} {Z:AE} (hs:Sat Z [.box nL [eI L1]]) (h:Ep w f left deep=(b,L1)):Aj Z (.b b) fun r Z'=> ∃post:List At,(r=R.ret (.b (Ep w f left deep).1)/\post= [.box nL [eI (Ep w f left deep).2]])/\Sat Z' post:=by
 rw[h];exact AI ⟨_,⟨rfl,rfl⟩,hs⟩
def pU (w:AF) (us:List Nat) (hw1:w.parents.length<=60) (hw2:w.owner.length<=60) (nL:Nat) (f:Fact): ∀(left deep:Int),0<=deep->deep<=12->
    BS zP 250 [.rp (wC w us),.a (xF f),.p nL 0,eI deep] [.box nL [eI left]] fun r post=>r= .ret (.b (Ep w f left deep).1)/\post= [.box nL [eI (Ep w f left deep).2]]:=by
 induction f using Fact.ind with
 | h f ih=>
   intro left deep hd0 hd1 Z hs;refine Ar.fit (by kernel_rfl) fun hf=>?_
   have⟨h2,h3,h4⟩:=Oc hf.2.1;have hM:=Mx;have hdw:IntKind.i64.wrap (deep - 1)=deep - 1:=wrap64 (by omega) (by omega);refine xK kZ ?_
   have hstep:DL zP (.f (.func 306) [] [.rp [.rp (wC w us)],.rp [.p nL 0],.rp [eI deep]]) (fun y=> .a (xF y)) (fun s=>[.box nL [eI s]]) (fun k s=>Ep w k s (deep - 1)) (fun y _=>y∈f.kids/\deep≠0):=by
    rintro y s ⟨hy,hdn⟩ Z hs;refine BA ?_;show Ar zP 306 ([]++[.a (xF y)]++[.rp [.rp (wC w us)],.rp [.p nL 0],.rp [eI deep]]) Z _;refine wL kZ ?_;refine zz ?_;(repeat clear U K);repeat intro K U
    rw[hdw];refine(ih y hy s (deep - 1) (by omega) (by omega)).use (rest:=[]) hs ?_;rintro r post Z ⟨rfl,rfl⟩ hs;refine zz ?_;(repeat clear U K);repeat intro K U
    exact AI ⟨rfl,hs⟩
   conv=>whnf
   repeat'((first|clear U K|apply st|(apply zk;intro K U)|refine zY ?_|refine rk ?_ ?_|exact fun s e=>by cases e;rfl|refine zs fun Z hs=>?_|refine Pure.use (Pa _) ?_|refine Pure.use (py _) ?_|refine Pure.use (mu w us _ hw1) ?_|refine Pure.use (pB w us _ _ hw2) ?_|(refine zd (fun hc=>?_) (fun hc=>?_)<;>try exact⟨⟩)|fail)<;>conv=>whnf)
   all_goals first
    | (refine aG hs ?_;rw[IC,if_pos (by omega)];done)
    | (refine aG hs ?_;rw[IC,if_neg (by omega),if_pos (by assumption)];simp[Nj, *];done)
    | (refine aG hs ?_;rw[IC,if_neg (by omega),if_pos (by assumption)];simp[Nj, *];intros;omega)
    | (refine aG hs ?_;rw[IC,if_neg (by omega),if_neg (by simp[*]),if_pos (by omega)];done)
    | skip
   refine(kP 306 [] _ _ _ _ hstep f.kids false (IntKind.i64.wrap (left - 1)) h2 (Ha fun y hy _=>⟨hy,by omega⟩)).use (rest:=[]) hs ?_;have hE:=IC w f left deep;rw[if_neg (by omega),if_neg (by simp[*]),if_neg (by omega)]at hE;rw[<-hE];rintro r post Z ⟨rfl,rfl⟩ hs;refine zz ?_;(repeat clear U K);repeat intro K U
   exact AI ⟨_,⟨rfl,rfl⟩,hs⟩
def L5 (w:AF) (f:Fact):Bool:=(Ep w f 24 12).1
def fD (w:AF) (us:List Nat) (hw1:w.parents.length<=60) (hw2:w.owner.length<=60) (f:Fact):Pure zP 249 [.a (xF f),.rp [.rp (wC w us)]] (.b (L5 w f)):=by
 refine Pure.of ?_;refine xL kZ ?_;have hs:=Sn
 conv=>whnf
 repeat'((first|clear U K|apply st|(apply zk;intro K U)|refine zY ?_|refine zs fun Z hs=>?_|refine zo fun nn hnn Z hs=>?_|fail)<;>conv=>whnf)
 refine(pU w us hw1 hw2 _ f 24 12 (by omega) (by omega)).use (rest:=[]) hs ?_;rintro r post Z ⟨rfl,rfl⟩ hs;refine zz ?_;(repeat clear U K);repeat intro K U
 exact AI rfl
def rT {g:FuncId} {fi ca:List V} {f:Fact->Bool} {xs:List Fact} (b:Bool) (hl:xs.length<=Ae) (h: ∀y∈xs,Pure zP g (fi++[.a (xF y)]++ca) (.b (f y))):Pure zP 248 [.l (facts xs) b,.f (.func g) fi ca] (.b (xs.all f)):=by
 have:=kP g fi ca (fun _=>[]) (fun y (_:Unit)=>(f y,())) (fun y _=>y∈xs) (fun y s hy Z hs=>BA (Ar.mono ((h y hy).use (k:=fun v Z'=>v= .b (f y)/\Sat Z' []) (kp:=fun _ _=>False) ⟨rfl,Sat.nil⟩) (by
  rintro(v|v) Z' hq
  .obtain⟨rfl,h⟩:=hq
   exact⟨rfl,h⟩
  .exact hq.elim))) xs b () hl (Ha fun y hy _=>hy)
 rw[Kg]at this;exact Pure.of (Ar.mono (this emp Sat.nil) fun r Z' ⟨post,⟨h1,h2⟩,h3⟩=>h1)
def fF (w:AF) (us:List Nat) (hw1:w.parents.length<=60) (hw2:w.owner.length<=60) (l:List Fact) (b:Bool) (hl:l.length<=60):Pure zP 175 [.rp (wC w us),.l (facts l) b] (.b (l.all (L5 w))):=by
 have hall:=rT (g:=249) (fi:=[]) (ca:=[.rp [.rp (wC w us)]]) (f:=L5 w) (xs:=l) b (by simp only[Ae];omega) fun y _=>fD w us hw1 hw2 y
 refine yE kZ ?_;have hs:=Sn;exact zW
def PS (w:AF) (hw:B3 w) (l:List Fact) (b:Bool) (hl:l.length<=60):Pure zP 118 [.a (A9 w),.l (facts l) b] (.t [.rp (wC w (A5 w.parents)),.b (l.all (L5 w))]):=by
 have hfo:=fF w (A5 w.parents) (by have:=hw.1.1;omega) (by have:=hw.2.1;omega) l b hl;refine yr kZ ?_;have hs:=Sn
 conv=>whnf
 repeat'((first|clear U K|apply st|(apply zk;intro K U)|refine zY ?_|refine Pure.use (pM w hw) ?_|refine hfo.use ?_|fail)<;>conv=>whnf)
 all_goals exact AG rfl
def gC (w:AF) (hw:B3 w) (f:Fact):Pure zP 146 [.a (A9 w),.a (xF f)] (eI (if L5 w f then 0 else 2)):=by
 have hfo: ∀b,Pure zP 118 [.a (A9 w),.l [FN f] b] (.t [.rp (wC w (A5 w.parents)),.b (L5 w f)]):=fun b=>by
  have:=PS w hw [f] b (by simp);simpa using this
 refine yY kZ ?_;have hs:=Sn;refine zz ?_;(repeat clear U K);repeat intro K U
 rw[Bn]at hfo;refine(hfo _).use ?_
 conv=>whnf
 repeat'((first|clear U K|apply st|(apply zk;intro K U)|refine Pure.use (ZL _) ?_|fail)<;>conv=>whnf)
 exact AG rfl
end Go.Gl
namespace Go.Gl
def M9 {most:Int}: ∀(l:List Fact) (n:Int),(∀k∈l,∀m:Int,(NN k:Int)<=m->Cg k m=NN k)->n+(l.map NN).sum<=most->Dm (l.map Cg) n most=n+(l.map NN).sum
 | [],n,_,_=>by simp[Dm]
 | k::r,n,h,h1=>by
   simp only[EW,List.sum_cons,Dm]at *;rw[if_pos (by omega),h k (.head _) (most - n) (by omega),M9 r _ (fun k' hk'=>h k' (.tail _ hk')) (by omega)];omega
def VK (f:Fact): ∀m:Int,(NN f:Int)<=m->Cg f m=NN f:=by
 induction f using Fact.ind with
 | h f ih=>
   intro m hm;rw[IT];rw[LK]at *;rw[M9 f.kids 1 ih (by omega)];omega
def eL (f:Fact) {m:Int} (h0:0<=m):Cg f m<=m↔(NN f:Int)<=m:=
 ⟨fun h=>by rw[<-La f m h0 h];exact h,fun h=>by rw[VK f m h];exact h⟩
def qz (f:Fact):1<=NN f:=by rw[LK];omega
def Gq {m:Int}: ∀(l:List Int) (a:Int),l.foldl Ht a<=m↔a<=m/\ ∀x∈l,x<=m
 | [],a=>by simp
 | x ::r,a=>by
   rw[List.foldl_cons,Gq r];unfold Ht;constructor
   .rintro⟨h1,h2⟩
    refine⟨by split at h1<;>omega,fun y hy=>?_⟩;rcases Fl.1 hy with rfl|hy
    .split at h1<;>omega
    .exact h2 y hy
   .rintro⟨h1,h2⟩
    have hx:=h2 x (.head _);exact⟨by split<;>omega,fun y hy=>h2 y (.tail _ hy)⟩
def mh (f:Fact) {m:Int}:EP f<=m↔1<=m/\ ∀k∈f.kids,EP k<=m - 1:=by
 rw[GU];constructor
 .intro h
  have:=(Gq (m:=m - 1) (f.kids.map EP) 0).1 (by omega);exact⟨by omega,fun k hk=>this.2 _ (List.mem_map_of_mem hk)⟩
 .rintro⟨h1,h2⟩
  have:=(Gq (m:=m - 1) (f.kids.map EP) 0).2 ⟨by omega,fun x hx=>by
   obtain⟨k,hk,rfl⟩:=Hp.1 hx
   exact h2 k hk⟩
  omega
def iN (w:AF) (f:Fact) (left deep:Int):Prop:=(NN f:Int)<=left/\EP f<=deep/\BN w f=true
def Tw (w:AF) {deep:Int}: ∀(l:List Fact) (left:Int),0<=left->left<=24->(∀k∈l,∀left:Int,0<=left->left<=24->((Ep w k left deep).1=true↔iN w k left deep)/\((Ep w k left deep).1=true->(Ep w k left deep).2=left - NN k))->
    ((CL (fun k s=>Ep w k s deep) l left).1=true↔((l.map NN).sum:Int)<=left/\ ∀k∈l,EP k<=deep/\BN w k=true)/\((CL (fun k s=>Ep w k s deep) l left).1=true->(CL (fun k s=>Ep w k s deep) l left).2=left - ((l.map NN).sum:Nat))
 | [],left,h0,h1,_=>by simp[CL];exact h0
 | k ::r,left,h0,h1,h=>by
   obtain⟨ha,hb⟩:=h k (.head _) left h0 h1;simp only[CL,EW,List.sum_cons];cases hk:(Ep w k left deep).1
   .simp only[NM,if_false,false_iff,false_implies,and_true]
    rintro⟨h2,h3⟩;have:=ha.2 ⟨by omega,(h3 k (.head _)).1,(h3 k (.head _)).2⟩;rw[hk]at this;cases this
   .obtain⟨g1,g2,g3⟩:=ha.1 hk
    have hc:=qz k;rw[if_pos rfl,hb hk];obtain⟨i1,i2⟩:=Tw w r (left - NN k) (by omega) (by omega) fun k' hk'=>h k' (.tail _ hk')
    refine⟨i1.trans ⟨fun⟨e1,e2⟩=>⟨by omega,fun x hx=>?_⟩,fun⟨e1,e2⟩=>⟨by omega,fun x hx=>e2 x (.tail _ hx)⟩⟩,fun h=>by rw[i2 h];omega⟩;rcases Fl.1 hx with rfl|hx
    .exact⟨g2,g3⟩
    .exact e2 x hx
def pT (w : AF) (f:Fact): ∀left deep:Int,0<=left->left<=24->0<=deep->((Ep w f left deep).1=true↔iN w f left deep)/\((Ep w f left deep).1=true->(Ep w f left deep).2=left - NN f):=by
 induction f using Fact.ind with
 | h f ih=>
   intro left deep h0 h1 hd;have hw:IntKind.i64.wrap (left - 1)=left - 1:=wrap64 (by omega) (by omega);rw[IC,hw];have hc:=LK f;have hn:=By w f;have hdl:=mh f (m:=deep)
   have hko:C8 w f=true->f.kids.length=CE f.op:=fun h=>by
    simp only[C8,A0,Cd]at h;exact h.2.1
   have hop:C8 w f=true->1<=f.op/\f.op<=7:=fun h=>by
    simp only[C8,A0]at h;have h1:=h.1;unfold VY at h1;split at h1
    .omega
    split at h1
    .omega
    simp at h1;omega
   by_cases hbad:left - 1<0\/deep=0\/f.op<1\/7<f.op\/f.kids.length≠CE f.op
   .rw[if_pos hbad]
    simp only[NM,false_iff,false_implies,and_true];rintro⟨g1,g2,g3⟩;rw[hn,A0]at g3;have g4:=hko g3.1;have g5:=hop g3.1;have g6:=(hdl.1 g2).1;omega
   rw[if_neg hbad];by_cases hl:Bl f=true
   .rw [if_pos hl]
    have hl':f.op=2\/f.op=3\/f.op=4:=by
     simp only[Bl,Ea,Cd]at hl;omega
    have hk0:f.kids= []:=by
     have:f.kids.length=CE f.op:=by omega
     rw[CE,if_neg (by omega),if_neg (by omega)]at this;exact YM.1 this
    have hd1:EP f=1:=by rw[GU,hk0];rfl
    have hc1:NN f=1:=by rw[hc,hk0];rfl
    have hh:C8 w f=Nj w f:=by
     unfold C8 VY Nj;rw[hl,hk0];have e:CE f.op=0:=by rw[CE,if_neg (by omega),if_neg (by omega)]
     rw[e];simp only[List.length_nil,beq_self_eq_true,Cm,Bool.true_or,Bool.and_true];rcases hl' with e|e|e
     .rw[if_pos e,if_pos e]
      cases(f.n==0&&P3 w f.cls)<;>simp
     .rw[if_neg (show¬f.op=2 by omega),if_neg (show¬f.op=2 by omega),if_pos (show f.op=3\/f.op=4 from .inl e)]
      cases(f.cls==0&&(decide (-1000000000<=f.n)&&decide (f.n<=1000000000)))<;>simp
     .rw[if_neg (show¬f.op=2 by omega),if_neg (show¬f.op=2 by omega),if_pos (show f.op=3\/f.op=4 from .inr e)]
      cases(f.cls==0&&(decide (-1000000000<=f.n)&&decide (f.n<=1000000000)))<;>simp
    refine⟨⟨fun h=>⟨by omega,by omega,?_⟩,fun⟨_,_,h⟩=>?_⟩,fun _=>by dsimp only;omega⟩
    .rw[hn,hk0,hh];simpa using h
    .rw[hn,hk0,hh]at h;simpa using h
   .have hl':f.op=1\/f.op=5\/f.op=6\/f.op=7:=by
     simp only[Bl,Ea,Cd]at hl;omega
    have hlf:Bl f=false:=by simpa using hl
    rw[if_neg hl];by_cases hz:f.arg≠0\/0<f.path.length\/f.cls≠0\/f.n≠0
    .rw[if_pos hz]
     simp only[NM,false_iff,false_implies,and_true];rintro⟨g1,g2,g3⟩;rw[hn,A0]at g3;have g4:=g3.1;simp only[C8,hlf,Bool.false_or,A0,Cd]at g4;omega
    .rw [if_neg hz]
     obtain⟨i1,i2⟩:=Tw w (deep:=deep - 1) f.kids (left - 1) (by omega) (by omega) fun k hk left hl0 hl1=>ih k hk left (deep - 1) hl0 hl1 (by omega)
     have hh:C8 w f=true:=by
      have hp:f.path= []:=YM.1 (by omega)
      have e1:VY w f=true:=by
       unfold VY;rw[if_neg (by omega),if_neg (by omega)];simp only[Ea,Cd];omega
      have z1:f.arg=0:=by omega
      have z2:f.cls=0:=by omega
      have z3:f.n=0:=by omega
      have z4:f.kids.length=CE f.op:=by omega
      simp[C8,e1,hlf,hp,z1,z2,z3,z4,Eo]
     refine⟨i1.trans ⟨fun⟨e1,e2⟩=>⟨by omega,hdl.2 ⟨by omega,fun k hk=>(e2 k hk).1⟩,?_⟩,fun⟨g1,g2,g3⟩=>⟨by omega,fun k hk=>⟨(hdl.1 g2).2 k hk,?_⟩⟩⟩,fun h=>by rw[i2 h];omega⟩
     .rw[hn,hh,Cm,DJ]
      exact fun k hk=>(e2 k hk).2
     .rw[hn,hh,Cm,DJ]at g3
      exact g3 k hk
def Pg (w:AF) (f:Fact):L5 w f=Ct w f:=by
 have:=(pT w f 24 12 (by omega) (by omega) (by omega)).1;rw[L5,Ct,G3,this,iN];simp only[A0,CC];rw[eL f (by omega)]
end Go.Gl
namespace Go.Gl
open Go.Proofs
attribute [local irreducible] Ar Aj AZ AQ AL AX AP AR AJ AW AM AN Am Av Sat AT As Aa W
def Mr {p:Prog} (h:A7 p=true):B3 (AK p)/\Br p.AO<=40/\p.AO.length<=10:=by
 have h1:=h;rw[Rw]at h1;simp only[A0,CC]at h1;have h2:=h;simp only[A7,A0,CC]at h2;have hm:=(FT _ _ h2.2.1).1;refine⟨⟨D6 h1.2.2.2.1,?_,fun o ho=>?_⟩,by omega,h1.1⟩
 .rw[AK,Cj];omega
 .have:=GM ho
  simp only[AK,Az,Ca];omega
def nZ (s:List Int):Prop:= ∀x∈s,(-1:Int)<=x
def qQ {s:List Int} (h:nZ s) (i:Nat) {x:Int} (hx:0<=x):nZ (s.set i x):=fun y hy=>by
 rcases List.mem_or_eq_of_mem_set hy with hy|rfl
 .exact h y hy
 .omega
def XB {f:Int->Int->List Int->Option (List Int)} (hf: ∀ {a b s s'},0<=b->f a b s=some s'->nZ s->nZ s') {op size:Int} (h0:0<=size): ∀(i:Nat) (l:List Int) {s s':List Int},Fs f op size i l s=some s'->nZ s->nZ s'
 | _,[],s,s',h,hs=>by cases h;exact hs
 | i,k::r,s,s',h,hs=>by
   simp only[Fs]at h;split at h
   .cases h
   .rename_i s1 h1
    refine XB hf h0 (i+1) r h (hf ?_ h1 hs);split<;>omega
def MW {p:Prog} {next:Bool}: ∀(d:Nat) {n size:Int} {s s':List Int},0<=size->CS p next d n size s=some s'->nZ s->nZ s'
 | 0,_,_,_,_,_,h,_=>by cases h
 | d + 1,n,size,s,s',h0,h,hs=>by
   simp only[CS]at h;split at h
   .cases h
   .split at h
    .cases h
    .split at h
     .exact XB (fun hb h hs=>MW d hb h hs) h0 0 _ h (qQ hs _ h0)
     .cases h
def qR {s:List Int} (h:nZ s):(s.all fun n=>decide (0<=n))= !s.contains (-1):=by
 rw[G3];simp only[DJ,CC,Bool.not_eq_true',<-Bool.not_eq_true,List.contains_iff_mem];constructor
 .intro h1 h2
  have:=h1 _ h2;omega
 .intro h1 x hx
  have:=h x hx;rcases Int.lt_or_le x 0 with hlt|hle
  .exact absurd ((show x= -1 by omega) ▸ hx) h1
  .exact hle
def zG (p:Prog) (nO:Nat) (r:R) (Z:AE):Prop:=
 match BQ p with
 | some s=>r= .ret (.t [])/\ ∃v,Sat Z [.box nO [v],.own v 1 (iL s)]
 | none=>r= .Bh D3/\ ∃v s,Sat Z [.box nO [v],.own v 1 (iL s)]
def cj {p:Prog} {nO:Nat} {Z:AE} {v:V} {s:List Int} {l:List At} (h:BQ p=none) (hs:Sat Z l) (hsub: [At.box nO [v],.own v 1 (iL s)].Sublist l):AZ Z D3 (zG p nO):=DV (by
 rw[zG,h]
 exact⟨rfl,v,s,hs.less hsub⟩)
def szT {p:Prog} {nO:Nat} {Z:AE} {v:V} {s:List Int} {l:List At} (h:BQ p=some s) (hs:Sat Z l) (hsub: [At.box nO [v],.own v 1 (iL s)].Sublist l):Aj Z (.t []) (zG p nO):=AI (by
 rw[zG,h]
 exact⟨rfl,v,hs.less hsub⟩)
def UR {p:Prog} (h:C2 p=false):BQ p=none:=by unfold BQ;rw[h];rfl
def cM {w:AF} {f:Fact} (h:Ct w f=true):QI f=true:=RZ (w:=w) f (by simp only[Ct,A0]at h;exact h.2.2)
def Zj {w:AF} (hw:B3 w) (f:Fact):Pure zP 146 [.a (A9 w),.a (xF f)] (eI (if Ct w f then 0 else 2)):=by
 rw[<-Pg];exact gC w hw f
def eE {α:Type} (a b c:α): [a,b,c].Perm [c,b,a]:=by simpa using(List.reverse_perm [a,b,c]).symm
def lS (p : Prog) (nO:Nat) (Z:AE) (hs:Sat Z [.box nO [.l [] true]]):Ar zP 281 [.rp (BR p),.p nO 0] Z (zG p nO):=by
 refine Ar.fit (by kernel_rfl) fun hf=>?_
 have hM:=Mx
 have hfp:FO (.a (BR p)):=by
  have:=hf.1;simp only[U9]at this;simpa only[Jq]using this
 have⟨p1,p2,p3,p4⟩:=G7 hfp;refine wg kZ ?_;have hcl:=Z2 p;replace hs:Sat Z [.box nO [.l [] true],.own (.l [] true) 1 (iL [])]:=Gy hs 1;cases hcB:A7 p with
 | false=>
   rw[hcB]at hcl
   conv=>whnf
   repeat'((first|apply st|(apply sq;intro K U)|(apply si;intro A B hA hB)|refine⟨kZ,?_⟩|fail)<;>conv=>whnf)
   refine hcl.use (pre:=[]) (rest:=[.box nO [.l [] true],.own (.l [] true) 1 (iL [])]) hs ?_;rintro r post Z ⟨rfl,rfl⟩ hs
   conv=>whnf
   repeat'((first|(refine hB _ _ _ ?_;clear hB B hA A)|clear U K)<;>conv=>whnf)
   exact cj (UR (by simp[C2,hcB])) hs (.refl _)
 | true=>
   rw[hcB]at hcl;obtain⟨hgW,hmS,h10⟩:=Mr hcB
   conv=>whnf
   repeat'((first|apply st|(apply sq;intro K U)|(apply si;intro A B hA hB)|refine⟨kZ,?_⟩|fail)<;>conv=>whnf)
   refine hcl.use (pre:=[]) (rest:=[.box nO [.l [] true],.own (.l [] true) 1 (iL [])]) hs ?_;clear hs;rintro r post Z ⟨rfl,rfl⟩ hs
   conv=>whnf
   repeat'((first|apply st|(apply sq;intro K U)|(apply si;intro A B hA hB)|(refine hA _ _ ?_;clear hB B hA A)|(refine hB _ _ _ ?_;clear hB B hA A)|(apply U;clear U K)|refine⟨rfl,?_⟩|(refine Cz (fun hc=>?_) (fun hc=>?_)<;>(replace hc:=bp hc)<;>(try simp(disch:=omega) only[Ca,wrap64,Ag]at hc)<;>(try(cases hc;done)))|(constructor<;>intro hc<;>(try rw[hc])<;>(replace hc:=bp hc)<;>(try simp(disch:=omega) only[Ca,wrap64,Ag]at hc))|clear U K)<;>conv=>whnf)
   rotate_left
   all_goals first
    | exact cj (UR (by simp[C2, *];intros;omega)) hs (.refl _)
    | skip
   have a1:p.Cb.length<=8:=by omega
   have a2:p.methods.length<=16:=by omega
   have a3:1<=p.nodes.length:=by omega
   have a4:p.nodes.length<=120:=by omega
   have hg:C2 p=p.Cb.all fun g=>decide (1<=g)&&decide (g<=3):=by
    simp only[C2,a1,a2,a3,a4,decide_true,Cm];simp[*]
   refine CZ p.Cb.length (fun k (_:Unit)=>[(36,eI (BL k))]) (fun _ _=>[.box nO [.l [] true],.own (.l [] true) 1 (iL [])]) (fun k _=>C2 p=(p.Cb.drop k).all fun g=>decide (1<=g)&&decide (g<=3)) () rfl (by simpa using hg) hs ?_;clear hs hg;rintro k - Z hk hn hs;rcases BF p.Cb hk with⟨g,hgk,hlt⟩|hke
   .rw[drop_cons hgk,R8]at hn
    conv=>whnf
    repeat'((first|apply st|(apply sq;intro K U)|(apply si;intro A B hA hB)|(refine hA _ _ ?_;clear hB B hA A)|(refine hB _ _ _ ?_;clear hB B hA A)|(apply U;clear U K)|refine⟨rfl,?_⟩|refine ix ?_|(refine fck (fun hc=>?_)<;>(try rw[hc])<;>clear hc)|(refine Cz (fun hc=>?_) (fun hc=>?_)<;>(replace hc:=bp hc)<;>(try simp(disch:=omega) only[Ca,wrap64,Ag]at hc)<;>(try(cases hc;done)))|(constructor<;>intro hc<;>(try rw[hc])<;>(replace hc:=bp hc))|clear U K)<;>conv=>whnf)
    .exact⟨hlt,(),rfl,by rw[hn];simp[*],hs⟩
    .exact cj (UR (by rw[hn,decide_eq_false (show¬g<=3 by omega)];simp)) hs (.refl _)
    .exact cj (UR (by rw[hn,decide_eq_false (show¬1<=g by omega)];simp)) hs (.refl _)
   .have hh : C2 p=true:=by rw[hn,Ao hke];rfl
    have hL:=bR hh;clear hn
    conv=>whnf
    repeat'((first|apply st|(apply sq;intro K U)|(apply si;intro A B hA hB)|(refine hA _ _ ?_;clear hB B hA A)|(apply U;clear U K)|refine⟨rfl,?_⟩|(refine fcn (fun hc=>?_)<;>(try rw[hc])<;>clear hc)|clear U K)<;>conv=>whnf)
    rw[Ca];refine(dn p.nodes.length a3 a4).use (pre:=[]) (rest:=[.box nO [.l [] true],.own (.l [] true) 1 (iL [])]) hs ?_;clear hs;rintro r post Z ⟨v,rfl,rfl,hv⟩ hs
    conv=>whnf
    repeat'((first|apply st|(apply sq;intro K U)|(apply si;intro A B hA hB)|(refine hA _ _ ?_;clear hB B hA A)|(apply U;clear U K)|refine⟨kZ,?_⟩|refine s1b fun Z hs=>?_|refine snb fun Z hs=>?_|refine Pure.use (WY p (by omega) (by omega)) ?_|(intro nn hnn;generalize hg:B5 _ nn _=Z;refine alF hg fun hs=>?_;clear hg)|fail)<;>conv=>whnf)
    rename_i nw hnw _ hs;generalize nn=n5 at *;replace hs:=hs.less (show [At.box n5 (A9 (AK p)),.own v 1 (iL (List.replicate p.nodes.length (-1))),.box nO [v]].Sublist _ from .cons₂ _ (.cons₂ _ (.cons₂ _ (.cons _ .slnil))));refine CZ p.methods.length (fun k (s:List Int)=>[(59,eI (BL k))]) (fun _ s=>[.box nO [v],.own v 1 (iL s),.box n5 (A9 (AK p))]) (fun k s=>s.length=p.nodes.length/\nZ s/\BQ p=Ku p (runM p (p.methods.drop k) s)) (List.replicate p.nodes.length (-1)) rfl ⟨by simp,fun x hx=>by rw[List.eq_of_mem_replicate hx];omega,hL⟩ (hs.perm (eE _ _ _)) ?_;clear hs hnw hnn;rintro k s Z hk ⟨hl,hge,hn⟩ hs;rcases BF p.methods hk with⟨m,hm,hlt⟩|hke
    .have hF:=Zj hgW m.fact
     cases hfB:Ct (AK p) m.fact with
     | false=>
       rw[hfB,if_neg Bool.false_ne_true]at hF;have hno:=Di hm hn (by simp[Pt,hfB])
       conv=>whnf
       repeat'((first|apply st|(apply sq;intro K U)|(apply si;intro A B hA hB)|(refine hA _ _ ?_;clear hB B hA A)|(refine hB _ _ _ ?_;clear hB B hA A)|(refine hB _ _ fun Z hsub=>?_;clear hB B hA A)|(apply U;clear U K)|apply dr|refine rk ?_ ?_|exact fun s e=>by cases e;rfl|refine⟨rfl,?_⟩|refine⟨kZ,?_⟩|refine ix ?_|refine ld ?_|refine snb fun Z hs=>?_|(refine fck (fun hc=>?_)<;>(try rw[hc])<;>clear hc)|(refine Cz (fun hc=>?_) (fun hc=>?_)<;>(replace hc:=bp hc)<;>(try simp(disch:=omega) only[Ca,wrap64,Ag]at hc)<;>(try(cases hc;done)))|refine hF.use ?_|(constructor<;>intro hc<;>(try rw[hc])<;>(replace hc:=bp hc)<;>try(exfalso;omega))|(intro nn hnn;generalize hg:B5 _ nn _=Z;refine alF hg fun hs=>?_;clear hg)|clear U K)<;>conv=>whnf)
       all_goals first
        | (refine cj (v:=v) (s:=s) hno hs ?_;(repeat first|exact O4 _|apply List.Sublist.cons₂|apply List.Sublist.cons);done)
        | (refine cj (v:=v) (s:=s) hno (hs.up (by assumption)) ?_;(repeat first|exact O4 _|apply List.Sublist.cons₂|apply List.Sublist.cons);done)
        | skip
     | true=>
       rw[hfB,if_pos rfl]at hF;have hsp:=dd _ (cM hfB)
       conv=>whnf
       repeat'((first|apply st|(apply sq;intro K U)|(apply si;intro A B hA hB)|(refine hA _ _ ?_;clear hB B hA A)|(refine hB _ _ _ ?_;clear hB B hA A)|(refine hB _ _ fun Z hsub=>?_;clear hB B hA A)|(apply U;clear U K)|apply dr|refine rk ?_ ?_|exact fun s e=>by cases e;rfl|refine⟨rfl,?_⟩|refine⟨kZ,?_⟩|refine ix ?_|refine iqk ?_|refine iq fun x hx=>?_|refine ld ?_|refine snb fun Z hs=>?_|(refine fck (fun hc=>?_)<;>(try rw[hc])<;>clear hc)|(refine Cz (fun hc=>?_) (fun hc=>?_)<;>(replace hc:=bp hc)<;>(try simp(disch:=omega) only[Ca,wrap64,Ag]at hc)<;>(try(cases hc;done)))|refine hF.use ?_|refine hsp.use ?_|(constructor<;>intro hc<;>(try rw[hc])<;>(replace hc:=bp hc)<;>(try simp(disch:=omega) only[Ca,wrap64,Ag]at hc)<;>try(exfalso;omega))|(intro nn hnn;generalize hg:B5 _ nn _=Z;refine alF hg fun hs=>?_;clear hg)|clear U K)<;>conv=>whnf)
       all_goals first
        | (refine cj (v:=v) (s:=s) (Di hm hn ?_) hs ?_;(simp[Pt, *];intros;omega);(repeat first|exact O4 _|apply List.Sublist.cons₂|apply List.Sublist.cons);done)
        | (refine cj (v:=v) (s:=s) (Di hm hn ?_) (hs.up (by assumption)) ?_;(simp[Pt, *];intros;omega);(repeat first|exact O4 _|apply List.Sublist.cons₂|apply List.Sublist.cons);done)
        | skip
       rotate_left 2
       .refine cj (v:=v) (s:=s) (Di hm hn ?_) (hs.up (by assumption)) ?_
        .simp only[Pt,show p.Cb.getD m.gen.toNat 0=x by rw[C6,hx];rfl,decide_eq_false (show¬DE m.fact<=x by omega),Bool.and_false]
        .repeat first|exact O4 _|apply List.Sublist.cons₂|apply List.Sublist.cons
       all_goals
        have hx13:=TS hh hx;have hgd:p.Cb.getD m.gen.toNat 0=x:=by rw[C6,hx];rfl
        have hok:Pt p m=true:=by simp only[Pt,hgd,A0,CC];exact⟨by omega,by omega,by omega,by omega,hfB,by assumption⟩
        have hgo:=fun s'=>a6 (s':=s') hm hn hok
        have hno:=TA hm hn hok;rw[hgd]at hgo hno
       .have hnb:Ks m.kind=(m.kind==4):=by simp[Ks, *]
        rw[hnb]at hgo hno;refine BA ((VE p (m.kind==4) hv m.node x s (by omega) (by omega) hl [.box n5 (A9 (AK p))] Z (hs.less (.cons _ (.refl _)))).mono ?_);cases hw:CS p (m.kind==4) 12 m.node x s with
        | none=>
          clear hs;rintro r Z' ⟨rfl,s',hl',hs⟩
          conv=>whnf
          repeat'((first|(refine hB _ _ fun Z hsub=>?_;clear hB B hA A)|clear U K)<;>conv=>whnf)
          exact cj (v:=v) (s:=s') (hno hw) (hs.up (by assumption)) (.cons₂ _ (.cons₂ _ (O4 _)))
        | some s2=>
          clear hs;rintro r Z' ⟨rfl,hs⟩
          conv=>whnf
          repeat'((first|(apply si;intro A B hA hB)|(refine hA _ _ ?_;clear hB B hA A)|(apply U;clear U K)|apply dr|refine⟨rfl,?_⟩|clear U K)<;>conv=>whnf)
          exact⟨hlt,s2,rfl,⟨(KM _ hw).trans hl,MW _ (by omega) hw hge,hgo s2 hw⟩,hs⟩
       .have hnb:Ks m.kind=true:=by simp[Ks, *]
        rw[hnb]at hgo hno;refine BA ((VE p true hv m.node x s (by omega) (by omega) hl [.box n5 (A9 (AK p))] Z (hs.less (.cons _ (.refl _)))).mono ?_);cases hw:CS p true 12 m.node x s with
        | none=>
          clear hs;rintro r Z' ⟨rfl,s',hl',hs⟩
          conv=>whnf
          repeat'((first|(refine hB _ _ fun Z hsub=>?_;clear hB B hA A)|clear U K)<;>conv=>whnf)
          exact cj (v:=v) (s:=s') (hno hw) (hs.up (by assumption)) (.cons₂ _ (.cons₂ _ (O4 _)))
        | some s2=>
          clear hs;rintro r Z' ⟨rfl,hs⟩
          conv=>whnf
          repeat'((first|(apply si;intro A B hA hB)|(refine hA _ _ ?_;clear hB B hA A)|(apply U;clear U K)|apply dr|refine⟨rfl,?_⟩|clear U K)<;>conv=>whnf)
          exact⟨hlt,s2,rfl,⟨(KM _ hw).trans hl,MW _ (by omega) hw hge,hgo s2 hw⟩,hs⟩
    .subst hke
     rw[List.drop_length,runM]at hn
     conv=>whnf
     repeat'((first|apply st|(apply sq;intro K U)|(apply si;intro A B hA hB)|(refine hA _ _ ?_;clear hB B hA A)|(apply U;clear U K)|refine⟨rfl,?_⟩|refine⟨kZ,?_⟩|refine ix ?_|refine ld ?_|refine snb fun Z hs=>?_|(refine fc (fun x hx hlt hc=>?_) (fun hk hc=>?_)<;>(try rw[hc])<;>clear hc)|(constructor<;>intro hc<;>(try rw[hc])<;>(replace hc:=bp hc)<;>try(exfalso;omega))|(intro nn hnn;generalize hg:B5 _ nn _=Z;refine alF hg fun hs=>?_;clear hg)|clear U K)<;>conv=>whnf)
     rw[Ku]at hn;refine BA ((VE p false hv p.main 0 s (by omega) (by omega) hl [.box n5 (A9 (AK p))] Z hs).mono ?_);cases hw:CS p false 12 p.main 0 s with
     | none=>
       rw[hw]at hn;clear hs;rintro r Z' ⟨rfl,s',hl',hs⟩
       conv=>whnf
       repeat'((first|(refine hB _ _ _ ?_;clear hB B hA A)|clear U K)<;>conv=>whnf)
       exact cj (v:=v) (s:=s') hn hs (.cons₂ _ (.cons₂ _ (O4 _)))
     | some s2=>
       rw[hw]at hn;have hge2:=MW _ (by omega) hw hge;simp only[qR hge2]at hn;clear hs;rintro r Z' ⟨rfl,hs⟩;have hct:=fun f=>Cr s2 f (-1)
       cases hyes:s2.contains (-1)with
       | true=>
         rw[hyes]at hct hn
         conv=>whnf
         repeat'((first|(apply si;intro A B hA hB)|(refine hA _ _ ?_;clear hB B hA A)|(apply U;clear U K)|refine ld ?_|fail)<;>conv=>whnf)
         refine Pure.Vk (hct false) (.cons (hs.HQ 1 rfl) (.cons (.refl _) .nil)) rfl ?_
         conv=>whnf
         repeat'((first|(refine hB _ _ _ ?_;clear hB B hA A)|(refine Cz (fun hc=>?_) (fun hc=>?_)<;>(replace hc:=bp hc)<;>(try simp(disch:=omega) only[Ca,wrap64,Ag]at hc)<;>(try(cases hc;done)))|fail)<;>conv=>whnf)
         all_goals exact cj (v:=v) (s:=s2) hn (by first|exact hs|exact hs.up (by assumption)) (.cons₂ _ (.cons₂ _ (O4 _)))
       | false=>
         rw[hyes]at hct hn
         conv=>whnf
         repeat'((first|(apply si;intro A B hA hB)|(refine hA _ _ ?_;clear hB B hA A)|(apply U;clear U K)|refine ld ?_|fail)<;>conv=>whnf)
         refine Pure.Vk (hct false) (.cons (hs.HQ 1 rfl) (.cons (.refl _) .nil)) rfl ?_
         conv=>whnf
         repeat'((first|(refine hA _ _ ?_;clear hB B hA A)|(refine Cz (fun hc=>?_) (fun hc=>?_)<;>(replace hc:=bp hc)<;>(try simp(disch:=omega) only[Ca,wrap64,Ag]at hc)<;>(try(cases hc;done)))|fail)<;>conv=>whnf)
         all_goals exact szT (v:=v) hn hs (.cons₂ _ (.cons₂ _ (O4 _)))
end Go.Gl
namespace Go.Gl
variable {P:Program} {Z:AE}
def gD {v:V} {Q Q':R->AE->Prop} (h:Aj Z v Q) (hq: ∀r Z,Q r Z->Q' r Z):Aj Z v Q':=by
 obtain⟨vf,s2,h1,h2,h3⟩:=h;exact⟨vf,s2,h1,h2,hq _ _ h3⟩
def DL.more {α S:Type} {g:FuncId} {fi ca:List V} {ea:α->V} {H:S->List At} {stp:α->S->Bool×S} {D:α->S->Prop} (h:DL P (.f (.func g) fi ca) ea H stp D) (pre:List At):DL P (.f (.func g) fi ca) ea (fun s=>pre++H s) stp D:=fun y s hd Z hs=>by
 have h1:BS P g (fi++[ea y]++ca) (H s) fun r post=>r= .ret (.b (stp y s).1)/\post=H (stp y s).2:=fun Z hs=>Ar.mono (h y s hd Z hs) fun r Z' ⟨e,h2⟩=>⟨_,⟨e,rfl⟩,h2⟩
 refine BA (h1.use (rest:=pre) (hs.perm PL) ?_);rintro r post Z' ⟨rfl,rfl⟩ hs';exact⟨rfl,hs'.perm PL⟩
def Of {α S:Type} (P:Program) (x:V) (ea:α->V) (H:S->List At) (f:α->Bool) (J:S->Prop) (D:α->Prop):Prop:=
 ∀y s,D y->J s-> ∀Z,Sat Z (H s)->Am P x [ea y] Z fun r Z'=>r= .ret (.b (f y))/\ ∃s',J s'/\Sat Z' (H s')
def Of.use {α S:Type} {x:V} {ea:α->V} {H:S->List At} {f:α->Bool} {J:S->Prop} {D:α->Prop} (h:Of P x ea H f J D) {y:α} {s:S} (hd:D y) (hj:J s) (hs:Sat Z (H s)) {k kp:V->AE->Prop} (hk: ∀s' Z',J s'->Sat Z' (H s')->k (.b (f y)) Z'):Am P x [ea y] Z (qk k kp):=
 (h y s hd hj Z hs).mono fun r Z' ⟨e,s',hj',h'⟩=>by rw[e];exact hk s' Z' hj' h'
def Od {α:Type} (f:α->Bool):List α->Nat->Int
 | [],_=> -1
 | y::r,k=>if f y then(k:Int)else Od f r (k+1)
def XP {α:Type} (f:α->Bool): ∀(xs:List α) (k:Nat),decide (Od f xs k≥0)=xs.any f
 | [],_=>rfl
 | y::r,k=>by
   rw[Od,SA];cases f y
   .exact XP f r (k+1)
   .simp
end Go.Gl
namespace Go.Gl
structure Kn where
 low:Int
 high:Int
 no:List Int
 BW:Nat
 Dt:Nat
 whole:Bool
 Ac:Bool
 AH:List Int
def k0:Kn:=⟨-1000000000,1000000000,[],0,0,false,false,[]⟩
def JI (l:List Int) (s:Int):List Int:=if l.contains s then l else(l++[s]).mergeSort Ho
def B1 (k:Kn) (f:Fact) (b:Bool):Kn:=
 if f.op=2 then(if b then {k with Dt:=k.Dt|||2 ^ f.cls.toNat}else {k with BW:=k.BW|||2 ^ f.cls.toNat})
 else if f.op=3 then(if b then {k with low:=if f.n > k.low then f.n else k.low}else {k with high:=if f.n - 1<k.high then f.n - 1 else k.high,whole:=true})
 else if b then {k with no:=k.no++[f.n]}else {k with low:=if f.n > k.low then f.n else k.low,high:=if f.n<k.high then f.n else k.high,whole:=true}
def B2 (k:Kn) (b:Bool):Kn:={k with Ac:=k.Ac|| !b}
def gV (k:Kn) (s:Int):Kn:={k with AH:=JI k.AH s}
def C7 (a:Int) (p:List Int) (k:Kn) (l:Fact):Kn:=
 if(Ah l).1.arg=a/\Bm (Ah l).1.path p=true then
  (if(Ah l).1.path=p then B1 (B2 k (Ah l).2) (Ah l).1 (Ah l).2 else gV (B2 k (Ah l).2) ((Ah l).1.path.getD p.length 0))
 else k
def kn (ls:List Fact) (a:Int) (p:List Int):Kn:=ls.foldl (C7 a p) k0
def Lk (k:Kn) (f:Fact) (b:Bool):(B1 k f b).Ac=k.Ac:=by
 unfold B1
 (repeat' split)<;>rfl
def IZ (k:Kn) (f:Fact) (b:Bool):(B1 k f b).AH=k.AH:=by
 unfold B1
 (repeat' split)<;>rfl
def VM (a:Int) (p:List Int) (k:Kn) (l:Fact):(C7 a p k l).Ac=(k.Ac|| !((Ah l).2|| !((Ah l).1.arg==a&&Bm (Ah l).1.path p))):=by
 unfold C7;split
 .rename_i h
  have e:((Ah l).1.arg==a)=true:=by simpa using h.1
  rw[e,h.2];split
  .rw[Lk];simp[B2]
  .simp[gV,B2]
 .rename_i h
  have:((Ah l).1.arg==a&&Bm (Ah l).1.path p)=false:=by
   cases hb:((Ah l).1.arg==a&&Bm (Ah l).1.path p)with
   | false=>rfl
   | true=>rw[A0]at hb;exact absurd ⟨by simpa using hb.1,hb.2⟩ h
  rw[this];simp
def NG (a:Int) (p:List Int): ∀(ls:List Fact) (k:Kn),(ls.foldl (C7 a p) k).Ac=(k.Ac|| !E2 ls a p)
 | [],k=>by simp[E2]
 | l::r,k=>by
   rw[List.foldl_cons,NG a p r,VM];simp only[E2,R8];generalize (r.all _)=x;generalize ((Ah l).2||_)=y;cases k.Ac<;>cases x<;>cases y<;>rfl
def KW (ls:List Fact) (a:Int) (p:List Int):(kn ls a p).Ac= !E2 ls a p:=by rw[kn,NG];rfl
def Tx (l:List Int) (s x:Int):x∈JI l s↔x∈l\/x=s:=by
 unfold JI;split
 .rename_i h
  rw[List.contains_iff_mem]at h;constructor
  .exact .inl
  .rintro(h'|rfl)
   .exact h'
   .exact h
 .rw[(List.mergeSort_perm _ Ho).mem_iff];simp
def VU {l:List Int} (s:Int) (h:l.Pairwise (· < ·)):(JI l s).Pairwise (· < ·):=by
 unfold JI;split
 .exact h
 .rename_i hc
  have hc':s∉l:=by simpa using hc
  have hp:=List.mergeSort_perm (l++[s]) Ho;have h1:((l++[s]).mergeSort Ho).Pairwise (fun a b=>Ho a b=true):=List.pairwise_mergeSort (fun a b c=>by simp only[Ho,CC];omega) (fun a b=>by simp only[Ho,Ea,CC];omega) _
  have h2:((l++[s]).mergeSort Ho).Nodup:=hp.nodup_iff.2 (by
   rw[List.nodup_append];refine⟨h.imp fun hab=>by omega,by simp,fun a ha b hb=>?_⟩;simp only[Lp]at hb;rintro rfl
   exact hc' (hb ▸ ha))
  exact(h1.and h2).imp fun⟨h3,h4⟩=>by
   simp only[Ho,CC]at h3;omega
def LS: ∀ {l m:List Int},l.Pairwise (· < ·)->m.Pairwise (· < ·)->(∀x,x∈l↔x∈m)->l=m
 | [],[],_,_,_=>rfl
 | [],y::m,_,_,h=>absurd ((h y).2 (.head _)) (by simp)
 | x::l,[],_,_,h=>absurd ((h x).1 (.head _)) (by simp)
 | x ::l,y::m,h1,h2,h=>by
   rw[List.pairwise_cons]at h1 h2
   have hxy:x=y:=by
    rcases Fl.1 ((h x).1 (.head _))with e|hx
    .exact e
    .rcases Fl.1 ((h y).2 (.head _))with e|hy
     .exact e.symm
     .have:=h1.1 y hy
      have:=h2.1 x hx;omega
   subst hxy;congr 1;refine LS h1.2 h2.2 fun z=>?_
   constructor
   .intro hz
    rcases Fl.1 ((h z).1 (.tail _ hz))with e|hz'
    .have:=h1.1 z hz;omega
    .exact hz'
   .intro hz
    rcases Fl.1 ((h z).2 (.tail _ hz))with e|hz'
    .have:=h2.1 z hz;omega
    .exact hz'
def B4 {path pre:List Int}:Bm path pre=true↔ ∃t,path=pre++t:=by
 simp only[Bm,A0,CC,Cd];constructor
 .rintro⟨_,h⟩
  exact⟨path.drop pre.length,by conv=>lhs;rw[<-List.take_append_drop pre.length path,h]⟩
 .rintro⟨t,rfl⟩
  simp
def YJ {path p:List Int} {s:Int}:Bm path (p++[s])=true↔Bm path p=true/\path≠p/\path.getD p.length 0=s:=by
 rw[B4,B4];constructor
 .rintro⟨t,rfl⟩
  refine⟨⟨s::t,by simp⟩,fun e=>?_,by simp⟩;have:=congrArg List.length e;simp at this
 .rintro⟨⟨t,rfl⟩,hne,hs⟩
  cases t with
  | nil=>simp at hne
  | cons y t=>simp at hs;subst hs;exact⟨t,by simp⟩
def bf {a:Int} {p:List Int} {s:Int} {l:Fact}:rf a p s l=true↔(Ah l).1.arg=a/\Bm (Ah l).1.path p=true/\(Ah l).1.path≠p/\(Ah l).1.path.getD p.length 0=s:=by
 rw[rf,A0,YJ,Cd]
def X4 (a:Int) (p:List Int) (k:Kn) (l:Fact):(C7 a p k l).AH=if(Ah l).1.arg=a/\Bm (Ah l).1.path p=true/\(Ah l).1.path≠p then JI k.AH ((Ah l).1.path.getD p.length 0)else k.AH:=by
 unfold C7;by_cases h1:(Ah l).1.arg=a/\Bm (Ah l).1.path p=true
 .rw[if_pos h1]
  by_cases h2:(Ah l).1.path=p
  .rw[if_pos h2,if_neg (fun h=>h.2.2 h2),IZ];rfl
  .rw[if_neg h2,if_pos ⟨h1.1,h1.2,h2⟩];rfl
 .rw[if_neg h1,if_neg (fun h=>h1 ⟨h.1,h.2.1⟩)]
def Rq (a:Int) (p:List Int): ∀(ls:List Fact) (k:Kn),k.AH.Pairwise (· < ·)->(ls.foldl (C7 a p) k).AH.Pairwise (· < ·)/\ ∀s,s∈(ls.foldl (C7 a p) k).AH↔s∈k.AH\/ls.any (rf a p s)=true
 | [],k,h=>⟨h,fun s=>by simp⟩
 | l ::r,k,h=>by
   rw[List.foldl_cons];have e:=X4 a p k l
   have h1:(C7 a p k l).AH.Pairwise (· < ·):=by
    rw[e];split
    .exact VU _ h
    .exact h
   obtain⟨i1,i2⟩:=Rq a p r _ h1;refine⟨i1,fun s=>?_⟩;rw[i2,e,SA,Ea,bf];split
   .rename_i hc
    rw[Tx];constructor
    .rintro((h|rfl)|h)
     .exact .inl h
     .exact .inr (.inl ⟨hc.1,hc.2.1,hc.2.2,rfl⟩)
     .exact .inr (.inr h)
    .rintro(h|⟨-,-,-,h⟩|h)
     .exact .inl (.inl h)
     .exact .inl (.inr h.symm)
     .exact .inr h
   .rename_i hc
    constructor
    .rintro(h|h)
     .exact .inl h
     .exact .inr (.inr h)
    .rintro(h|⟨q1,q2,q3,-⟩|h)
     .exact .inl h
     .exact absurd ⟨q1,q2,q3⟩ hc
     .exact .inr h
def HY (n:Nat) (ls:List Fact):Prop:= ∀l∈ls,∀s∈(Ah l).1.path,(0:Int)<=s/\s<n
def CK {n:Nat} {s:Int}:s∈BD n↔0<=s/\s<n:=by
 simp only[BD,Hp,List.mem_range];constructor
 .rintro⟨m,hm,rfl⟩
  exact⟨Int.natCast_nonneg m,by simpa using hm⟩
 .rintro⟨h0,h1⟩
  exact⟨s.toNat,by omega,by simp;omega⟩
def Hk (n:Nat):(BD n).Pairwise (· < ·):=by
 rw[BD,List.pairwise_map];exact List.pairwise_lt_range.imp fun h=>by simpa using h
def ux {n:Nat} {ls:List Fact} (h:HY n ls) {a:Int} {p:List Int} {s:Int} {l:Fact} (hl:l∈ls) (hg:rf a p s l=true):0<=s/\s<n:=by
 rw[bf]at hg;obtain⟨-,h2,h3,h4⟩:=hg;obtain⟨t,ht⟩:=B4.1 h2;refine h l hl s ?_;rw[ht]at h3 h4 ⊢;cases t with
 | nil=>simp at h3
 | cons y t=>simp at h4;subst h4;simp
def Jv {n:Nat} {ls:List Fact} (h:HY n ls) (a:Int) (p:List Int):(kn ls a p).AH=Cu n ls a p:=by
 obtain⟨h1,h2⟩:=Rq a p ls k0 .nil;refine LS h1 ((Hk n).filter _) fun s=>?_
 show s∈(ls.foldl (C7 a p) k0).AH↔_;rw[h2,Cu,JU,CK];constructor
 .rintro(h|hs)
  .cases h
  .obtain⟨l,hl,hg⟩:=Hn.1 hs
   exact⟨ux h hl hg,hs⟩
 .exact fun hs=> .inr hs.2
def ET (os:List Fact) (k:Kn):Kn:=os.foldl (fun k l=>B1 k (Ah l).1 (Ah l).2) k
abbrev Dc (k:Kn):Int×Int×List Int×Nat×Nat×Bool:=(k.low,k.high,k.no,k.BW,k.Dt,k.whole)
def Q1 {k k':Kn} (h:Dc k=Dc k') (f:Fact) (b:Bool):Dc (B1 k f b)=Dc (B1 k' f b):=by
 cases k;cases k';simp only[Dc,Prod.mk.injEq]at h;obtain⟨rfl,rfl,rfl,rfl,rfl,rfl⟩:=h;unfold B1
 (repeat' split)<;>rfl
def J4 (p:List Int):Bm p p=true:=B4.2 ⟨[],by simp⟩
def fZ (a:Int) (p:List Int) (k:Kn) (l:Fact):Dc (C7 a p k l)=if Km a p l then Dc (B1 k (Ah l).1 (Ah l).2)else Dc k:=by
 unfold C7 Km;by_cases h1:(Ah l).1.arg=a
 .by_cases h2:(Ah l).1.path=p
  .have e:((Ah l).1.arg==a&&(Ah l).1.path==p)=true:=by simp[h1,h2]
   rw[if_pos ⟨h1,by rw[h2];exact J4 p⟩,if_pos h2,e,if_pos rfl];exact Q1 (k:=B2 k (Ah l).2) (k':=k) rfl _ _
  .have e:((Ah l).1.arg==a&&(Ah l).1.path==p)=false:=by simp[h2]
   rw[if_neg h2,e,if_neg Bool.false_ne_true];split<;>rfl
 .have e:((Ah l).1.arg==a&&(Ah l).1.path==p)=false:=by simp[h1]
  rw[if_neg (fun h=>h1 h.1),e,if_neg Bool.false_ne_true]
def OI (a:Int) (p:List Int): ∀(ls:List Fact) (k k':Kn),Dc k=Dc k'->Dc (ls.foldl (C7 a p) k)=Dc (ET (ls.filter (Km a p)) k')
 | [],k,k',h=>h
 | l ::r,k,k',h=>by
   rw[List.foldl_cons,List.filter_cons];have e:=fZ a p k l;split
   .rename_i ho
    rw[if_pos ho]at e;exact OI a p r _ _ (e.trans (Q1 h _ _))
   .rename_i ho
    rw[if_neg (by simpa using ho)]at e;exact OI a p r _ _ (e.trans h)
def MI (ls:List Fact) (a:Int) (p:List Int):Dc (kn ls a p)=Dc (ET (ls.filter (Km a p)) k0):=OI a p ls k0 k0 rfl
def sj (x:Fact×Bool):Bool:= !(x.1.op==2)||(decide (x.1.cls > 1)==x.2)
def dc (x:Fact×Bool) (k:Kn):V3 x (k.low,k.high,k.no)=if sj x then some ((B1 k x.1 x.2).low,(B1 k x.1 x.2).high,(B1 k x.1 x.2).no)else none:=by
 unfold V3 sj B1;by_cases h2:x.1.op=2
 .rw[if_pos h2,if_pos h2]
  cases x.2<;>cases decide (x.1.cls > 1)<;>simp[h2]
 .rw[if_neg h2,if_neg h2]
  by_cases h3:x.1.op=3
  .rw[if_pos h3,if_pos h3]
   cases x.2<;>simp[h2]
  .rw[if_neg h3,if_neg h3]
   cases x.2<;>simp[h2]
def Td: ∀(os:List Fact) (k:Kn),foldI os (k.low,k.high,k.no)=if os.all (fun l=>sj (Ah l))then some ((ET os k).low,(ET os k).high,(ET os k).no)else none
 | [],k=>rfl
 | l ::r,k=>by
   rw[foldI,dc,R8];cases hb:sj (Ah l)with
   | false=>rfl
   | true=>
     rw[if_pos rfl,Option.bind_some,Td r,Cm];rfl
def nG (k:Kn) (f:Fact) (c:Bool) (b:Nat):(B1 k f c).BW.testBit b=(k.BW.testBit b||(f.op==2&& !c&&f.cls.toNat==b)):=by
 unfold B1;by_cases h2:f.op=2
 .rw[if_pos h2]
  cases c<;>simp[h2,Nat.testBit_or,Nat.testBit_two_pow,Bool.beq_eq_decide_eq]
 .rw[if_neg h2]
  have:(f.op==2)=false:=by simpa using h2
  rw[this]
  repeat' split
  all_goals simp
def rN (k:Kn) (f:Fact) (c:Bool) (b:Nat):(B1 k f c).Dt.testBit b=(k.Dt.testBit b||(f.op==2&&c&&f.cls.toNat==b)):=by
 unfold B1;by_cases h2:f.op=2
 .rw[if_pos h2]
  cases c<;>simp[h2,Nat.testBit_or,Nat.testBit_two_pow,Bool.beq_eq_decide_eq]
 .rw[if_neg h2]
  have:(f.op==2)=false:=by simpa using h2
  rw[this]
  repeat' split
  all_goals simp
def ft (k:Kn) (f:Fact) (c:Bool):(B1 k f c).whole=(k.whole||(!c&& !(f.op==2))):=by
 unfold B1;by_cases h2:f.op=2
 .rw[if_pos h2]
  cases c<;>simp[h2]
 .rw[if_neg h2]
  have:(f.op==2)=false:=by simpa using h2
  rw[this];cases c<;>(repeat' split)<;>simp_all
def OM: ∀(os:List Fact) (k:Kn) (b:Nat),(ET os k).BW.testBit b=(k.BW.testBit b||os.any fun l=>(Ah l).1.op==2&& !(Ah l).2&&(Ah l).1.cls.toNat==b)
 | [],k,b=>by simp[ET]
 | l::r,k,b=>by
   have:=OM r (B1 k (Ah l).1 (Ah l).2) b;rw[nG]at this;rw[SA,<-Bool.or_assoc,<-this];rfl
def Q4: ∀(os:List Fact) (k:Kn) (b:Nat),(ET os k).Dt.testBit b=(k.Dt.testBit b||os.any fun l=>(Ah l).1.op==2&&(Ah l).2&&(Ah l).1.cls.toNat==b)
 | [],k,b=>by simp[ET]
 | l::r,k,b=>by
   have:=Q4 r (B1 k (Ah l).1 (Ah l).2) b;rw[rN]at this;rw[SA,<-Bool.or_assoc,<-this];rfl
def Ll: ∀(os:List Fact) (k:Kn),(ET os k).whole=(k.whole||os.any fun l=> !(Ah l).2&& !((Ah l).1.op==2))
 | [],k=>by simp[ET]
 | l::r,k=>by
   have:=Ll r (B1 k (Ah l).1 (Ah l).2);rw[ft]at this;rw[SA,<-Bool.or_assoc,<-this];rfl
def Hr (m up:Nat):Bool:=(List.range 64).all fun b=> !m.testBit b||up.testBit b
def Ma {m up:Nat} (hm:m<2 ^ 64):Hr m up=true↔ ∀b,m.testBit b=true->up.testBit b=true:=by
 simp only[Hr,DJ,List.mem_range,Ea,Bool.not_eq_true'];constructor
 .intro h b hb
  have hlt:b<64:=by
   rcases Nat.lt_or_ge b 64 with h'|h'
   .exact h'
   .rw[Nat.testBit_lt_two_pow (Nat.lt_of_lt_of_le hm (Nat.pow_le_pow_right (by decide) h'))]at hb;cases hb
  rcases h b hlt with h'|h'
  .rw[hb]at h';cases h'
  .exact h'
 .intro h b _
  cases hb:m.testBit b with
  | false=>exact .inl rfl
  | true=>exact .inr (h b hb)
def Mt {m n:Nat}:(m&&&n==0)=true↔ ∀b,m.testBit b=true->n.testBit b=true->False:=by
 rw[Cd];constructor
 .intro h b h1 h2
  have:=congrArg (fun x=>x.testBit b) h;simp[Nat.testBit_and,h1,h2]at this
 .intro h
  refine Nat.eq_of_testBit_eq fun b=>?_
  rw[Nat.testBit_and,Nat.zero_testBit];cases h1:m.testBit b with
  | false=>rfl
  | true=>
    cases h2:n.testBit b with
    | false=>rfl
    | true=>exact(h b h1 h2).elim
def Uh (c b:Nat):(1|||2 ^ c).testBit b=(b==0||b==c):=by
 rw[Nat.testBit_or,Nat.testBit_two_pow,show(1:Nat)=2 ^ 0 from rfl,Nat.testBit_two_pow];rw[G3];simp only[Ea,CC,Cd];omega
def Gz (n:Nat) (ls:List Fact):Prop:= ∀l∈ls,(Ah l).1.op=2->0<=(Ah l).1.cls/\(Ah l).1.cls<n
def Rh {m n:Nat} (h: ∀b,m.testBit b=true->b<n):m<2 ^ n:=by
 refine Nat.lt_pow_two_of_testBit _ fun i hi=>?_
 cases hb:m.testBit i with
 | false=>rfl
 | true=>have:=h i hb;omega
def MH {os:List Fact} {n:Nat} (h:Gz n os):(ET os k0).BW<2 ^ n:=Rh fun b hb=>by
 rw[OM]at hb;simp only[k0,Nat.zero_testBit,Bool.false_or,Hn,A0,Cd]at hb;obtain⟨l,hl,⟨h2,-⟩,rfl⟩:=hb;have:=h l hl h2;omega
def jQ {os:List Fact} {n:Nat} (h:Gz n os):(ET os k0).Dt<2 ^ n:=Rh fun b hb=>by
 rw[Q4]at hb;simp only[k0,Nat.zero_testBit,Bool.false_or,Hn,A0,Cd]at hb;obtain⟨l,hl,⟨h2,-⟩,rfl⟩:=hb;have:=h l hl h2;omega
def ID {os:List Fact} {b:Nat}:(ET os k0).BW.testBit b=true↔ ∃l∈os,(Ah l).1.op=2/\(Ah l).2=false/\(Ah l).1.cls.toNat=b:=by
 rw[OM];simp only[k0,Nat.zero_testBit,Bool.false_or,Hn,A0,Cd,Bool.not_eq_true',and_assoc]
def Uv {os:List Fact} {b:Nat}:(ET os k0).Dt.testBit b=true↔ ∃l∈os,(Ah l).1.op=2/\(Ah l).2=true/\(Ah l).1.cls.toNat=b:=by
 rw[Q4];simp only[k0,Nat.zero_testBit,Bool.false_or,Hn,A0,Cd,and_assoc]
def dz {os:List Fact} {n:Nat} (hn:n<=64) (h:Gz n os):(Hr (ET os k0).BW (1|||2 ^ 1)&&((ET os k0).Dt&&&(1|||2 ^ 1)==0))=os.all fun l=>sj (Ah l):=by
 rw[G3,A0,Ma (Nat.lt_of_lt_of_le (MH h) (Nat.pow_le_pow_right (by decide) hn)),Mt];simp only[ID,Uv,Uh,DJ,sj,Ea,Bool.not_eq_true',beq_eq_false_iff_ne,Cd,ne_eq];constructor
 .rintro⟨h1,h2⟩ l hl
  by_cases ho:(Ah l).1.op=2
  .right
   have hc:=h l hl ho;cases hb:(Ah l).2 with
   | false=>
     have:=h1 _ ⟨l,hl,ho,hb,rfl⟩;rw[decide_eq_false_iff_not];omega
   | true=>
     rw[CC];rcases Int.lt_or_le 1 (Ah l).1.cls with hlt|hle
     .exact hlt
     .exact(h2 _ ⟨l,hl,ho,hb,rfl⟩ (by omega)).elim
  .exact .inl ho
 .intro h1
  constructor
  .rintro b ⟨l,hl,ho,hb,rfl⟩
   rcases h1 l hl with h'|h'
   .exact absurd ho h'
   .have hc:=h l hl ho
    rw[hb,decide_eq_false_iff_not]at h';omega
  .rintro b ⟨l,hl,ho,hb,rfl⟩ hu
   rcases h1 l hl with h'|h'
   .exact absurd ho h'
   .have hc:=h l hl ho
    rw[hb,CC]at h';omega
def da (x:Fact×Bool):(!Sf x)=true↔(x.2=false->x.1.op=2/\(x.1.cls=0\/x.1.cls=2))/\(x.2=true-> ¬(x.1.op=2/\(x.1.cls=0\/x.1.cls=2))):=by
 have e:(x.1.op==2&&(x.1.cls==0||x.1.cls==2))=true↔x.1.op=2/\(x.1.cls=0\/x.1.cls=2):=by
  simp only[A0,Ea,Cd]
 rw[<-e,Sf];generalize (x.1.op==2&&(x.1.cls==0||x.1.cls==2))=y;cases x.2<;>cases y<;>simp
def Sv {os:List Fact}:(!(ET os k0).whole)=true↔ ∀l∈os,(Ah l).2=false->(Ah l).1.op=2:=by
 rw[Ll,Bool.not_eq_true',<-Bool.not_eq_true];simp only[k0,Bool.false_or,Hn,A0,Bool.not_eq_true',beq_eq_false_iff_ne];constructor
 .intro h l hl hb
  rcases Classical.em ((Ah l).1.op=2)with e|e
  .exact e
  .exact absurd ⟨l,hl,hb,e⟩ h
 .rintro h ⟨l,hl,hb,e⟩
  exact e (h l hl hb)
def ZS {os:List Fact} {n:Nat} (hn:n<=64) (h:Gz n os):(!(ET os k0).whole&&(Hr (ET os k0).BW (1|||2 ^ 2)&&((ET os k0).Dt&&&(1|||2 ^ 2)==0)))=os.all fun l=> !Sf (Ah l):=by
 rw[G3,A0,A0,Ma (Nat.lt_of_lt_of_le (MH h) (Nat.pow_le_pow_right (by decide) hn)),Mt,Sv,DJ];simp only[ID,Uv,Uh,Ea,Cd,da];constructor
 .rintro⟨h0,h1,h2⟩ l hl
  refine⟨fun hb=>?_,fun hb ⟨ho,hc⟩=>h2 _ ⟨l,hl,ho,hb,rfl⟩ (by omega)⟩;have ho:=h0 l hl hb;have hc:=h l hl ho;have:=h1 _ ⟨l,hl,ho,hb,rfl⟩;exact⟨ho,by omega⟩
 .intro h1
  refine⟨fun l hl hb=>((h1 l hl).1 hb).1,?_,?_⟩
  .rintro b ⟨l,hl,ho,hb,rfl⟩
   have:=((h1 l hl).1 hb).2;omega
  .rintro b ⟨l,hl,ho,hb,rfl⟩ hu
   have hc:=h l hl ho;exact(h1 l hl).2 hb ⟨ho,by omega⟩
def N1 {no:List Int}: ∀(k:Nat) (m:Int),(gb no k m).isSome=true↔ ∃j:Nat,j<k/\m+j∉no
 | 0,m=>by simp[gb]
 | k + 1,m=>by
   rw[gb];split
   .rename_i h
    simp only[Option.isSome_some,true_iff];refine⟨0,by omega,fun hm=>?_⟩;rw[DJ]at h;have:=h _ hm;simp at this
   .rename_i h
    rw[N1 k]
    have hm:m∈no:=by
     rcases Classical.em (m∈no)with h'|h'
     .exact h'
     .refine absurd (DJ.2 fun x hx=>?_) h
      rw[zrJ];rintro rfl;exact h' hx
    constructor
    .rintro⟨j,hj,h'⟩
     exact⟨j+1,by omega,by rw[show m+((j+1:Nat):Int)=m+1+j by omega];exact h'⟩
    .rintro⟨j,hj,h'⟩
     cases j with
     | zero=>simp at h';exact absurd hm h'
     | succ j=>exact⟨j,by omega,by rw[show m+1+(j:Int)=m+((j+1:Nat):Int) by omega];exact h'⟩
def lM {low high n:Int} {no:List Int} (h0:low<=n) (h1:n∉no) (h2: ∀m,low<=m->m<n->m∈no):(V4 (low,high,no)).isSome=decide (n<=high):=by
 rw[G3,V4,N1,CC];constructor
 .rintro⟨j,hj,h⟩
  rcases Int.lt_or_le (low+j) n with hlt|hle
  .exact absurd (h2 _ (by omega) hlt) h
  .simp only at hj;omega
 .intro h
  refine⟨(n - low).toNat,by simp only;omega,?_⟩;rw[show low+((n - low).toNat:Int)=n by omega];exact h1
end Go.Gl
