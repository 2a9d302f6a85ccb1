import Derived.Test.YtnidfcmdimehdaaGreatV14
import Derived.Test.YtnidfcmdimehdaaGreatV20
import Derived.Test.YtnidfcmdimehdaaGreatV25
import Derived.Test.YtnidfcmdimehdaaGreatV28
import Derived.Test.YtnidfcmdimehdaaGreatV30
import Derived.Test.YtnidfcmdimehdaaGreatV31
set_option linter.all false
set_option linter.defProp false
set_option maxHeartbeats 8000000
noncomputable section
namespace Go.Gl
open Go.Proofs
def Co (p:Prog) (ps:List Int):Prog:={p with AM:=p.AM++[⟨ps,[],[]⟩]}
def OF (p:Prog) (ps:List Int):Xx (AI p) (AI (Co p ps)) ps:=by
 constructor
 .simp[AI,Co,Aw]
 .simp[AI,Co,Fy,BJ]
def oS {w w':AG} {ps:List Int} (h:Xx w w' ps) (hw:He w) (hw':He w') {a b:Fact} (ha:A6 w a=true) (hb:A6 w b=true) (ha':A6 w' a=true) (hb':A6 w' b=true):Rw w' a b=Rw w a b:=by
 rw[Hb,Jq hw' ha' hb',Jq hw ha hb];constructor
 .intro H M hM hE
  have:=H (fun x=>Tl (3+w.parents.length) (M x)) (fun x=>Un h hw _ (hM x)) (by rw[Ih h,Ul hw M a ha];exact hE)
  rwa [Ih h,Ul hw M b hb]at this
 .intro H M hM hE
  have:=H M (fun x=>YJ h _ (hM x)) (by rw[<-Ih h];exact hE)
  rwa [Ih h]
def iE {p:Prog} {ps:List Int} (hp:Cg p) (hq:Cg (Co p ps)) {m n:Int} (hm:Ba p m=true) (hn:Ba p n=true):JJ (Co p ps) m n=JJ p m n:=by
 have h1:=Cm (Cu hm);have h2:=Cm (Cu hn);exact oS (OF p ps) hp.l5 hq.l5 (hp.facts _ h1).1 (hp.facts _ h2).1 (hq.facts _ h1).1 (hq.facts _ h2).1
def lu {p:Prog} {ps:List Int} (hp:Cg p) (hq:Cg (Co p ps)) {m n:Int} (hm:Ba p m=true) (hn:Ba p n=true):Ap (Co p ps) m n=Ap p m n:=by
 unfold Ap;rw[iE hp hq hm hn,iE hp hq hn hm]
def gg {p:Prog} {ps:List Int} (hp:Cg p) (hq:Cg (Co p ps)) {l:List Int} (hG:L4 p l):eg (Co p ps) l=eg p l:=by
 have:GQ (Ap (Co p ps)) (Co p ps) l=GQ (Ap p) p l:=by
  show GQ (Ap (Co p ps)) p l=_;exact XV hG fun x hx y hy _=>lu hp hq (hG.I4 x hx) (hG.I4 y hy)
 rw[eg,eg,this]
def m9 {p:Prog} {ps:List Int} (gen:Int) (hp:Cg p) (hq:Cg (Co p ps)) (hG: ∀bs,L4 p (Ct (F0 p gen) bs)) (hn: ∀f∈Ga p gen,A6 (AI p) f=true) (hn': ∀f∈Ga p gen,A6 (AI (Co p ps)) f=true) :
    DS (Co p ps) gen (EG (AI (Co p ps)))=DS p gen (EG (AI p)):=by
 have h1: ∀bs,O9 (EG (AI (Co p ps))) (Ga p gen) bs=O9 (EG (AI p)) (Ga p gen) bs:=pg (OF p ps) hp.l5 hq.l5 hn hn';show(Gt (O9 (EG (AI (Co p ps))) (Ga p gen)) (F0 p gen).length []).map (fun bs=>(Ct (F0 p gen) bs,eg (Co p ps) (Ct (F0 p gen) bs)))=_;rw[Is h1,DS];refine List.map_congr_left fun bs _=>?_
 rw[gg hp hq (hG bs)]
def eF {p:Prog} {ps:List Int} (gen:Int) (hp:Cg p) (hq:Cg (Co p ps)) (hG: ∀bs,L4 p (Ct (F0 p gen) bs)) (hn: ∀f∈Ga p gen,A6 (AI p) f=true) (hn': ∀f∈Ga p gen,A6 (AI (Co p ps)) f=true) :
    ∀x∈DS p gen (JQ (AI p) []),x∈DS (Co p ps) gen (JQ (AI (Co p ps)) []):=fun x hx=>by
 rw[DS,Hc]at hx;obtain⟨bs,hb,rfl⟩:=hx;rw[DS,Hc];refine⟨bs,Mt (fun l hl=>lX (OF p ps) hp.l5 hq.l5 hn hn' l hl) _ _ _ hb,?_⟩;show(Ct (F0 p gen) bs,eg (Co p ps) (Ct (F0 p gen) bs))=_;rw[gg hp hq (hG bs)]
end Go.Gl
namespace Go.Gl
open Go.Proofs
attribute [local irreducible] Av An Af AQ AL Ac AP AS AK Ab AN AO As A3 Sat AV A0 Ag W
def oB (l:List Int) (f kd:Bool):Pure zP 170 [.pn,.l (iL l) f,.b kd] (.b false):=by
 have c1:=tc l f;refine YV kZ ?_;have hs:=Sn;exact zW
def ju {M:List Int} {x:Int} (h:M.contains x=false):Pr M x=M++[x]:=by
 rw[Pr,if_neg (by rw[h];decide)]
def tS (p : Prog) (L:Nat) (l:List Int) (f kd:Bool) (hl:l.length<=1000):Pure zP 170 [TU p L,.l (iL l) f,.b kd] (.b (F6 p l kd)):=by
 refine Pure.fit (by kernel_rfl) fun hf=>?_
 have hM:=Mx;have c1:=yu p L l f;cases hm:l.all (Ba p)<;>rw[hm]at c1
 .have hb:F6 p l kd=false:=by
   rw[<-Bool.not_eq_true];intro h;rw[F6,A4,Dj]at h;rw[<-Bool.not_eq_true,Dj]at hm;refine hm fun x hx=>?_
   have:=h.1 x hx;simp only[mB,A4]at this;exact this.1
  refine YV kZ ?_;have hs:=Sn
  conv=>whnf
  repeat'((first|clear U K|apply st|(apply zk;intro K U)|refine zY ?_|refine zC ?_|fail)<;>conv=>whnf)
  all_goals exact AJ (by rw[hb])
 rw[Dj]at hm;refine YV kZ ?_;have hs:=Sn
 conv=>whnf
 repeat'((first|clear U K|apply st|(apply zk;intro K U)|refine zY ?_|refine zC ?_|refine zo fun nn hnn Z hs=>?_|fail)<;>conv=>whnf)
 clear c1;replace hs:Sat Z [.map nn (TV [])]:=hs;refine Cn l.length (fun i (_:Unit)=>[(17,eI (BR i))]) (fun i _=>[.map nn (TV (l.take i))]) (fun i _=>(∀k y,k<i->l[k]? =some y->mB p l kd y=true)/\(l.take i).Nodup) () rfl ⟨fun k y h=>by omega,by simp⟩ hs ?_;clear hs;rintro i - Z hi ⟨ho,hn⟩ hs;rcases BK l hi with⟨x,hx,hlt⟩|hie
 .have hci : BR i=i:=Ae (by omega)
  obtain⟨z,hz⟩: ∃z,l[0]? =some z:=⟨_,Dp (by omega)⟩
  have hz0:=Fa hz;have hmx:=hm x (Cm hx);have hmz:=hm z (Cm hz);have hbad:=fun h=>dH (p:=p) (kd:=kd) hx h
  rw[mB,hz0]at hbad;have hxP:=Cu hmx;have hzP:=Cu hmz;have c2:=qA p L x z hmx hmz;have hxr:=hmx;have hzr:=hmz;simp only[Ba,A4,Cp]at hxr hzr;cases hcon:(l.take i).contains x
  .have hne : ∀k y,k<i->l[k]? =some y->y≠x:=fun k y h h2 e=>by
    rw[<-Bool.not_eq_true,List.contains_iff_mem]at hcon;exact hcon (Cm (i:=k) (by rw[List.getElem?_take,if_pos h,h2,e]))
   have hnd:=Yy hx hn hne;have hput:=ju hcon;rw[<-AU hx]at hput;by_cases hg:(B3 p x).gen=(B3 p z).gen
   .have hoxF:(!kd||Jk p x z)=true->mB p l kd x=true:=fun h=>by rw[mB,hz0,hmx,hg,h];simp
    cases hal:Jk p x z<;>rw[hal]at c2 hoxF<;>cases kd
    all_goals
     conv=>whnf
     repeat'((first|clear U K|apply st|(apply zk;intro K U)|refine zY ?_|refine c2.use ?_|(refine J8 hs 0 rfl rfl (H5 _) ?_;rw[Mn,hcon])|(refine Ic hs 0 rfl rfl (H5 _) fun Z hs=>?_)|(refine zb (fun hc=>?_) (fun hc=>?_)<;>try exact⟨⟩)|fail)<;>conv=>whnf)
    all_goals first
     | exact AJ (by rw[hbad (by simp[hal,hg])])
     | (exfalso;simp[hg]at hc;done)
     | (have hox:=hoxF rfl
        refine⟨hlt,(),rfl,⟨fun k' y' h h2=>?_,hnd⟩,?_⟩
        .rcases Nat.lt_or_ge k' i with h'|h'
         .exact ho k' y' h' h2
         .rw[show k'=i by omega,hx]at h2
          rw[<-Option.some.inj h2];exact hox
        .replace hs:Sat Z [.map nn (DU (eI x) (.b true) (TV (l.take i)))]:=hs
         rw[aQ,hput]at hs
         exact hs)
   .conv=>whnf
    repeat'((first|clear U K|apply st|(apply zk;intro K U)|refine zY ?_|(refine J8 hs 0 rfl rfl (H5 _) ?_;rw[Mn,hcon])|(refine zb (fun hc=>?_) (fun hc=>?_)<;>try exact⟨⟩)|fail)<;>conv=>whnf)
    all_goals first
     | exact AJ (by rw[hbad (by simp[hg])])
     | (exfalso;have q:(B3 p x).gen=(B3 p z).gen:=(by assumption);exact hg q)
     | (exfalso;simp[hg]at hc;done)
  .obtain⟨k,hk⟩:=List.getElem?_of_mem (List.contains_iff_mem.1 hcon)
   rw[List.getElem?_take]at hk;split at hk
   .conv=>whnf
    repeat'((first|clear U K|apply st|(apply zk;intro K U)|refine zY ?_|(refine J8 hs 0 rfl rfl (H5 _) ?_;rw[Mn,hcon])|fail)<;>conv=>whnf)
    all_goals exact AJ (by rw[dG hx hk (by assumption)])
   .cases hk
 .refine zz ?_;(repeat clear U K);repeat intro K U
  have hall:F6 p l kd=true:=by
   rw[F6,A4,Dj];refine⟨fun y hy=>?_,decide_eq_true (by rw[hie,List.take_length]at hn;exact hn)⟩;obtain⟨k,hk⟩:=List.getElem?_of_mem hy;exact ho k y (by rw[hie];exact(JM.1 hk).1) hk
  exact AJ (by rw[hall])
end Go.Gl
namespace Go.Gl
open Go.Proofs
def xK {Z:AE} {l:List At} {i:Nat} {v:V} {sz:Nat} {es:List (List V)} (hs:Sat Z l) (hi:l[i]? =some (.own v sz es)) (he: ∀e∈es,e.length=sz) {K:V->AE->Prop} (hk: ∀v' Z',Sat Z' (l.set i (.own v' sz es))->((CR v').isSome=true\/(v'= .l es true/\v= .l es true))->K v' Z'):AP Z sz v none (some (.i .i64 (es.length:Int))) (some (.i .i64 (es.length:Int))) K:=by
 rcases hs.get hi with⟨rfl,_⟩|⟨n,cap,rfl,hn⟩
 .refine⟨he,?_⟩
  simp only[O2];refine⟨Int.le_refl _,Int.natCast_nonneg _,Int.le_refl _,trivial,?_⟩
  have hset:l.set i (.own (.l es true) sz es)=l:=by
   refine List.ext_getElem? fun j=>?_
   by_cases hj:i=j
   .subst hj
    rw[List.getElem?_set_self (JM.1 hi).1,hi]
   .rw[List.getElem?_set_ne hj]
  have:=hk (.l es true) Z (by rw[hset];exact hs) (.inr ⟨rfl,rfl⟩);simpa using this
 .unfold AP
  simp only[O2];refine⟨Int.le_refl _,Int.natCast_nonneg _,Int.le_refl _,trivial,trivial,trivial,?_⟩;rw[hn];refine⟨rfl,rfl,rfl,.inr (hk _ _ ?_ (.inl rfl))⟩;refine hs.change hi (fun b hb ha=>FI hb fun m hm=>?_) (fun b hb ha m hm=>?_) (.inr ⟨n,es.length,rfl,C3 _ _ _⟩)
  .rw[CY]
   intro e;subst e;exact ha m rfl hm
  .cases hm
   exact ha _ rfl
attribute [local irreducible] Av An Af AQ AL Ac AP AS AK Ab AN AO As A3 Sat AV A0 Ag W
def pc (xs:List Int) (v:V) (hl:xs.length<=Ad) (hv:(CR v).isSome=true\/(v= .l [] true/\xs= [])):BO zP 262 [v] [.own v 1 (iL xs)] fun r post=> ∃v',r= .ret v'/\post= [.own v' 1 (iL xs)]/\((CR v').isSome=true\/(v'= .l [] true/\xs= [])):=by
 intro Z hs;have hg:=En Cy xs;refine iT kZ ?_;refine zz ?_;(repeat clear U K);repeat intro K U
 refine xK (i:=0) hs rfl hg.1 fun v' Z hs hv'=>?_
 refine zz ?_;(repeat clear U K);repeat intro K U
 refine Ay hs (List.Sublist.refl _) (.refl _) fun Z' hs'=>⟨_,⟨v',rfl,rfl,?_⟩,hs'⟩
 rcases hv' with h|⟨h1,h2⟩
 .exact .inl h
 .rcases hv with h|⟨h3,h4⟩
  .rw[h2]at h;cases h
  .subst h4
   exact .inr ⟨h1,rfl⟩
def Vm (xs ys:List Int) (k:Nat):Prop:=ys.length=xs.length/\ ∀t,t<xs.length->ys[t]? =if t<k\/xs.length - k<=t then xs[xs.length - 1 - t]? else xs[t]?
def tf (xs:List Int):Vm xs xs 0:=⟨rfl,fun t ht=>by rw[if_neg (by omega)]⟩
def kr {xs ys:List Int} {k:Nat} (h:Vm xs ys k) (hk:xs.length<=2*k+1):ys=xs.reverse:=by
 refine List.ext_getElem? fun t=>?_
 rcases Nat.lt_or_ge t xs.length with ht|ht
 .rw[h.2 t ht,List.getElem?_reverse ht]
  split
  .rfl
  .congr 1;omega
 .rw[List.getElem?_eq_none (by rw[h.1];exact ht),List.getElem?_eq_none (by rw[List.length_reverse];exact ht)]
def dQ {xs ys:List Int} {k:Nat} {a b:Int} (h:Vm xs ys k) (hk:2*k+1<xs.length) (ha:ys[k]? =some a) (hb:ys[xs.length - 1 - k]? =some b):Vm xs ((ys.set k b).set (xs.length - 1 - k) a) (k+1):=by
 have h1:=h.2 k (by omega);have h2:=h.2 (xs.length - 1 - k) (by omega);rw[if_neg (by omega),ha]at h1;rw[if_neg (by omega),hb]at h2;refine⟨by rw[List.length_set,List.length_set];exact h.1,fun t ht=>?_⟩;have hl:=h.1;by_cases e1:t=xs.length - 1 - k
 .subst e1
  rw[List.getElem?_set_self (by rw[List.length_set];omega),if_pos (by omega),show xs.length - 1 - (xs.length - 1 - k)=k by omega,h1]
 .rw[List.getElem?_set_ne (fun e=>e1 e.symm)]
  by_cases e2:t=k
  .subst e2
   rw[List.getElem?_set_self (by omega),if_pos (by omega),h2]
  .rw[List.getElem?_set_ne (fun e=>e2 e.symm),h.2 t ht]
   by_cases e3:t<k\/xs.length - k<=t
   .rw[if_pos e3,if_pos (by omega)]
   .rw[if_neg e3,if_neg (by omega)]
end Go.Gl
namespace Go.Gl
open Go.Proofs
attribute [local irreducible] Av An Af AQ AL Ac AP AS AK Ab AN AO As A3 Sat AV A0 Ag W
def cV (xs:List Int) (v:V) (hl:xs.length<=1000) (hv:(CR v).isSome=true\/(v= .l [] true/\xs= [])):BO zP 220 [v] [.own v 1 (iL xs)] fun r post=>r= .ret (.t [])/\post= [.own v 1 (iL xs.reverse)]:=by
 intro Z hs;have hM:=Mx;have e0:((iL xs).length:Int)=xs.length:=by simp
 have hw0:IntKind.i64.wrap (((iL xs).length:Int) - 1)=(xs.length:Int) - 1:=by rw[e0,wrap64 (by omega) (by omega)]
 refine vN kZ ?_;refine zz ?_;(repeat clear U K);repeat intro K U
 refine GU (fun(x:Int×Int×List Int)=>(x.2.1+1).toNat) (fun x=>[(2,eI x.1),(3,eI x.2.1)]) (fun x=>[.own v 1 (iL x.2.2)]) (fun x=> ∃k:Nat,x.1=k/\x.2.1=(xs.length:Int) - 1 - k/\2*k<=xs.length+1/\Vm xs x.2.2 k) (0,IntKind.i64.wrap (((iL xs).length:Int) - 1),xs) rfl ⟨0,rfl,by rw[hw0];simp,by omega,tf xs⟩ hs ?_;clear hs;rintro⟨i,j,ys⟩ Z ⟨k,hi,hj,hk,hh⟩ hs;dsimp only at hi hj hh hs;dsimp only;have hyl:=hh.1;by_cases hij:i<j
 .have hsv:(CR v).isSome=true:=by
   rcases hv with h|⟨h1,h2⟩
   .exact h
   .rw[h2]at hj;simp at hj;omega
  have hwi:IntKind.i64.wrap (i+1)=i+1:=wrap64 (by omega) (by omega);have hwj:IntKind.i64.wrap (j - 1)=j - 1:=wrap64 (by omega) (by omega);obtain⟨a,ha⟩: ∃a,ys[i.toNat]? =some a:=⟨_,Dp (by omega)⟩
  obtain⟨b,hb⟩: ∃b,ys[j.toNat]? =some b:=⟨_,Dp (by omega)⟩
  conv=>whnf
  repeat'((first|clear U K|apply st|(apply zk;intro K U)|refine zY ?_|refine zs fun Z hs=>?_|refine oset (fun Z hs=>?_) (h1:=by rw[List.length_set];omega)|(refine zb (fun hc=>?_) (fun hc=>?_)<;>try exact⟨⟩)|fail)<;>conv=>whnf)
  have hik:i.toNat=k:=by omega
  have hjk:j.toNat=xs.length - 1 - k:=by omega
  refine⟨(IntKind.i64.wrap (i+1),IntKind.i64.wrap (j - 1),(ys.set i.toNat b).set j.toNat a),by dsimp only;rw[hwj];omega,rfl,⟨k+1,by dsimp only;rw[hwi];omega,by dsimp only;rw[hwj];omega,by omega,?_⟩,hs⟩;dsimp only;rw[hik]at ha ⊢;rw[hjk]at hb ⊢;exact dQ hh (by omega) ha hb
 .have he:=kr hh (by omega)
  conv=>whnf
  repeat'((first|clear U K|apply st|(apply zk;intro K U)|refine zY ?_|(refine zb (fun hc=>?_) (fun hc=>?_)<;>try exact⟨⟩)|fail)<;>conv=>whnf)
  subst he;exact Ay hs (List.Sublist.refl _) (.refl _) fun Z' hs'=>⟨_,⟨rfl,rfl⟩,hs'⟩
def ZT (p:Prog) (L:Nat) (l:List Int) (f:Bool) (hok:Cg p) (hgw:Cq (AI p)) (hfm: ∀x∈p.methods,DL (AI p) x.fact=true) (hl:T2 p l) (hnd:l.Nodup) (M:List (Int×Int)) :
    BO zP 219 [TU p L,.l (iL l) f] [.map L (LB p M)] fun r post=> ∃v M',r= .ret v/\post= [.own v 1 (iL (FL (Ap p) l.length (l.mergeSort HZ))),.map L (LB p M')]/\((CR v).isSome=true\/(v= .l [] true/\FL (Ap p) l.length (l.mergeSort HZ)= [])):=by
 intro Z hs;have hM:=Mx;have h16:=hl.many;have hml:(l.mergeSort HZ).length=l.length:=List.length_mergeSort _;have c1:=SU l f;have c2:=SX l f (by omega);refine iW kZ ?_
 conv=>whnf
 repeat'((first|clear U K|apply st|(apply zk;intro K U)|refine zY ?_|refine zs fun Z hs=>?_|refine zC ?_|refine zo fun nn hnn Z hs=>?_|fail)<;>conv=>whnf)
 clear c1 c2 hnn
 refine GU (fun(x:List Int×Bool×V×List Int×List (Int×Int))=>x.1.length) (fun x=>[(5,x.2.2.1)]) (fun x=>[.box nn [.l (iL x.1) x.2.1],.own x.2.2.1 1 (iL x.2.2.2.1),.map L (LB p x.2.2.2.2)])
  (fun x=>(∀y∈x.1,Ba p y=true)/\x.1.Nodup/\x.2.2.2.1.length+x.1.length<=16/\FL (Ap p) l.length (l.mergeSort HZ)=x.2.2.2.1++FL (Ap p) x.1.length x.1/\((CR x.2.2.1).isSome=true\/(x.2.2.1= .l [] true/\x.2.2.2.1= []))) (l.mergeSort HZ,false,.l [] true,[],M) rfl ⟨fun y hy=>hl.I4 y (List.mem_mergeSort.1 hy),(List.mergeSort_perm l HZ).symm.nodup hnd,by simpa[hml]using h16,by simp[hml],.inr ⟨rfl,rfl⟩⟩ ((DF hs 1).perm (.swap _ _ _)) ?_
 clear hs;rintro⟨l',f',v,out,M⟩ Z ⟨hme,hn,hlen,hm,hv⟩ hs;dsimp only at hme hn hlen hm hv hs;dsimp only;have hll:out.length<Ad/\(out.length+1)*8<=140737488355328:=by omega
 by_cases hz:l'.length=0
 .rw[hz]at hm
  simp only[FL,FE]at hm
  conv=>whnf
  repeat'((first|clear U K|apply st|(apply zk;intro K U)|refine zY ?_|(refine zb (fun hc=>?_) (fun hc=>?_)<;>try exact⟨⟩)|fail)<;>conv=>whnf)
  refine(pc out v (by omega) hv).use (rest:=[_,_]) (hs.perm (.swap _ _ _)) ?_;clear hs;rintro r post Z ⟨v',rfl,rfl,hv'⟩ hs;refine zz ?_;(repeat clear U K);repeat intro K U
  rw[hm];exact Ay hs (.cons₂ _ (OS _ _)) (.refl _) fun Z' hs'=>⟨_,⟨v',M,rfl,rfl,hv'⟩,hs'⟩
 .obtain⟨n,hnn⟩: ∃n,l'.length=n+1:=⟨l'.length - 1,by omega⟩
  have hne:l'≠[]:=fun e=>hz (by rw[e];rfl)
  obtain⟨i,hi⟩:=Sm hok hne hme;have hil:i<l'.length:=by simpa using List.mem_of_find?_eq_some hi
  obtain⟨x,hx⟩: ∃x,l'[i]? =some x:=⟨_,Dp hil⟩
  rw[hnn,FL,hi,Option.getD_some,Fa hx]at hm;have c3:=Nx l' f' x (by omega);rw[GI hn hx]at c3;have hel:=List.length_eraseIdx_of_lt hil
  conv=>whnf
  repeat'((first|clear U K|apply st|(apply zk;intro K U)|refine zY ?_|(refine zb (fun hc=>?_) (fun hc=>?_)<;>try exact⟨⟩)|fail)<;>conv=>whnf)
  refine(Ix 265 [] [.p nn 0,.rp [TU p L]] (fun M=>[.box nn [.l (iL l') f'],.map L (LB p M)]) _ _ (Zw p L nn l' f' hok hgw hfm hme) l' f' M (HN fun y hy _=>hme y hy)).use (rest:=[.own v 1 (iL out)]) (hs.perm (.cons _ (.swap _ _ _))) ?_;clear hs;rintro r post Z ⟨rfl,rfl⟩ hs;rw[az,hi];generalize (Bp _ l' 0 M).2=M2 at hs;dsimp only
  conv=>whnf
  repeat'((first|clear U K|apply st|(apply zk;intro K U)|refine zY ?_|refine zs fun Z hs=>?_|refine aq fun v Z hs hsl=>?_|refine zC ?_|fail)<;>conv=>whnf)
  refine⟨(l'.eraseIdx i,true,v,out++[x],M2),by dsimp only;omega,rfl,⟨fun y hy=>hme y (List.mem_of_mem_eraseIdx hy),hn.sublist (List.eraseIdx_sublist _ _),by simp;omega,?_,.inl hsl⟩,hs.perm (.cons _ (.swap _ _ _))⟩;dsimp only;rw[hm,hel,show l'.length - 1=n by omega];simp
def kC {p:Prog} {l:List Int} {k:Nat} {x:Int} (hx:l[k]? =some x) (kd:Int):DR p (l.take (k+1)) kd=if(B3 p x).kind==kd then DR p (l.take k) kd++[x]else DR p (l.take k) kd:=by
 rw[AU hx,DR,List.filter_append];cases hp:(B3 p x).kind==kd<;>simp[DR,hp]
def Mk {p:Prog} {l:List Int} {k:Nat} {kd:Int} (h:l.length<=16):(DR p (l.take k) kd).length<=16:=by
 have:=Xv (fun m=>(B3 p m).kind==kd) (l.take k);rw[Lv]at this;simp only[DR];omega
def sm (p:Prog) (L:Nat) (l:List Int) (f:Bool) (h:(BN p).isSome=true) (hG:L4 p l) (M:List (Int×Int)) :
    BO zP 171 [TU p L,.l (iL l) f] [.map L (LB p M)] fun r post=>r= .ret (.t [.a (plV (GQ (Ap p) p l).1 true (!(GQ (Ap p) p l).2)),.b (GQ (Ap p) p l).2])/\ ∃M',post= [.map L (LB p M')]:=by
 intro Z hs;have hM:=Mx;have hok:=look_ok h;have hgw:=Zi h;have hfm:=o5 h;have h16:=hG.many;have hm16:=hok.many;generalize hX:GQ (Ap p) p l=X;refine wG kZ ?_
 conv=>whnf
 repeat'((first|clear U K|apply st|(apply zk;intro K U)|refine zo fun nn hnn Z hs=>?_|fail)<;>conv=>whnf)
 rename_i n4 _ _ _;clear hnn;refine Cn l.length (fun k (_:V×V×V×V)=>[(13,eI (BR k))]) (fun k x=>[.own x.1 1 (iL (DR p (l.take k) 1)),.own x.2.1 1 (iL (DR p (l.take k) 2)),.own x.2.2.1 1 (iL (DR p (l.take k) 3)),.own x.2.2.2 1 (iL (DR p (l.take k) 4)),.box nn [.l [] true,x.1,x.2.1,x.2.2.1,x.2.2.2],.box n4 [.l [] true,.b false,.l [] true,.l [] true,.b false,.l [] true],.map L (LB p M)]) (fun _ _=>True) (.l [] true,.l [] true,.l [] true,.l [] true) rfl trivial (DF (DF (DF (DF hs 1) 1) 1) 1) ?_;clear hs;rintro k ⟨v1,v2,v3,v4⟩ Z hk - hs;dsimp only at hs;dsimp only;rcases BK l hk with⟨x,hx,hlt⟩|hke
 .have hmx:=hG.I4 x (Cm hx)
  have hxm:=Cu hmx;obtain⟨hkr,-⟩:=nz h (Cm hxm);have hst:=kC (p:=p) hx;simp only[Ba,A4,Cp]at hmx;have l1:(DR p (l.take k) 1).length<=16:=Mk h16;have l2:(DR p (l.take k) 2).length<=16:=Mk h16;have l3:(DR p (l.take k) 3).length<=16:=Mk h16;have l4:(DR p (l.take k) 4).length<=16:=Mk h16;have s1:=hst 1;have s2:=hst 2;have s3:=hst 3;have s4:=hst 4;clear hst;generalize B3 p x=y at *;generalize DR p (l.take k) 1=z1 at *;generalize DR p (l.take k) 2=z2 at *;generalize DR p (l.take k) 3=z3 at *;generalize DR p (l.take k) 4=z4 at *;obtain⟨kd,gn,fc,nd⟩:=y;dsimp only at hkr s1 s2 s3 s4;rcases(show kd=1\/kd=2\/kd=3\/kd=4 by omega)with rfl|rfl|rfl|rfl
  .rw[if_pos (beq_self_eq_true _)]at s1
   rw[if_neg (by decide)]at s2 s3 s4;have hll:z1.length<Ad/\(z1.length+1)*8<=140737488355328:=by omega
   clear l1 l2 l3 l4
   conv=>whnf
   repeat'((first|clear U K|apply st|(apply zk;intro K U)|refine zY ?_|refine zs fun Z hs=>?_|refine aq fun v Z hs hsl=>?_|refine xv (j:=1) ?_ (by decide) (by decide)|fail)<;>conv=>whnf)
   exact⟨hlt,(v,v2,v3,v4),rfl,trivial,by rw[s1,s2,s3,s4];exact hs⟩
  .rw[if_pos (beq_self_eq_true _)]at s2
   rw[if_neg (by decide)]at s1 s3 s4;have hll:z2.length<Ad/\(z2.length+1)*8<=140737488355328:=by omega
   clear l1 l2 l3 l4
   conv=>whnf
   repeat'((first|clear U K|apply st|(apply zk;intro K U)|refine zY ?_|refine zs fun Z hs=>?_|refine aq fun v Z hs hsl=>?_|refine xv (j:=2) ?_ (by decide) (by decide)|fail)<;>conv=>whnf)
   exact⟨hlt,(v1,v,v3,v4),rfl,trivial,by rw[s1,s2,s3,s4];exact hs⟩
  .rw[if_pos (beq_self_eq_true _)]at s3
   rw[if_neg (by decide)]at s1 s2 s4;have hll:z3.length<Ad/\(z3.length+1)*8<=140737488355328:=by omega
   clear l1 l2 l3 l4
   conv=>whnf
   repeat'((first|clear U K|apply st|(apply zk;intro K U)|refine zY ?_|refine zs fun Z hs=>?_|refine aq fun v Z hs hsl=>?_|refine xv (j:=3) ?_ (by decide) (by decide)|fail)<;>conv=>whnf)
   exact⟨hlt,(v1,v2,v,v4),rfl,trivial,by rw[s1,s2,s3,s4];exact hs⟩
  .rw[if_pos (beq_self_eq_true _)]at s4
   rw[if_neg (by decide)]at s1 s2 s3;have hll:z4.length<Ad/\(z4.length+1)*8<=140737488355328:=by omega
   clear l1 l2 l3 l4
   conv=>whnf
   repeat'((first|clear U K|apply st|(apply zk;intro K U)|refine zY ?_|refine zs fun Z hs=>?_|refine aq fun v Z hs hsl=>?_|refine xv (j:=4) ?_ (by decide) (by decide)|fail)<;>conv=>whnf)
   exact⟨hlt,(v1,v2,v3,v),rfl,trivial,by rw[s1,s2,s3,s4];exact hs⟩
 .rw [BI hke]at hs
  obtain⟨o1,d1⟩:=hG.of 1;obtain⟨o2,d2⟩:=hG.of 2;obtain⟨o3,d3⟩:=hG.of 3;obtain⟨o4,d4⟩:=hG.of 4;have hpl:GQ (Ap p) p l=if(DR p l 1).isEmpty then(xr,false)else(⟨(Cb (Ap p) (DR p l 4).length (DR p l 4)).1,(Cb (Ap p) (DR p l 4).length (DR p l 4)).2,FL (Ap p) (DR p l 2).length (I0 (DR p l 2)),(Cb (Ap p) (DR p l 1).length (DR p l 1)).1,(Cb (Ap p) (DR p l 1).length (DR p l 1)).2,(FL (Ap p) (DR p l 3).length (I0 (DR p l 3))).reverse⟩,true):=rfl
  rw[hpl]at hX;clear hpl;have e4:=fun M=>bH p L (DR p l 4) false hok hgw hfm o4 d4 M
  have e2:=fun M=>eN p L (DR p l 2) false hok hgw hfm o2 d2 M
  have e1:=fun M=>bH p L (DR p l 1) false hok hgw hfm o1 d1 M
  have e3:=fun M=>ZT p L (DR p l 3) false hok hgw hfm o3 d3 M
  rw[SY d2]at e2;rw[SY d3]at e3;have hl1:=o1.many
  have hbl:(FL (Ap p) (DR p l 3).length (I0 (DR p l 3))).length<=16:=by
   have: ∀k l,(FL (Ap p) k l).length=k:=fun k=>by
    induction k with
    | zero=>intro l;rfl
    | succ k ih=>intro l;simp only[FL,NM,ih]
   rw[this];exact o3.many
  clear o1 o2 o3 o4 d1 d2 d3 d4 hG;generalize FL (Ap p) (DR p l 3).length (I0 (DR p l 3))=xs at *;generalize FL (Ap p) (DR p l 2).length (I0 (DR p l 2))=bs at *;generalize Cb (Ap p) (DR p l 4).length (DR p l 4)=q4 at *;generalize Cb (Ap p) (DR p l 1).length (DR p l 1)=q1 at *;generalize DR p l 1=l1 at *;generalize DR p l 2=l2 at *;generalize DR p l 3=l3 at *;generalize DR p l 4=l4 at *;obtain⟨r4,t4⟩:=q4;obtain⟨r1,t1⟩:=q1;dsimp only at e1 e4;by_cases hz:l1.length=0
  .have he:l1.isEmpty=true:=by simpa using hz
   rw[he,if_pos rfl]at hX;subst hX
   conv=>whnf
   repeat'((first|clear U K|apply st|(apply zk;intro K U)|refine zY ?_|(refine zb (fun hc=>?_) (fun hc=>?_)<;>try exact⟨⟩)|refine zo fun nn hnn Z hs=>?_|fail)<;>conv=>whnf)
   refine Jg hs 6 rfl rfl rfl (by simp) (by decide) fun Z hs=>?_
   refine zz ?_;(repeat clear U K);repeat intro K U
   refine Vn hs 6 rfl ?_;refine zz ?_;(repeat clear U K);repeat intro K U
   exact Ay (hs.front (j:=7) rfl) (.cons₂ _ (NQ _)) (.refl _) fun Z' hs'=>⟨_,⟨rfl,M,rfl⟩,hs'⟩
  .have he:l1.isEmpty=false:=by cases l1 with
    | nil=>simp at hz
    | cons=>rfl
   rw[he,if_neg (by decide)]at hX;subst hX
   conv=>whnf
   repeat'((first|clear U K|apply st|(apply zk;intro K U)|refine zY ?_|(refine zb (fun hc=>?_) (fun hc=>?_)<;>try exact⟨⟩)|refine zo fun nn hnn Z hs=>?_|fail)<;>conv=>whnf)
   obtain⟨Z2,g1,g2,g3⟩:=I6 hs 4 rfl;refine Av.SE ((e4 M).use (rest:=_) (g3.front (j:=6) rfl) ?_) g1 (.cons (.refl _) (.cons g2 .nil));clear hs g1 g2 g3;rintro r post Z ⟨rfl,M,rfl⟩ hs
   conv=>whnf
   repeat'((first|clear U K|apply st|(apply zk;intro K U)|refine zY ?_|refine zs fun Z hs=>?_|fail)<;>conv=>whnf)
   obtain⟨Z2,g1,g2,g3⟩:=I6 hs 3 rfl;refine Av.SE ((e2 M).use (rest:=_) g3 ?_) g1 (.cons (.refl _) (.cons g2 .nil));clear hs g1 g2 g3;rintro r post Z ⟨rfl,M,rfl⟩ hs
   conv=>whnf
   repeat'((first|clear U K|apply st|(apply zk;intro K U)|refine zY ?_|refine zs fun Z hs=>?_|fail)<;>conv=>whnf)
   obtain⟨Z2,g1,g2,g3⟩:=I6 hs 2 rfl;refine Av.SE ((e1 M).use (rest:=_) g3 ?_) g1 (.cons (.refl _) (.cons g2 .nil));clear hs g1 g2 g3;rintro r post Z ⟨rfl,M,rfl⟩ hs
   conv=>whnf
   repeat'((first|clear U K|apply st|(apply zk;intro K U)|refine zY ?_|refine zs fun Z hs=>?_|fail)<;>conv=>whnf)
   obtain⟨Z2,g1,g2,g3⟩:=I6 hs 2 rfl;refine Av.SE ((e3 M).use (rest:=_) g3 ?_) g1 (.cons (.refl _) (.cons g2 .nil));clear hs g1 g2 g3;rintro r post Z ⟨v,M,rfl,rfl,hv⟩ hs
   conv=>whnf
   repeat'((first|clear U K|apply st|(apply zk;intro K U)|refine zY ?_|refine zs fun Z hs=>?_|fail)<;>conv=>whnf)
   refine(cV xs v (by omega) hv).use (rest:=_) hs ?_;clear hs;rintro r post Z ⟨rfl,rfl⟩ hs;refine zz ?_;(repeat clear U K);repeat intro K U
   have o1:=Hj hs 0 rfl;refine Jg hs 4 rfl rfl rfl (by simp[o1]) (by decide) fun Z hs=>?_
   clear o1;refine zz ?_;(repeat clear U K);repeat intro K U
   obtain⟨Z2,g1,g2,g3⟩:=I6 hs 0 rfl;exact Ij g1 (.t (.cons (.a (.cons (.refl _) (.cons (.refl _) (.cons (.refl _) (.cons (.refl _) (.cons (.refl _) (.cons g2 .nil))))))) (.cons (.refl _) .nil))) ⟨_,⟨rfl,M,rfl⟩,g3.less (.cons₂ _ (NQ _))⟩
end Go.Gl
namespace Go.Gl
open Go.Proofs
def oA {p:Prog} {l:List Int} (hok:Cg p) (h:F6 p l false=true):L4 p l:=by
 rw[F6,A4,Dj,Cp]at h;obtain⟨h1,h2⟩:=h
 have hm: ∀x∈l,Ba p x=true/\(B3 p x).gen=(B3 p (l.getD 0 0)).gen:=fun x hx=>by
  have:=h1 x hx;simp only[mB,A4,C1]at this;exact⟨this.1,this.2.1⟩
 refine⟨fun x hx=>(hm x hx).1,fun x hx y hy=>(hm x hx).2.trans (hm y hy).2.symm,h2,Nat.le_trans (QP p.methods.length l h2 fun x hx=>?_) hok.many⟩;have:=(hm x hx).1;simp only[Ba,A4,Cp]at this;omega
def fy (x:Pl×Bool):Pl×Int:=if x.2 then(x.1,0)else(xr,5)
def Tv (p:Prog) (l:List Int):Pl×Int:=if(BN p).isSome&&F6 p l false then fy (GQ (Ap p) p l)else(xr,2)
abbrev plE (x:Pl×Int) (g:Bool):V:= .t [.a (plV x.1 g (x.2 != 0)),eI x.2]
attribute [local irreducible] Av An Af AQ AL Ac AP AS AK Ab AN AO As A3 Sat AV A0 Ag W
def xU (p:Prog) (l:List Int) (f:Bool) (hl:l.length<=1000):Pure zP 106 [.a (BT p),.l (iL l) f] (plE (Tv p l) true):=by
 refine Pure.of ?_;have hr:=js p;generalize hX:Tv p l=X;rw[Tv]at hX;refine xD kZ ?_;have hs:=Sn
 conv=>whnf
 repeat'((first|clear U K|apply st|(apply zk;intro K U)|refine zY ?_|refine zo fun nn hnn Z hs=>?_|fail)<;>conv=>whnf)
 refine hr.use (rest:=_) hs ?_;clear hs;cases h:(BN p).isSome
 .have c1:=oB l f false
  rw[h,Bool.false_and,if_neg (by decide)]at hX;subst hX;rintro r post Z ⟨rfl,rfl⟩ hs
  conv=>whnf
  repeat'((first|clear U K|apply st|(apply zk;intro K U)|refine zY ?_|refine zs fun Z hs=>?_|refine zC ?_|fail)<;>conv=>whnf)
  exact AH (by rfl)
 .rintro r post Z ⟨L,rfl,rfl⟩ hs
  have c1:=tS p L l f false hl;cases hb:F6 p l false<;>rw[hb]at c1 hX
  .rw[Bool.and_false,if_neg (by decide)]at hX
   subst hX
   conv=>whnf
   repeat'((first|clear U K|apply st|(apply zk;intro K U)|refine zY ?_|refine zs fun Z hs=>?_|refine zC ?_|fail)<;>conv=>whnf)
   exact AH (by rfl)
  .have c3:=sm p L l f h (oA (look_ok h) hb) []
   rw[h,Bool.and_self,if_pos rfl]at hX;generalize GQ (Ap p) p l=x at *;obtain⟨x,b⟩:=x;cases b
   all_goals
    subst hX
    conv=>whnf
    repeat'((first|clear U K|apply st|(apply zk;intro K U)|refine zY ?_|refine zC ?_|fail)<;>conv=>whnf)
    refine c3.use (rest:=_) hs ?_;clear hs;rintro r post Z ⟨rfl,M,rfl⟩ hs
    conv=>whnf
    repeat'((first|clear U K|apply st|(apply zk;intro K U)|refine zY ?_|refine zs fun Z hs=>?_|refine zo fun nn hnn Z hs=>?_|fail)<;>conv=>whnf)
    exact AH (by rfl)
end Go.Gl
namespace Go.Gl
open Go.Proofs
attribute [local irreducible] Av An Af AQ AL Ac AP AS AK Ab AN AO As A3 Sat AV A0 Ag W
def sR (ar:List Int) (fA:Bool) (be pr:List Int) (prt:Bool) (af:List Int):stO (⟨ar,fA,be,pr,prt,af⟩,true)=if decide (ar.length=0)&&(fA||decide (pr.length=0))then 3 else if fA||prt then 2 else 1:=by
 rw[stO,if_pos rfl];cases ar<;>cases pr<;>simp
abbrev rS (p:Prog) (gen:Int):List V:=BT p++[eI gen,.l (iL (F0 p gen)) false]
abbrev xx:List V:=[.l [] true,eI 0,.l [] true,.l [] true,.l [] true,eI 0,eI 0,.l [] true]
def z7 (p:Prog) (gen:Int):Pure zP 87 [.a (BT p),eI gen] (.t [.a (if Fi p gen then rS p gen else xx),.b (Fi p gen)]):=by
 refine Pure.fit (by kernel_rfl) fun hf=>?_
 have hP:=Oc hf.1;have⟨p1,p2,p3,p4⟩:=I9 hf.1;have hM:=Mx;have c1:=XK p;rw[Fi];cases h1:(BN p).isSome<;>rw[h1]at c1
 .rw[if_neg (by decide)]at c1
  refine gM kZ ?_;have hs:=Sn;exact zW
 rw[if_pos rfl]at c1;have h16:=(look_ok h1).many;cases h2:mX p gen
 .simp only[mX,Bool.and_eq_false_iff,decide_eq_false_iff_not]at h2
  refine gM kZ ?_;have hs:=Sn
  conv=>whnf
  repeat'((first|clear U K|apply st|(apply zk;intro K U)|refine zY ?_|refine zs fun Z hs=>?_|refine zC ?_|(refine zb (fun hc=>?_) (fun hc=>?_)<;>try exact⟨⟩)|refine zo fun nn hnn Z hs=>?_|fail)<;>conv=>whnf)
  all_goals first
   | exact AJ rfl
   | (exfalso;simp at *;omega)
 have h2r:=h2;simp only[mX,A4,Cp]at h2r;refine gM kZ ?_;have hs:=Sn
 conv=>whnf
 repeat'((first|clear U K|apply st|(apply zk;intro K U)|refine zY ?_|refine zs fun Z hs=>?_|refine zC ?_|(refine zb (fun hc=>?_) (fun hc=>?_)<;>try exact⟨⟩)|refine zo fun nn hnn Z hs=>?_|fail)<;>conv=>whnf)
 rename_i n4 _ _ _ _ _ _ _;refine Cn p.methods.length (fun k (_:V)=>[(30,eI (BR k))]) (fun k v=>[.box nn (BT p++[eI gen,v]),.box n4 xx,.own v 1 (iL (fI p gen k))]) (fun _ _=>True) (.l [] true) rfl trivial (IU hs 1) ?_;clear hs;rintro k v Z hk - hs;have hal:=og p gen k;rcases BK p.methods hk with⟨x,hx,hlt⟩|hke
 .have hck:BR k=k:=Ae (by omega)
  have hxe:=n6 hx;have hst:=kz p gen k;rw[hxe]at hst;generalize fI p gen k=zl at *;have hll:zl.length<Ad/\(zl.length+1)*8<=140737488355328:=by omega
  by_cases hg:x.gen=gen
  .rw[if_pos (C1.2 hg)]at hst
   conv=>whnf
   repeat'((first|clear U K|apply st|(apply zk;intro K U)|refine zY ?_|refine zs fun Z hs=>?_|refine aq fun v Z hs hsl=>?_|(refine zb (fun hc=>?_) (fun hc=>?_)<;>try exact⟨⟩)|refine zo fun nn hnn Z hs=>?_|fail)<;>conv=>whnf)
   exact⟨hlt,_,rfl,trivial,by rw[hst,<-hck];exact hs.less (OS _ _)⟩
  .rw[if_neg (by simpa using hg)]at hst
   conv=>whnf
   repeat'((first|clear U K|apply st|(apply zk;intro K U)|refine zY ?_|refine zs fun Z hs=>?_|(refine zb (fun hc=>?_) (fun hc=>?_)<;>try exact⟨⟩)|refine zo fun nn hnn Z hs=>?_|fail)<;>conv=>whnf)
   exact⟨hlt,_,rfl,trivial,by rw[hst];exact hs.less (OS _ _)⟩
 .rw[hke]at hs
  refine zz ?_;(repeat clear U K);repeat intro K U
  have o1:=Hj hs 2 rfl;refine Jg hs 1 rfl rfl rfl (by simp[BT,o1]) (by decide) fun Z hs=>?_
  clear o1;refine zz ?_;(repeat clear U K);repeat intro K U
  exact Be (.t (.cons (.a (.cons (.refl _) (.cons (.refl _) (.cons (.refl _) (.cons (.refl _) (.cons (.refl _) (.cons (.refl _) (.cons (.refl _) (.cons (hs.Ha 2 rfl) .nil))))))))) (.cons (.refl _) .nil)))
def yj (p:Prog) (gen:Int):Pure zP 88 [.a (rS p gen)] (eI (if(F0 p gen).length<=8 then 0 else 3)):=by
 have e1:((iL (F0 p gen)).length:Int)=(F0 p gen).length:=by simp
 refine zB kZ ?_;have hs:=Sn
 conv=>whnf
 repeat'((first|clear U K|apply st|(apply zk;intro K U)|refine zY ?_|(refine zd (fun hc=>?_) (fun hc=>?_)<;>try exact⟨⟩)|fail)<;>conv=>whnf)
 .exact AJ (by rw[if_neg (by omega)])
 .exact AJ (by rw[if_pos (by omega)])
def gQ (a b c:Bool):Pure zP 107 [.b a,.b b,.b c] (eI (if a then 4 else if b then 3 else if c then 2 else 1)):=by
 cases a<;>cases b<;>cases c
 all_goals
  refine xC kZ ?_;have hs:=Sn;exact zW
def Th (l:List Int):(((iL l).length:Int)==0)=decide (l.length=0):=by
 rw[CW,Hb,C1,Cp];omega
def sQ (p:Prog) (gen:Int) (l:List Int) (f:Bool) (h:Fi p gen=true) (hB:Rt p gen l=true):Pure zP 51 [.a (rS p gen),.l (iL l) f] (eI (eg p l)):=by
 rw[Fi,A4]at h;have hok:=look_ok h.1;have c1:=xU p l f (Nat.le_trans (jq hB) (Nat.le_trans hok.many (by decide)));rw[Tv,h.1,Sb hB,Bool.and_self,if_pos rfl]at c1;rw[eg];clear h hok hB;generalize GQ (Ap p) p l=x at *;obtain⟨⟨ar,fA,be,pr,prt,af⟩,b⟩:=x;cases b
 .rw[show fy (⟨ar,fA,be,pr,prt,af⟩,false)=(xr,5) from rfl]at c1
  refine qv kZ ?_;have hs:=Sn
  conv=>whnf
  repeat'((first|clear U K|apply st|(apply zk;intro K U)|refine zY ?_|refine zs fun Z hs=>?_|refine c1.use ?_|refine Pure.use (gQ _ _ _) ?_|(refine zb (fun hc=>?_) (fun hc=>?_)<;>try exact⟨⟩)|refine zo fun nn hnn Z hs=>?_|fail)<;>conv=>whnf)
  all_goals exact AJ rfl
 rw[show fy (⟨ar,fA,be,pr,prt,af⟩,true)=(⟨ar,fA,be,pr,prt,af⟩,0) from rfl]at c1;rw[sR];cases ha:decide (ar.length=0)<;>cases hp:decide (pr.length=0)<;>cases fA<;>cases prt
 all_goals
  first|replace ha:=of_decide_eq_true ha|replace ha:=of_decide_eq_false ha
  first|replace hp:=of_decide_eq_true hp|replace hp:=of_decide_eq_false hp
  refine qv kZ ?_;have hs:=Sn
  conv=>whnf
  repeat'((first|clear U K|apply st|(apply zk;intro K U)|refine zY ?_|refine zs fun Z hs=>?_|refine c1.use ?_|refine Pure.use (gQ _ _ _) ?_|(refine zb (fun hc=>?_) (fun hc=>?_)<;>try exact⟨⟩)|refine zo fun nn hnn Z hs=>?_|fail)<;>conv=>whnf)
  all_goals first|exact AJ rfl|exact AJ (by simp only[Th];simp[ha,hp])
def Nb (p:Prog) (gen:Int) (b:Bool):Int:=if Fi p gen then(if b then(if(F0 p gen).length<=8 then 0 else 3)else 2)else 2
abbrev YB (p:Prog) (gen:Int) (b:Bool):List V:=if Fi p gen&&b then rS p gen else xx
def L9 {p:Prog} {gen:Int} (h:Fi p gen=false) (b:Bool):YB p gen b=xx/\Nb p gen b=2:=by rw[YB,Nb,h];exact⟨rfl,rfl⟩
def qy {p:Prog} {gen:Int}:YB p gen false=xx/\Nb p gen false=2:=by
 rw[YB,Nb,Bool.and_false];exact⟨rfl,by split<;>rfl⟩
def K2 {p:Prog} {gen:Int} (h:Fi p gen=true):YB p gen true=rS p gen/\Nb p gen true=if(F0 p gen).length<=8 then 0 else 3:=by rw[YB,Nb,h];exact⟨rfl,rfl⟩
def ir (p:Prog) (gen:Int) (k:Nat) (ca:List V) (b:Bool) (c2:Fi p gen=true->Pure zP k (.a (rS p gen)::ca) (.b b)):Pure zP 31 [.a (BT p),eI gen,.f (.func k) [] ca] (.t [.a (YB p gen b),eI (Nb p gen b)]):=by
 have c1:=z7 p gen;have c3:=yj p gen;cases h1:Fi p gen<;>rw[h1]at c1
 .rw[(L9 h1 b).1,(L9 h1 b).2]
  rw[if_neg (by decide)]at c1;refine gN kZ ?_;have hs:=Sn;exact zW
 replace c2:=c2 h1;rw[if_pos rfl]at c1;cases b
 .rw[qy.1,qy.2]
  refine gN kZ ?_;have hs:=Sn
  conv=>whnf
  repeat'((first|clear U K|apply st|(apply zk;intro K U)|refine zY ?_|refine zs fun Z hs=>?_|refine c1.use ?_|refine BH (c2.use ?_)|refine zo fun nn hnn Z hs=>?_|fail)<;>conv=>whnf)
  all_goals exact AJ rfl
 .rw[(K2 h1).1,(K2 h1).2]
  refine gN kZ ?_;have hs:=Sn
  conv=>whnf
  repeat'((first|clear U K|apply st|(apply zk;intro K U)|refine zY ?_|refine rk ?_ ?_|exact fun s e=>by cases e;rfl|refine zs fun Z hs=>?_|refine c1.use ?_|refine BH (c2.use ?_)|refine c3.use ?_|refine zo fun nn hnn Z hs=>?_|fail)<;>conv=>whnf)
  all_goals exact AJ rfl
end Go.Gl
namespace Go.Gl
open Go.Proofs
def Dm (f:Fact) (c:Bool) (j:Nat) (a:Int) (p:List Int) (k:Kn):Kn:=
 if f.arg=a/\Bj f.path p=true then(if p.length<j then mA (Bz k c) (f.path.getD p.length 0)else if p.length=j then Bz k c else k)else k
def oX (f:Fact) (c:Bool) (a:Int) (p:List Int) (k:Kn):Dm f c 0 a p k=if a=f.arg/\p= []then Bz k c else k:=by
 unfold Dm;by_cases h:f.arg=a/\Bj f.path p=true
 .rw[if_pos h,if_neg (by omega)]
  by_cases hp:p.length=0
  .rw[if_pos hp,if_pos ⟨h.1.symm,Xy.1 hp⟩]
  .rw[if_neg hp,if_neg (fun h'=>hp (by rw[h'.2];rfl))]
 .rw[if_neg h,if_neg]
  rintro⟨rfl,rfl⟩;exact h ⟨rfl,B1.2 ⟨f.path,by simp⟩⟩
def oY (f:Fact) (c:Bool) {j:Nat} (hj:j<f.path.length) (a:Int) (p:List Int) (k:Kn):Dm f c (j+1) a p k=if a=f.arg/\p=f.path.take (j+1)then Bz (Dm f c j a p k) c else if a=f.arg/\p=f.path.take j then mA (Dm f c j a p k) (f.path.getD j 0)else Dm f c j a p k:=by
 unfold Dm;by_cases h:f.arg=a/\Bj f.path p=true
 .rw [if_pos h,if_pos h]
  obtain⟨h1,h2⟩:=h;rw[HD]at h2;obtain⟨h2,h3⟩:=h2;have l1:p=f.path.take (j+1)↔p.length=j+1:=⟨fun e=>by rw[e,Lv];omega,fun e=>by rw[e]at h3;exact h3⟩
  have l2:p=f.path.take j↔p.length=j:=⟨fun e=>by rw[e,Lv];omega,fun e=>by rw[e]at h3;exact h3⟩
  have n1:p.length≠j+1-> ¬(a=f.arg/\p=f.path.take (j+1)):=fun h h'=>h (l1.1 h'.2)
  have n2:p.length≠j-> ¬(a=f.arg/\p=f.path.take j):=fun h h'=>h (l2.1 h'.2)
  by_cases q1:p.length<j
  .rw[if_pos (show p.length<j+1 by omega),if_neg (n1 (by omega)),if_neg (n2 (by omega)),if_pos q1]
  .by_cases q2:p.length=j
   .rw[if_pos (show p.length<j+1 by omega),if_neg (n1 (by omega)),if_pos (show a=f.arg/\p=f.path.take j from⟨h1.symm,l2.2 q2⟩),if_neg q1,if_pos q2,q2]
   .by_cases q3:p.length=j+1
    .rw[if_neg (show¬p.length<j+1 by omega),if_pos q3,if_pos (show a=f.arg/\p=f.path.take (j+1) from⟨h1.symm,l1.2 q3⟩),if_neg q1,if_neg q2]
    .rw[if_neg (show¬p.length<j+1 by omega),if_neg q3,if_neg (n1 q3),if_neg (n2 q2),if_neg q1,if_neg q2]
 .rw[if_neg h,if_neg h,if_neg,if_neg]
  .rintro⟨rfl,rfl⟩
   exact h ⟨rfl,B1.2 ⟨f.path.drop j,by rw[List.take_append_drop]⟩⟩
  .rintro⟨rfl,rfl⟩
   exact h ⟨rfl,B1.2 ⟨f.path.drop (j+1),by rw[List.take_append_drop]⟩⟩
def th (a : Int) (p:List Int) (k:Kn) (l:Fact):Hu a p k l=if a=(Ah l).1.arg/\p=(Ah l).1.path then By (Dm (Ah l).1 (Ah l).2 (Ah l).1.path.length a p k) (Ah l).1 (Ah l).2 else Dm (Ah l).1 (Ah l).2 (Ah l).1.path.length a p k:=by
 unfold Hu Dm;by_cases h:(Ah l).1.arg=a/\Bj (Ah l).1.path p=true
 .rw [if_pos h,if_pos h]
  obtain⟨h1,h2⟩:=h;rw[HD]at h2;obtain⟨h2,h3⟩:=h2;by_cases hp:(Ah l).1.path=p
  .rw[if_pos hp,if_pos ⟨h1.symm,hp.symm⟩,if_neg (by rw[hp];omega),if_pos (by rw[hp])]
  .have hne:p.length<(Ah l).1.path.length:=by
    rcases Nat.lt_or_ge p.length (Ah l).1.path.length with h'|h'
    .exact h'
    .rw[List.take_of_length_le h']at h3
     exact absurd h3.symm hp
   rw[if_neg hp,if_neg (fun h=>hp h.2.symm),if_pos hne]
 .rw[if_neg h,if_neg h,if_neg]
  rintro⟨rfl,rfl⟩;exact h ⟨rfl,Jz _⟩
def oP (ls:List Fact) (l:Fact) (a:Int) (p:List Int):kg (ls++[l]) a p=Hu a p (kg ls a p) l:=by
 rw[kg,List.foldl_append];rfl
def XE (l:List Int) (s:Int):(Tq l s).length<=l.length+1:=by
 unfold Tq;split
 .omega
 .simp
def iD (a:Int) (p:List Int): ∀(ls:List Fact) (k:Kn),(ls.foldl (Hu a p) k).no.length<=k.no.length+ls.length/\(ls.foldl (Hu a p) k).AF.length<=k.AF.length+ls.length
 | [],k=>⟨IS _,IS _⟩
 | l ::r,k=>by
   obtain⟨h1,h2⟩:=iD a p r (Hu a p k l)
   have h3:(Hu a p k l).no.length<=k.no.length+1/\(Hu a p k l).AF.length<=k.AF.length+1:=by
    unfold Hu
    repeat' split
    .have:=Rc (Bz k (Ah l).2) (Ah l).1 (Ah l).2
     rw[IP];simp only[Bz]at this ⊢;omega
    .have:=XE k.AF ((Ah l).1.path.getD p.length 0)
     simp only[mA,Bz]at this ⊢;omega
    .omega
   rw[List.foldl_cons,NM];omega
def oQ {n:Nat} {ls:List Fact} (h:Gv n ls) (a:Int) (p:List Int):(kg ls a p).BS<2 ^ n/\(kg ls a p).Dt<2 ^ n:=by
 obtain⟨-,-,-,c4,c5,-⟩:=KC (Ue ls a p);have hc2:Gv n (ls.filter (Kp a p)):=fun l hl=>h l (Kj.1 hl).1
 rw[c4,c5];exact⟨MH hc2,gr hc2⟩
end Go.Gl
