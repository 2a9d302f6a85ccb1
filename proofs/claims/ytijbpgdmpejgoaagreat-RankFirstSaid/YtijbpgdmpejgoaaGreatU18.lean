import Derived.Test.YtijbpgdmpejgoaaGreatU13
import Derived.Test.YtijbpgdmpejgoaaGreatU14
import Derived.Test.YtijbpgdmpejgoaaGreatU16
import Derived.Test.YtijbpgdmpejgoaaGreatU17
set_option linter.all false
set_option linter.defProp false
noncomputable section
namespace Go.Gl
open Go.Proofs
attribute [local irreducible] BJ A2 Ak AW AM Aj AV AX AN Ai AR AU A5 BF Sat Ad BD Al W
attribute [local irreducible] Fz
def pD (l:List Int) (f:Bool) (x:Int) (hl:l.length≤1000):Pure Tryz.prog 26 [.l (iL l) f,eI x] (.b (l.contains x)):=by
 have hM:=Mx;refine qS kZ ?_;have hs:=Sn
 conv=>whnf
 repeat'((first|apply st|(apply sq;intro K U)|(apply si;intro A B Y Z)|(apply Y;clear Z B Y A)|(apply U;clear U K)|fail)<;>conv=>whnf)
 refine B2 l.length (fun k (_:Unit)=>[(5,eI (A4 k))]) (fun _ _=>[]) (fun k _=>l.contains x=(l.drop k).contains x) () rfl rfl hs ?_;clear hs;rintro k - σ hk hn hs;rcases BC l hk with⟨y,hy,hlt⟩|hke
 ·rw[drop_cons hy,List.contains_cons]at hn
  by_cases hxy:y=x
  ·conv=>whnf
   repeat'((first|apply st|(apply sq;intro K U)|(apply si;intro A B Y Z)|(apply Y;clear Z B Y A)|(apply U;clear U K)|refine⟨rfl,?_⟩|refine ix ?_|(refine CK (fun hc=>?_)<;>(try rw[hc])<;>clear hc)|(constructor<;>intro hc<;>(try rw[hc])<;>(replace hc:=bp hc)<;>try(exfalso;omega))|clear U K)<;>conv=>whnf)
   exact AI (by rw[hn,hxy];simp)
  ·have e:(x==y)=false:=by simpa using fun e:x=y=>hxy e.symm
   rw[e,Bool.false_or]at hn
   conv=>whnf
   repeat'((first|apply st|(apply sq;intro K U)|(apply si;intro A B Y Z)|(apply Y;clear Z B Y A)|(apply U;clear U K)|refine⟨rfl,?_⟩|refine ix ?_|(refine CK (fun hc=>?_)<;>(try rw[hc])<;>clear hc)|(constructor<;>intro hc<;>(try rw[hc])<;>(replace hc:=bp hc)<;>try(exfalso;omega))|clear U K)<;>conv=>whnf)
   exact⟨hlt,(),rfl,hn,hs⟩
 ·conv=>whnf
  repeat'((first|apply st|(apply sq;intro K U)|(apply si;intro A B Y Z)|(apply Y;clear Z B Y A)|(apply U;clear U K)|refine⟨rfl,?_⟩|(refine DR (fun hc=>?_)<;>(try rw[hc])<;>clear hc)|clear U K)<;>conv=>whnf)
  exact AI (by rw[hn,Ah hke];rfl)
def U7 {p:Prog} {l:List Int} (hl:Gz p l) (i:Nat):Gz p (l.eraseIdx i):=
 ⟨fun x hx=>hl.Fb x (List.mem_of_mem_eraseIdx hx),fun x hx y hy=>hl.alike x (List.mem_of_mem_eraseIdx hx) y (List.mem_of_mem_eraseIdx hy),Nat.le_trans (List.length_eraseIdx_le _ _) hl.many⟩
def bM {p:Prog} {l:List Int} (hl:Gz p l) (hn:l.Nodup):Ef p l true=true:=by
 rw[Ef,BY,EN,Ce];refine⟨fun x hx=>?_,hn⟩
 have hd:l.getD 0 0∈l:=by
  cases l with
  | nil=>cases hx
  | cons y r=>exact .head _
 have ha:=hl.alike x hx _ hd;have hg:=ha;simp only[CR,BY,Dx]at hg;simp only[UJ,hl.Fb x hx,ha,hg.1,beq_self_eq_true,E7,Bool.or_true]
set_option maxHeartbeats 4000000 in
def Wu (p : Prog) (all l:List Int) (f g t:Bool) (hk0:(BV p).isSome=true) (hl:Gz p all) (hn:all.Nodup) (hch:Bf (AY p) all.length all=(l,t)):Pure Tryz.prog 36 [.a (BR p),.l (iL all) f,.l (iL l) g,.b t] (.b true):=by
 have hM:=Mx;have hok:=look_ok hk0;obtain⟨hl1,hl2⟩:=PA (AY p) all.length all rfl;rw[hch]at hl1 hl2;dsimp only at hl1 hl2;have h16:=hl.many;have hlen:(iL l).length=l.length:=BQ _;have hlen2:(iL all).length=all.length:=BQ _
 have hw1:(t != decide ((l.length:Int)<all.length))=false:=by
  rw[hl2];have:decide ((l.length:Int)<all.length)=decide (l.length<all.length):=by simp
  rw[this];simp
 refine qM kZ ?_;have hs:=Sn
 conv=>whnf
 repeat'((first|apply st|(refine cQ ?_;intro K U)|(apply si;intro A B Y Z)|(apply Y;clear Z B Y A)|(apply U;clear U K)|refine⟨rfl,?_⟩|refine cW ?_|(constructor<;>intro hc<;>(try rw[hc])<;>(replace hc:=bp hc)<;>(try simp(disch:=omega) only[BQ,wrap64,AL]at hc)<;>try(exfalso;omega))|clear U K)<;>conv=>whnf)
 all_goals try(exfalso;simp at hc;omega)
 all_goals try(exfalso;rw[hw1]at hc;exact absurd hc (by decide))
 clear hw1 hl1 hl2;refine B2 l.length (fun i (x:List Int×Bool)=>[(9,.l (iL x.1) x.2),(10,eI (A4 i))]) (fun _ _=>[]) (fun i x=>Gz p x.1∧x.1.Nodup∧Bf (AY p) x.1.length x.1=(l.drop i,t)) (all,f) rfl ⟨hl,hn,hch⟩ hs ?_;clear hs hl hn hch;rintro i ⟨left,lf⟩ σ hi ⟨hl,hn,hch⟩ hs;dsimp only at hl hn hch hs;have hl16:=hl.many;rcases BC l hi with⟨x,hx,hlt⟩|hie
 ·rw [drop_cons hx]at hch
  obtain⟨j,hj,Y,hfe,hnx⟩:=T8 hch hn;have c1:=pD left lf x (by omega);have hxm:x∈left:=B5 hj;rw[show left.contains x=true by simpa using hxm]at c1;have hmx:=hl.Fb x hxm
  conv=>whnf
  repeat'((first|apply st|(refine cQ ?_;intro K U)|(apply si;intro A B Y Z)|(apply Y;clear Z B Y A)|(apply U;clear U K)|refine⟨rfl,?_⟩|refine ix ?_|refine De ?_|(refine CK (fun hc=>?_)<;>(try rw[hc])<;>clear hc)|refine c1.use ?_|refine cW ?_|fail)<;>conv=>whnf)
  refine B2 left.length (fun k (_:Unit)=>[(11,eI (A4 k))]) (fun _ _=>[]) (fun _ _=>True) () rfl trivial hs ?_;clear hs c1;rintro k - σ hk - hs;rcases BC left hk with⟨y,hy,hklt⟩|hke
  ·by_cases hyx:y=x
   ·conv=>whnf
    repeat'((first|apply st|(refine cQ ?_;intro K U)|(apply si;intro A B Y Z)|(apply Y;clear Z B Y A)|(apply U;clear U K)|apply dr|refine⟨rfl,?_⟩|refine ix ?_|(refine CK (fun hc=>?_)<;>(try rw[hc])<;>clear hc)|refine cW ?_|(constructor<;>intro hc<;>(try rw[hc])<;>(replace hc:=bp hc)<;>try(exfalso;omega))|clear U K)<;>conv=>whnf)
    exact⟨hklt,(),rfl,trivial,hs⟩
   ·have hmy:=hl.Fb y (B5 hy)
    have c2:=L9 p x y hok hmx hmy;have hA2:=Y y (B5 hy) hyx;simp only[AY,BY]at hA2;rw[hA2.1]at c2;clear hA2
    conv=>whnf
    repeat'((first|apply st|(refine cQ ?_;intro K U)|(apply si;intro A B Y Z)|(apply Y;clear Z B Y A)|(apply U;clear U K)|apply dr|refine⟨rfl,?_⟩|refine⟨kZ,?_⟩|refine ix ?_|refine De ?_|(refine CK (fun hc=>?_)<;>(try rw[hc])<;>clear hc)|refine c2.use ?_|refine cW ?_|(constructor<;>intro hc<;>(try rw[hc])<;>(replace hc:=bp hc)<;>try(exfalso;omega))|clear U K)<;>conv=>whnf)
    exact⟨hklt,(),rfl,trivial,hs⟩
  ·conv=>whnf
   repeat'((first|apply st|(refine cQ ?_;intro K U)|(apply si;intro A B Y Z)|(apply Y;clear Z B Y A)|(apply U;clear U K)|refine⟨rfl,?_⟩|(refine DR (fun hc=>?_)<;>(try rw[hc])<;>clear hc)|refine cW ?_|clear U K)<;>conv=>whnf)
   refine B2 left.length (fun k v=>[(12,v),(13,eI (A4 k))]) (fun k v=>[.own v 1 (iL ((left.take k).filter (· != x)))]) (fun _ _=>True) (.l [] true) rfl trivial (E9 hs 1) ?_;clear hs hk hke;rintro k v σ hk - hs;have hfl:=KD (· != x) (left.take k);rw[KG]at hfl;rcases BC left hk with⟨y,hy,hklt⟩|hke
   ·have hst:(left.take (k+1)).filter (· != x)=if y != x then(left.take k).filter (· != x)++[y]else(left.take k).filter (· != x):=by
     rw[AO hy,List.filter_append];cases hp:(y != x)<;>simp[hp]
    generalize (left.take k).filter (· != x)=zs at *;have hll:zs.length<Af∧(zs.length+1)*8≤140737488355328:=by omega
    by_cases hyx:y=x
    ·rw[if_neg (by simp[hyx])]at hst
     conv=>whnf
     repeat'((first|apply st|(refine cQ ?_;intro K U)|(apply si;intro A B Y Z)|(apply Y;clear Z B Y A)|(apply U;clear U K)|apply dr|refine⟨rfl,?_⟩|refine ix ?_|(refine CK (fun hc=>?_)<;>(try rw[hc])<;>clear hc)|refine cW ?_|(constructor<;>intro hc<;>(try rw[hc])<;>(replace hc:=bp hc)<;>try(exfalso;omega))|clear U K)<;>conv=>whnf)
     exact⟨hklt,_,rfl,trivial,by rw[hst];exact hs⟩
    ·rw[if_pos (by simpa using hyx)]at hst
     conv=>whnf
     repeat'((first|apply st|(refine cQ ?_;intro K U)|(apply si;intro A B Y Z)|(apply Y;clear Z B Y A)|(apply U;clear U K)|apply dr|refine⟨rfl,?_⟩|refine ix ?_|refine aq fun v σ hs hsl=>?_|(refine CK (fun hc=>?_)<;>(try rw[hc])<;>clear hc)|refine cW ?_|(constructor<;>intro hc<;>(try rw[hc])<;>(replace hc:=bp hc)<;>try(exfalso;omega))|clear U K)<;>conv=>whnf)
     exact⟨hklt,_,rfl,trivial,by rw[hst];exact hs⟩
   ·rw[Ar hke,hfe]at hs
    have hle:=U7 hl j;have hne:(left.eraseIdx j).Nodup:=hn.sublist (List.eraseIdx_sublist _ _);have c3:=Wv p (left.eraseIdx j) false (by have:=hle.many;omega);rw[Gm,hk0,bM hle hne,Bool.and_self,if_pos rfl,hnx]at c3;have hci:A4 i=i:=AL (by omega)
    have c4: ∀q,Pure Tryz.prog 30 [.l (iL (l.drop (i+1))) true,.l (iL (l.drop (A4 i+1).toNat)) q] (.b true):=fun q=>by
     rw[hci,show((i:Int)+1).toNat=i+1 by omega];have:=EU (l.drop (i+1)) (l.drop (i+1)) true q
     rwa [beq_self_eq_true]at this
    clear Y hfe;generalize left.eraseIdx j=rest at *
    conv=>whnf
    repeat'((first|apply st|(refine cQ ?_;intro K U)|(apply si;intro A B Y Z)|(apply Y;clear Z B Y A)|(apply U;clear U K)|refine⟨rfl,?_⟩|fail)<;>conv=>whnf)
    refine cW ?_
    conv=>whnf
    repeat'((first|apply st|(apply U;clear U K)|(refine DR (fun hc=>?_)<;>(try rw[hc])<;>clear hc)|clear U K)<;>conv=>whnf)
    refine pJ hs 0 rfl (fun σ2 h=> .cons (.refl _) (.cons (.refl _) (.cons (.refl _) (.cons (.refl _) (.cons h .nil))))) fun σ hs=>?_
    conv=>whnf
    repeat'((first|apply st|(refine cQ ?_;intro K U)|(apply si;intro A B Y Z)|(apply Y;clear Z B Y A)|(apply U;clear U K)|refine⟨rfl,?_⟩|refine⟨kZ,?_⟩|refine De ?_|refine c3.use ?_|refine Pure.use (c4 _) ?_|(rw[wrap64 (by omega) (by omega)];refine Y6 ?_ (by omega) (by omega) fun _=>rfl)|refine cW ?_|(constructor<;>intro hc<;>(try rw[hc])<;>(replace hc:=bp hc)<;>(try simp(disch:=omega) only[BQ,wrap64,AL]at hc)<;>try(exfalso;omega))|clear U K)<;>conv=>whnf)
    all_goals first
     | exact⟨hlt,(rest,false),rfl,⟨hle,hne,hnx⟩,hs⟩
     | (exfalso;simp at hc;done)
 ·conv=>whnf
  repeat'((first|apply st|(refine cQ ?_;intro K U)|(apply si;intro A B Y Z)|(apply Y;clear Z B Y A)|(apply U;clear U K)|refine⟨rfl,?_⟩|(refine DR (fun hc=>?_)<;>(try rw[hc])<;>clear hc)|refine cW ?_|clear U K)<;>conv=>whnf)
  all_goals exact AI rfl
end Go.Gl
namespace Go.Gl
open Go.Proofs
attribute [local irreducible] BJ A2 Ak AW AM Aj AV AX AN Ai AR AU A5 BF Sat Ad BD Al W
def Ca (p:Prog) (os:List Ob) (gen:Int) (args:List (Int×Int)):Bool:=
 (BV p).isSome&&(FZ (AS p) os&&(Jl p gen&&(decide ((args.length:Int)=p.Cx.getD gen.toNat 0)&&args.all (B6 os.length))))
set_option maxHeartbeats 1000000 in
def fG (p:Prog) (os:List Ob) (f:Bool) (gen:Int) (args:List (Int×Int)) (g:Bool):Pure Tryz.prog 24 [.a (BR p),.l (os.map F0) f,eI gen,.l (pP args) g] (.b (Ca p os gen args)):=by
 refine Pure.fit (by kernel_rfl) fun hf=>?_
 have⟨p1,p2,p3,p4⟩:=Ff hf.1;have F:=KY hf.1;have hM:=Mx;have c1:=iU p;cases h1:(BV p).isSome<;>rw[h1]at c1
 ·refine Sh kZ ?_
  have hs:=Sn
  conv=>whnf
  repeat'((first|apply st|(apply sq;intro K U)|(apply si;intro A B Y Z)|(apply Y;clear Z B Y A)|(apply U;clear U K)|refine⟨kZ,?_⟩|refine c1.use ?_|fail)<;>conv=>whnf)
  all_goals exact AI (by simp[Ca,h1])
 have hok:=look_ok h1;have c2:=M3 p F hok.fo hok.AT;have c3:=ic (AS p) os f hok.nc;cases h2:FZ (AS p) os<;>rw[h2]at c3
 ·refine Sh kZ ?_
  have hs:=Sn
  conv=>whnf
  repeat'((first|apply st|(apply sq;intro K U)|(apply si;intro A B Y Z)|(apply Y;clear Z B Y A)|(apply U;clear U K)|refine⟨kZ,?_⟩|refine De ?_|refine c1.use ?_|refine c2.use ?_|refine c3.use ?_|fail)<;>conv=>whnf)
  all_goals exact AI (by simp[Ca,h1,h2])
 have c4:=pH p gen;cases h3:Jl p gen<;>rw[h3]at c4
 ·refine Sh kZ ?_
  have hs:=Sn
  conv=>whnf
  repeat'((first|apply st|(apply sq;intro K U)|(apply si;intro A B Y Z)|(apply Y;clear Z B Y A)|(apply U;clear U K)|refine⟨kZ,?_⟩|refine Er ?_|refine De ?_|refine c1.use ?_|refine c2.use ?_|refine c3.use ?_|refine c4.use ?_|fail)<;>conv=>whnf)
  all_goals exact AI (by simp[Ca,h1,h2,h3])
 have hg:=h3;simp only[Jl,BY,Ce]at hg;obtain⟨x,hx⟩: ∃x,p.Cx[gen.toNat]? =some x:=⟨_,DJ (by omega)⟩
 have hxd:p.Cx.getD gen.toNat 0=x:=by rw[DY,hx];rfl
 have e3:((os.map F0).length:Int)=os.length:=by simp
 have c5:Pure Tryz.prog 63 [.l (pP args) g,eI ((os.map F0).length:Int)] (.b (args.all (B6 os.length))):=by rw[e3];exact ZN args g os.length
 have e:Ca p os gen args=(decide ((args.length:Int)=x)&&args.all (B6 os.length)):=by simp only[Ca,h1,h2,h3,hxd,E7]
 rw[e];by_cases he:(args.length:Int)=x
 ·rw[decide_eq_true he,E7]
  refine Sh kZ ?_;have hs:=Sn
  conv=>whnf
  repeat'((first|apply st|(apply sq;intro K U)|(apply si;intro A B Y Z)|(apply Y;clear Z B Y A)|(apply U;clear U K)|refine⟨rfl,?_⟩|refine⟨kZ,?_⟩|refine GX ?_|refine Er ?_|refine c1.use ?_|refine c2.use ?_|refine c3.use ?_|refine c4.use ?_|refine c5.use ?_|(constructor<;>intro hc<;>(try rw[hc])<;>(replace hc:=bp hc)<;>(try simp(disch:=omega) only[BQ,wrap64,AL]at hc))|fail)<;>conv=>whnf)
  all_goals first
   | exact AI rfl
   | (exfalso;simp[he]at hc;done)
 ·rw[decide_eq_false he,Bool.false_and]
  refine Sh kZ ?_;have hs:=Sn
  conv=>whnf
  repeat'((first|apply st|(apply sq;intro K U)|(apply si;intro A B Y Z)|(apply Y;clear Z B Y A)|(apply U;clear U K)|refine⟨rfl,?_⟩|refine⟨kZ,?_⟩|refine GX ?_|refine Er ?_|refine c1.use ?_|refine c2.use ?_|refine c3.use ?_|refine c4.use ?_|refine c5.use ?_|(constructor<;>intro hc<;>(try rw[hc])<;>(replace hc:=bp hc)<;>(try simp(disch:=omega) only[BQ,wrap64,AL]at hc))|fail)<;>conv=>whnf)
  all_goals first
   | (exfalso;simp[he]at hc;done)
   | exact AI rfl
def Q8 (os:List Ob) (v:Int×Int):Int:=if v.1=1 then 1 else if v.1=2 then 2 else(os.getD v.2.toNat (0,[])).1
end Go.Gl
namespace Go.Gl
open Go.Proofs
def nE {σ:AH} {l:List At} {i:Nat} {v:V} {sz:Nat} {es:List (List V)} (hs:Sat σ l) (hi:l[i]? =some (.own v sz es)) (he: ∀e∈es,e.length=sz) {K:V→AH→Prop} (hk: ∀v' σ',Sat σ' (l.set i (.own v' sz es))→((B7 v').isSome=true∨(v'= .l es true∧v= .l es true))→K v' σ'):AV σ sz v none (some (.i .i64 (es.length:Int))) (some (.i .i64 (es.length:Int))) K:=by
 rcases hs.get hi with⟨rfl,_⟩|⟨n,cap,rfl,hn⟩
 ·refine⟨he,?_⟩
  simp only[M0];refine⟨Int.le_refl _,Int.natCast_nonneg _,Int.le_refl _,trivial,?_⟩
  have hset:l.set i (.own (.l es true) sz es)=l:=by
   refine List.ext_getElem? fun j=>?_
   by_cases hj:i=j
   ·subst hj
    rw[List.getElem?_set_self (G7.1 hi).1,hi]
   ·rw[List.getElem?_set_ne hj]
  have:=hk (.l es true) σ (by rw[hset];exact hs) (.inr ⟨rfl,rfl⟩);simpa using this
 ·unfold AV
  simp only[M0];refine⟨Int.le_refl _,Int.natCast_nonneg _,Int.le_refl _,trivial,trivial,trivial,?_⟩;rw[hn];refine⟨rfl,rfl,rfl,.inr (hk _ _ ?_ (.inl rfl))⟩;refine hs.change hi (fun b hb ha=>FC hb fun m hm=>?_) (fun b hb ha m hm=>?_) (.inr ⟨n,es.length,rfl,EI _ _ _⟩)
  ·rw[C3]
   intro e;subst e;exact ha m rfl hm
  ·cases hm
   exact ha _ rfl
attribute [local irreducible] BJ A2 Ak AW AM Aj AV AX AN Ai AR AU A5 BF Sat Ad BD Al W
def fB (xs:List Int) (v:V) (hl:xs.length≤Af) (hv:(B7 v).isSome=true∨(v= .l [] true∧xs= [])):Bk Tryz.prog 99 [v] [.own v 1 (iL xs)] fun r post=> ∃v',r= .ret v'∧post= [.own v' 1 (iL xs)]∧((B7 v').isSome=true∨(v'= .l [] true∧xs= [])):=by
 intro σ hs;have hg:=Ck B0 xs;refine gB kZ ?_
 conv=>whnf
 repeat'((first|(apply sq;intro K U)|(apply si;intro A B Y Z)|(apply Y;clear Z B Y A)|(apply U;clear U K)|refine lo ?_|fail)<;>conv=>whnf)
 refine nE (i:=0) hs rfl hg.1 fun v' σ hs hv'=>?_
 conv=>whnf
 repeat'((first|apply st|(apply Y;clear Z B Y A)|(apply U;clear U K)|fail)<;>conv=>whnf)
 refine Ap hs (List.Sublist.refl _) (.refl _) fun σ' hs'=>⟨_,⟨v',rfl,rfl,?_⟩,hs'⟩
 rcases hv' with h|⟨h1,h2⟩
 ·exact .inl h
 ·rcases hv with h|⟨h3,h4⟩
  ·rw[h2]at h;cases h
  ·subst h4
   exact .inr ⟨h1,rfl⟩
def Sd (xs ys:List Int) (k:Nat):Prop:=ys.length=xs.length∧ ∀t,t<xs.length→ys[t]? =if t<k∨xs.length - k≤t then xs[xs.length - 1 - t]? else xs[t]?
def jX (xs:List Int):Sd xs xs 0:=⟨rfl,fun t ht=>by rw[if_neg (by omega)]⟩
def bX {xs ys:List Int} {k:Nat} (h:Sd xs ys k) (hk:xs.length≤2*k+1):ys=xs.reverse:=by
 refine List.ext_getElem? fun t=>?_
 rcases Nat.lt_or_ge t xs.length with ht|ht
 ·rw[h.2 t ht,List.getElem?_reverse ht]
  split
  ·rfl
  ·congr 1;omega
 ·rw[List.getElem?_eq_none (by rw[h.1];exact ht),List.getElem?_eq_none (by rw[List.length_reverse];exact ht)]
def X7 {xs ys:List Int} {k:Nat} {a b:Int} (h:Sd xs ys k) (hk:2*k+1<xs.length) (ha:ys[k]? =some a) (hb:ys[xs.length - 1 - k]? =some b):Sd xs ((ys.set k b).set (xs.length - 1 - k) a) (k+1):=by
 have h1:=h.2 k (by omega);have h2:=h.2 (xs.length - 1 - k) (by omega);rw[if_neg (by omega),ha]at h1;rw[if_neg (by omega),hb]at h2;refine⟨by rw[List.length_set,List.length_set];exact h.1,fun t ht=>?_⟩;have hl:=h.1;by_cases e1:t=xs.length - 1 - k
 ·subst e1
  rw[List.getElem?_set_self (by rw[List.length_set];omega),if_pos (by omega),show xs.length - 1 - (xs.length - 1 - k)=k by omega,h1]
 ·rw[List.getElem?_set_ne (fun e=>e1 e.symm)]
  by_cases e2:t=k
  ·subst e2
   rw[List.getElem?_set_self (by omega),if_pos (by omega),h2]
  ·rw[List.getElem?_set_ne (fun e=>e2 e.symm),h.2 t ht]
   by_cases e3:t<k∨xs.length - k≤t
   ·rw[if_pos e3,if_pos (by omega)]
   ·rw[if_neg e3,if_neg (by omega)]
end Go.Gl
namespace Go.Gl
open Go.Proofs
attribute [local irreducible] BJ A2 Ak AW AM Aj AV AX AN Ai AR AU A5 BF Sat Ad BD Al W
set_option maxHeartbeats 1000000 in
def Xf (xs:List Int) (v:V) (hl:xs.length≤1000) (hv:(B7 v).isSome=true∨(v= .l [] true∧xs= [])):Bk Tryz.prog 82 [v] [.own v 1 (iL xs)] fun r post=>r= .ret (.t [])∧post= [.own v 1 (iL xs.reverse)]:=by
 intro σ hs;have hM:=Mx;have e0:((iL xs).length:Int)=xs.length:=by simp
 have hw0:IntKind.i64.wrap (((iL xs).length:Int) - 1)=(xs.length:Int) - 1:=by rw[e0,wrap64 (by omega) (by omega)]
 refine ph kZ ?_
 conv=>whnf
 repeat'((first|apply st|(apply sq;intro K U)|(apply si;intro A B Y Z)|(apply Y;clear Z B Y A)|(apply U;clear U K)|refine⟨rfl,?_⟩|refine lo ?_|fail)<;>conv=>whnf)
 refine Fo (fun(x:Int×Int×List Int)=>(x.2.1+1).toNat) (fun x=>[(2,eI x.1),(3,eI x.2.1)]) (fun x=>[.own v 1 (iL x.2.2)]) (fun x=> ∃k:Nat,x.1=k∧x.2.1=(xs.length:Int) - 1 - k∧2*k≤xs.length+1∧Sd xs x.2.2 k) (0,IntKind.i64.wrap (((iL xs).length:Int) - 1),xs) rfl ⟨0,rfl,by rw[hw0];simp,by omega,jX xs⟩ hs ?_;clear hs;rintro⟨i,j,ys⟩ σ ⟨k,hi,hj,hk,hh⟩ hs;dsimp only at hi hj hh hs;dsimp only;have hyl:=hh.1;by_cases hij:i<j
 ·have hsv:(B7 v).isSome=true:=by
   rcases hv with h|⟨h1,h2⟩
   ·exact h
   ·rw[h2]at hj;simp at hj;omega
  have hwi:IntKind.i64.wrap (i+1)=i+1:=wrap64 (by omega) (by omega);have hwj:IntKind.i64.wrap (j - 1)=j - 1:=wrap64 (by omega) (by omega);obtain⟨a,ha⟩: ∃a,ys[i.toNat]? =some a:=⟨_,DJ (by omega)⟩
  obtain⟨b,hb⟩: ∃b,ys[j.toNat]? =some b:=⟨_,DJ (by omega)⟩
  conv=>whnf
  repeat'((first|apply st|(apply sq;intro K U)|(apply si;intro A B Y Z)|(apply Y;clear Z B Y A)|(apply U;clear U K)|apply dr|refine⟨rfl,?_⟩|refine oi ?_|refine wz ?_|refine SH ?_|refine oset fun σ hs=>?_|refine oset (fun σ hs=>?_) (h1:=by rw[List.length_set];omega)|(constructor<;>intro hc<;>(try rw[hc])<;>(replace hc:=bp hc)<;>try(exfalso;omega))|fail)<;>conv=>whnf)
  have hik:i.toNat=k:=by omega
  have hjk:j.toNat=xs.length - 1 - k:=by omega
  refine⟨(IntKind.i64.wrap (i+1),IntKind.i64.wrap (j - 1),(ys.set i.toNat b).set j.toNat a),by dsimp only;rw[hwj];omega,rfl,⟨k+1,by dsimp only;rw[hwi];omega,by dsimp only;rw[hwj];omega,by omega,?_⟩,hs⟩;dsimp only;rw[hik]at ha ⊢;rw[hjk]at hb ⊢;exact X7 hh (by omega) ha hb
 ·have he:=bX hh (by omega)
  conv=>whnf
  repeat'((first|apply st|(apply sq;intro K U)|(apply si;intro A B Y Z)|(apply Y;clear Z B Y A)|(apply U;clear U K)|refine⟨rfl,?_⟩|(constructor<;>intro hc<;>(try rw[hc])<;>(replace hc:=bp hc)<;>try(exfalso;omega))|clear U K)<;>conv=>whnf)
  subst he;exact Ap hs (List.Sublist.refl _) (.refl _) fun σ' hs'=>⟨_,⟨rfl,rfl⟩,hs'⟩
set_option maxHeartbeats 4000000 in
def Vf (p:Prog) (L:Nat) (l:List Int) (f:Bool) (hok:Db p) (hgw:CQ (AS p)) (hfm: ∀x∈p.methods,Cf (AS p) x.fact=true) (hl:Gz p l) (hnd:l.Nodup) (M:List (Int×Int)) :
    Bk Tryz.prog 69 [Ft p L,.l (iL l) f] [.map L (FI p M)] fun r post=> ∃v M',r= .ret v∧post= [.own v 1 (iL (Dj (AY p) l.length (l.mergeSort G8))),.map L (FI p M')]∧((B7 v).isSome=true∨(v= .l [] true∧Dj (AY p) l.length (l.mergeSort G8)= [])):=by
 intro σ hs;have hM:=Mx;have h16:=hl.many;have hml:(l.mergeSort G8).length=l.length:=List.length_mergeSort _;have c1:=Pz l f;have c2:=P2 l f (by omega);refine gI kZ ?_
 conv=>whnf
 repeat'((first|apply st|(apply sq;intro K U)|(apply si;intro A B Y Z)|(apply Y;clear Z B Y A)|(apply U;clear U K)|refine ld ?_|refine FB fun σ hs=>?_|refine c1.use ?_|refine c2.use ?_|(intro nn hnn;generalize hg:BA _ nn _=σ;refine Ct hg fun hs=>?_;clear hg)|fail)<;>conv=>whnf)
 clear c1 c2 hnn
 refine Fo (fun(x:List Int×Bool×V×List Int×List (Int×Int))=>x.1.length) (fun x=>[(5,x.2.2.1)]) (fun x=>[.box nn [.l (iL x.1) x.2.1],.own x.2.2.1 1 (iL x.2.2.2.1),.map L (FI p x.2.2.2.2)])
  (fun x=>(∀y∈x.1,A1 p y=true)∧x.1.Nodup∧x.2.2.2.1.length+x.1.length≤16∧Dj (AY p) l.length (l.mergeSort G8)=x.2.2.2.1++Dj (AY p) x.1.length x.1∧((B7 x.2.2.1).isSome=true∨(x.2.2.1= .l [] true∧x.2.2.2.1= []))) (l.mergeSort G8,false,.l [] true,[],M) rfl ⟨fun y hy=>hl.Fb y (List.mem_mergeSort.1 hy),(List.mergeSort_perm l G8).symm.nodup hnd,by simpa[hml]using h16,by simp[hml],.inr ⟨rfl,rfl⟩⟩ ((C7 hs 1).perm (.swap _ _ _)) ?_
 clear hs;rintro⟨l',f',v,out,M⟩ σ ⟨hme,hn,hlen,hm,hv⟩ hs;dsimp only at hme hn hlen hm hv hs;dsimp only;have hll:out.length<Af∧(out.length+1)*8≤140737488355328:=by omega
 by_cases hz:l'.length=0
 ·rw[hz]at hm
  simp only[Dj,Ig]at hm
  conv=>whnf
  repeat'((first|apply st|(apply sq;intro K U)|(apply si;intro A B Y Z)|(apply Y;clear Z B Y A)|(apply U;clear U K)|refine⟨rfl,?_⟩|refine ld ?_|(constructor<;>intro hc<;>(try rw[hc])<;>(replace hc:=bp hc)<;>(try simp(disch:=omega) only[BQ,wrap64,AL]at hc)<;>try(exfalso;omega))|clear U K)<;>conv=>whnf)
  refine(fB out v (by omega) hv).use (rest:=[_,_]) (hs.perm (.swap _ _ _)) ?_;clear hs;rintro r post σ ⟨v',rfl,rfl,hv'⟩ hs
  conv=>whnf
  repeat'((first|apply st|(apply Y;clear Z B Y A)|(apply U;clear U K)|fail)<;>conv=>whnf)
  rw[hm];exact Ap hs (.cons₂ _ (Ji _ _)) (.refl _) fun σ' hs'=>⟨_,⟨v',M,rfl,rfl,hv'⟩,hs'⟩
 ·obtain⟨n,hnn⟩: ∃n,l'.length=n+1:=⟨l'.length - 1,by omega⟩
  have hne:l'≠[]:=fun e=>hz (by rw[e];rfl)
  obtain⟨i,hi⟩:=L2 hok hne hme;have hil:i<l'.length:=by simpa using List.mem_of_find?_eq_some hi
  obtain⟨x,hx⟩: ∃x,l'[i]? =some x:=⟨_,DJ hil⟩
  rw[hnn,Dj,hi,Option.getD_some,C9 hx]at hm;have c3:=Lq l' f' x (by omega);rw[E5 hn hx]at c3;have hel:=List.length_eraseIdx_of_lt hil
  conv=>whnf
  repeat'((first|apply st|(apply sq;intro K U)|(apply si;intro A B Y Z)|(apply Y;clear Z B Y A)|(apply U;clear U K)|refine⟨rfl,?_⟩|refine ld ?_|(constructor<;>intro hc<;>(try rw[hc])<;>(replace hc:=bp hc)<;>(try simp(disch:=omega) only[BQ,wrap64,AL]at hc)<;>try(exfalso;omega))|fail)<;>conv=>whnf)
  refine(IG 104 [] [.p nn 0,.rp [Ft p L]] (fun M=>[.box nn [.l (iL l') f'],.map L (FI p M)]) _ _ (V3 p L nn l' f' hok hgw hfm hme) l' f' M (Gy fun y hy _=>hme y hy)).use (rest:=[.own v 1 (iL out)]) (hs.perm (.cons _ (.swap _ _ _))) ?_;clear hs;rintro r post σ ⟨rfl,rfl⟩ hs;rw[Wm,hi];generalize (Bo _ l' 0 M).2=M2 at hs;dsimp only
  conv=>whnf
  repeat'((first|apply st|(apply sq;intro K U)|(apply si;intro A B Y Z)|(apply Y;clear Z B Y A)|(apply U;clear U K)|refine GX ?_|refine ld ?_|refine FB fun σ hs=>?_|refine aq fun v σ hs hsl=>?_|refine c3.use ?_|clear U K)<;>conv=>whnf)
  refine⟨(l'.eraseIdx i,true,v,out++[x],M2),by dsimp only;omega,rfl,⟨fun y hy=>hme y (List.mem_of_mem_eraseIdx hy),hn.sublist (List.eraseIdx_sublist _ _),by simp;omega,?_,.inl hsl⟩,hs.perm (.cons _ (.swap _ _ _))⟩;dsimp only;rw[hm,hel,show l'.length - 1=n by omega];simp
def YV (os:List Ob) (f:Bool) (v:Int×Int):Pure Tryz.prog 79 [.a (pI v),.rp [.l (os.map F0) f]] (.b (B6 os.length v)):=by
 have e3:((os.map F0).length:Int)=os.length:=by simp
 have c1:Pure Tryz.prog 80 [.a (pI v),eI ((os.map F0).length:Int)] (.b (B6 os.length v)):=by rw[e3];exact dG v os.length
 refine po kZ ?_;have hs:=Sn
 conv=>whnf
 repeat'((first|apply st|(apply sq;intro K U)|(apply si;intro A B Y Z)|(apply Y;clear Z B Y A)|(apply U;clear U K)|refine⟨kZ,?_⟩|refine c1.use ?_|fail)<;>conv=>whnf)
 all_goals exact AI rfl
def fD (xs:List (Int×Int)) (v:V) (hl:xs.length≤Af):Bk Tryz.prog 114 [v] [.own v 2 (pP xs)] fun r post=>r= .ret (.l (pP xs) true)∧post= []:=by
 intro σ hs;have hg:=Ck Ns xs;refine mu kZ ?_
 conv=>whnf
 repeat'((first|(apply sq;intro K U)|(apply si;intro A B Y Z)|(apply Y;clear Z B Y A)|(apply U;clear U K)|refine lo ?_|fail)<;>conv=>whnf)
 refine Vw (i:=0) hs rfl hg.1 (by simpa using hl) fun σ hs=>?_
 conv=>whnf
 repeat'((first|apply st|(apply Y;clear Z B Y A)|(apply U;clear U K)|fail)<;>conv=>whnf)
 exact Ap hs (List.Sublist.refl _) (.refl _) fun σ' hs'=>⟨_,⟨rfl,rfl⟩,hs'⟩
def bc (os:List Ob) (f:Bool) (xs:List (Int×Int)) (g:Bool) (hxl:xs.length≤1000):Pure Tryz.prog 78 [.l (pP xs) g,.f (.func 79) [] [.rp [.l (os.map F0) f]]] (.l (pP (xs.filter (B6 os.length))) true):=by
 refine Pure.of ?_;have hM:=Mx;refine pq kZ ?_;have hs:=Sn
 conv=>whnf
 repeat'((first|apply st|(apply sq;intro K U)|(apply si;intro A B Y Z)|(apply Y;clear Z B Y A)|(apply U;clear U K)|fail)<;>conv=>whnf)
 refine B2 xs.length (fun k v=>[(5,v),(10,eI (A4 k))]) (fun k v=>[.own v 2 (pP ((xs.take k).filter (B6 os.length)))]) (fun _ _=>True) (.l [] true) rfl trivial (E9 hs 2) ?_;clear hs;rintro k v σ hk - hs;have hfl:=KD (B6 os.length) (xs.take k);rw[KG]at hfl;rcases BC xs hk with⟨y,hy,hlt⟩|hke
 ·have hst:(xs.take (k+1)).filter (B6 os.length)=if B6 os.length y then(xs.take k).filter (B6 os.length)++[y]else(xs.take k).filter (B6 os.length):=by
   rw[AO hy,List.filter_append];cases hp:B6 os.length y<;>simp[hp]
  generalize (xs.take k).filter (B6 os.length)=zs at *;have hll:zs.length<Af∧(zs.length+1)*16≤140737488355328:=by omega
  have c1:=YV os f y;cases hvy:B6 os.length y<;>rw[hvy]at c1 hst
  ·conv=>whnf
   repeat'((first|apply st|(apply sq;intro K U)|(apply si;intro A B Y Z)|(apply Y;clear Z B Y A)|(apply U;clear U K)|refine⟨rfl,?_⟩|refine⟨kZ,?_⟩|refine ix ?_|refine ld ?_|refine Dy fun σ hs=>?_|(refine CK (fun hc=>?_)<;>(try rw[hc])<;>clear hc)|refine Bp (c1.use ?_)|(intro nn hnn;generalize hg:BA _ nn _=σ;refine Ct hg fun hs=>?_;clear hg)|clear U K)<;>conv=>whnf)
   exact⟨hlt,_,rfl,trivial,by rw[hst];exact hs.less (Ji _ _)⟩
  ·conv=>whnf
   repeat'((first|apply st|(apply sq;intro K U)|(apply si;intro A B Y Z)|(apply Y;clear Z B Y A)|(apply U;clear U K)|refine⟨rfl,?_⟩|refine⟨kZ,?_⟩|refine ix ?_|refine ld ?_|refine Dy fun σ hs=>?_|(refine CK (fun hc=>?_)<;>(try rw[hc])<;>clear hc)|refine Bp (c1.use ?_)|refine aq (enc:=pI) (x:=((_:Int),(_:Int))) (fun v σ hs hsl=>?_) (hg:=Ns)|(intro nn hnn;generalize hg:BA _ nn _=σ;refine Ct hg fun hs=>?_;clear hg)|clear U K)<;>conv=>whnf)
   exact⟨hlt,_,rfl,trivial,by rw[hst];exact hs.less (Ji _ _)⟩
 ·rw[Ar hke]at hs
  conv=>whnf
  repeat'((first|apply st|(apply sq;intro K U)|(apply si;intro A B Y Z)|(apply Y;clear Z B Y A)|(apply U;clear U K)|refine⟨rfl,?_⟩|(refine DR (fun hc=>?_)<;>(try rw[hc])<;>clear hc)|clear U K)<;>conv=>whnf)
  refine(fD (xs.filter (B6 os.length)) v (by have:=KD (B6 os.length) xs;omega)).use (rest:=[]) (by simpa using hs) ?_;clear hs;rintro r post σ ⟨rfl,rfl⟩ hs
  conv=>whnf
  repeat'((first|apply st|(apply Y;clear Z B Y A)|(apply U;clear U K)|fail)<;>conv=>whnf)
  exact AQ (by rfl)
def Xb (f : Fact):Nk f=true→Pure Tryz.prog 116 [.a (xF f)] (eI (DL f)):=by
 induction f using Fact.ind with
 | h f ih=>
   intro ha;refine Pure.fit (by kernel_rfl) fun hf=>?_
   have⟨h2,h3,h4⟩:=IQ hf.1;have hM:=Mx;rw[K8]at ha;simp only[BY,Ce,List.all_map,EN]at ha;have c1:=NC f;refine mr kZ ?_;have hs:=Sn;by_cases hlf:Bq f=true
   ·rw [hlf]at c1
    have hw:IntKind.i64.wrap (f.arg+1)=f.arg+1:=wrap64 (by omega) (by omega)
    conv=>whnf
    repeat'((first|apply st|(apply sq;intro K U)|(apply si;intro A B Y Z)|(apply Y;clear Z B Y A)|(apply U;clear U K)|refine⟨rfl,?_⟩|refine⟨kZ,?_⟩|refine c1.use ?_|fail)<;>conv=>whnf)
    all_goals
     refine B2 f.kids.length (fun k (_:Unit)=>[(3,eI (((f.kids.take k).map DL).foldl HH (if Bq f then f.arg+1 else 0))),(14,eI (A4 k))]) (fun _ _=>[]) (fun _ _=>True) () (by rw[hw,if_pos hlf];rfl) trivial hs ?_;clear hs;rintro k - σ hk - hs;rcases BC f.kids hk with⟨x,hx,hlt⟩|hke
     ·have hxs:=ih x (B5 hx) (ha.2 x (B5 hx))
      conv=>whnf
      repeat'((first|apply st|(apply sq;intro K U)|(apply si;intro A B Y Z)|(apply Y;clear Z B Y A)|(apply U;clear U K)|refine⟨rfl,?_⟩|refine⟨kZ,?_⟩|refine Mz ?_|refine ld ?_|refine Dy fun σ hs=>?_|(refine CK (fun hc=>?_)<;>(try rw[hc])<;>clear hc)|(intro nn hnn;generalize hg:BA _ nn _=σ;refine Ct hg fun hs=>?_;clear hg)|refine Pure.use (by assumption) ?_|clear U K)<;>conv=>whnf)
      exact⟨hlt,(),by rw[ET _ _ _ hx];rfl,trivial,hs.take 0⟩
     ·conv=>whnf
      repeat'((first|apply st|(apply sq;intro K U)|(apply si;intro A B Y Z)|(apply Y;clear Z B Y A)|(apply U;clear U K)|refine⟨rfl,?_⟩|(refine DR (fun hc=>?_)<;>(try rw[hc])<;>clear hc)|clear U K)<;>conv=>whnf)
      exact AI (by rw[Ar hke,←D2])
   ·rw [Bool.not_eq_true]at hlf
    rw[hlf]at c1;have hlf2: ¬Bq f=true:=by rw[hlf];decide
    conv=>whnf
    repeat'((first|apply st|(apply sq;intro K U)|(apply si;intro A B Y Z)|(apply Y;clear Z B Y A)|(apply U;clear U K)|refine⟨kZ,?_⟩|refine c1.use ?_|fail)<;>conv=>whnf)
    all_goals
     refine B2 f.kids.length (fun k (_:Unit)=>[(3,eI (((f.kids.take k).map DL).foldl HH (if Bq f then f.arg+1 else 0))),(14,eI (A4 k))]) (fun _ _=>[]) (fun _ _=>True) () (by rw[if_neg hlf2];rfl) trivial hs ?_;clear hs;rintro k - σ hk - hs;rcases BC f.kids hk with⟨x,hx,hlt⟩|hke
     ·have hxs:=ih x (B5 hx) (ha.2 x (B5 hx))
      conv=>whnf
      repeat'((first|apply st|(apply sq;intro K U)|(apply si;intro A B Y Z)|(apply Y;clear Z B Y A)|(apply U;clear U K)|refine⟨rfl,?_⟩|refine⟨kZ,?_⟩|refine Mz ?_|refine ld ?_|refine Dy fun σ hs=>?_|(refine CK (fun hc=>?_)<;>(try rw[hc])<;>clear hc)|(intro nn hnn;generalize hg:BA _ nn _=σ;refine Ct hg fun hs=>?_;clear hg)|refine Pure.use (by assumption) ?_|clear U K)<;>conv=>whnf)
      exact⟨hlt,(),by rw[ET _ _ _ hx];rfl,trivial,hs.take 0⟩
     ·conv=>whnf
      repeat'((first|apply st|(apply sq;intro K U)|(apply si;intro A B Y Z)|(apply Y;clear Z B Y A)|(apply U;clear U K)|refine⟨rfl,?_⟩|(refine DR (fun hc=>?_)<;>(try rw[hc])<;>clear hc)|clear U K)<;>conv=>whnf)
      exact AI (by rw[Ar hke,←D2])
def Sp (v:Int×Int) (n:Int):Pure Tryz.prog 149 [.a (pI v),eI n] (.b (B6 n v)):=by
 obtain⟨k,x⟩:=v;refine mJ kZ ?_;have hs:=Sn
 conv=>whnf
 repeat'((first|apply st|(apply sq;intro K U)|(apply si;intro A B Y Z)|(apply Y;clear Z B Y A)|(apply U;clear U K)|refine⟨rfl,?_⟩|(constructor<;>intro hc<;>(try rw[hc])<;>(replace hc:=bp hc)<;>(try simp(disch:=omega) only[BQ,wrap64,AL]at hc))|clear U K)<;>conv=>whnf)
 all_goals exact AI (by simp[B6, *]<;>omega)
def Vb (os:List Ob) (f:Bool) (v:Int×Int):Pure Tryz.prog 148 [.a (pI v),.rp [.l (os.map F0) f]] (.b (B6 os.length v)):=by
 have e3:((os.map F0).length:Int)=os.length:=by simp
 have c1:Pure Tryz.prog 149 [.a (pI v),eI ((os.map F0).length:Int)] (.b (B6 os.length v)):=by rw[e3];exact Sp v os.length
 refine mK kZ ?_;have hs:=Sn
 conv=>whnf
 repeat'((first|apply st|(apply sq;intro K U)|(apply si;intro A B Y Z)|(apply Y;clear Z B Y A)|(apply U;clear U K)|refine⟨kZ,?_⟩|refine c1.use ?_|fail)<;>conv=>whnf)
 all_goals exact AI rfl
def Nl (g:FuncId) (fi ca:List V) (q:Int×Int→Bool):Prop:= ∀v,Pure Tryz.prog g (fi++[.a (pI v)]++ca) (.b (q v))
def Nl.use {g:FuncId} {fi ca:List V} {q:Int×Int→Bool} (h:Nl g fi ca q) {v:Int×Int} {σ:AH} {k kp:V→AH→Prop} (hk:k (.b (q v)) σ):A5 Tryz.prog (.f (.func g) fi ca) [.a (pI v)] σ (qk k kp):=Bp ((h v).use hk)
def VY {g:FuncId} {fi ca:List V} {q:Int×Int→Bool} (hpf:Nl g fi ca q) (v:Int×Int):Pure Tryz.prog 191 [.a (pI v),.rp [.f (.func g) fi ca]] (.b (!q v)):=by
 refine lN kZ ?_;have hs:=Sn
 conv=>whnf
 repeat'((first|apply st|(apply sq;intro K U)|(apply si;intro A B Y Z)|(apply Y;clear Z B Y A)|(apply U;clear U K)|refine⟨kZ,?_⟩|refine Nl.use hpf ?_|fail)<;>conv=>whnf)
 all_goals exact AI rfl
def NU {α:Type} (q:α→Bool):List α→Nat→Int
 | [],_=> -1
 | v::r,k=>if q v then NU q r (k+1)else k
def OJ {α:Type} (q:α→Bool): ∀(l:List α) (k:Nat),decide (NU q l k≥0)= !l.all q
 | [],_=>rfl
 | v ::r,k=>by
   rw[NU,My];cases q v
   ·rw[if_neg (by decide),Bool.false_and]
    exact decide_eq_true (Int.natCast_nonneg k)
   ·rw[if_pos rfl,E7]
    exact OJ q r (k+1)
def bU {g:FuncId} {fi ca:List V} {q:Int×Int→Bool} (hpf:Nl g fi ca q) (l:List (Int×Int)) (b:Bool):Pure Tryz.prog 239 [.l (pP l) b,.f (.func 191) [] [.rp [.f (.func g) fi ca]]] (eI (NU q l 0)):=by
 refine Pure.fit (by kernel_rfl) fun hf=>?_
 have hl:l.length≤Af:=by
  have:=hf.1;simp only[Ev,BQ]at this;exact this.1
 have hM:=Mx;refine kR kZ ?_;have hs:=Sn
 conv=>whnf
 repeat'((first|apply st|(apply sq;intro K U)|(apply si;intro A B Y Z)|(apply Y;clear Z B Y A)|(apply U;clear U K)|fail)<;>conv=>whnf)
 refine B2 l.length (fun k (_:Unit)=>[(8,eI (A4 k))]) (fun _ _=>[]) (fun k _=>NU q l 0=NU q (l.drop k) k) () rfl rfl hs ?_;clear hs;rintro k - σ hk hn hs;have hck:A4 k=k:=AL (by omega);rcases BC l hk with⟨x,hx,hlt⟩|hke
 ·have c1:=VY hpf x
  rw[drop_cons hx,NU]at hn;cases hv:q x<;>rw[hv]at c1 hn
  ·conv=>whnf
   repeat'((first|apply st|(apply sq;intro K U)|(apply si;intro A B Y Z)|(apply Y;clear Z B Y A)|(apply U;clear U K)|refine⟨rfl,?_⟩|refine⟨kZ,?_⟩|refine ix ?_|refine Er ?_|(refine CK (fun hc=>?_)<;>(try rw[hc])<;>clear hc)|refine Bp (c1.use ?_)|clear U K)<;>conv=>whnf)
   exact AI (by rw[hn,if_neg (by decide),hck])
  ·conv=>whnf
   repeat'((first|apply st|(apply sq;intro K U)|(apply si;intro A B Y Z)|(apply Y;clear Z B Y A)|(apply U;clear U K)|refine⟨rfl,?_⟩|refine⟨kZ,?_⟩|refine ix ?_|refine De ?_|(refine CK (fun hc=>?_)<;>(try rw[hc])<;>clear hc)|refine Bp (c1.use ?_)|clear U K)<;>conv=>whnf)
   exact⟨hlt,(),rfl,by rw[hn,if_pos rfl],hs⟩
 ·conv=>whnf
  repeat'((first|apply st|(apply sq;intro K U)|(apply si;intro A B Y Z)|(apply Y;clear Z B Y A)|(apply U;clear U K)|refine⟨rfl,?_⟩|(refine DR (fun hc=>?_)<;>(try rw[hc])<;>clear hc)|clear U K)<;>conv=>whnf)
  exact AI (by rw[hn,Ah hke];rfl)
def T6 {g:FuncId} {fi ca:List V} {q:Int×Int→Bool} (hpf:Nl g fi ca q) (l:List (Int×Int)) (b:Bool):Pure Tryz.prog 190 [.l (pP l) b,.f (.func 191) [] [.rp [.f (.func g) fi ca]]] (.b (!l.all q)):=by
 have c1:=bU hpf l b;refine lO kZ ?_;have hs:=Sn
 conv=>whnf
 repeat'((first|apply st|(apply sq;intro K U)|(apply si;intro A B Y Z)|(apply Y;clear Z B Y A)|(apply U;clear U K)|refine⟨rfl,?_⟩|refine c1.use ?_|fail)<;>conv=>whnf)
 all_goals exact AI (by rw[←OJ q l 0])
def Z7 {g:FuncId} {fi ca:List V} {q:Int×Int→Bool} (hpf:Nl g fi ca q) (l:List (Int×Int)) (b:Bool):Pure Tryz.prog 147 [.l (pP l) b,.f (.func g) fi ca] (.b (l.all q)):=by
 have c1:=T6 hpf l b;refine mL kZ ?_;have hs:=Sn
 conv=>whnf
 repeat'((first|apply st|(apply sq;intro K U)|(apply si;intro A B Y Z)|(apply Y;clear Z B Y A)|(apply U;clear U K)|refine c1.use ?_|fail)<;>conv=>whnf)
 all_goals exact AI (by rw[Bool.not_not])
def Zh (w:AK) (hw:CQ w) (c s:Int) (hc0:3≤c) (hc1:c<3+w.parents.length) (hs0:0≤s) (hs1:s<w.owner.length):Pure Tryz.prog 192 [.rp (wC w (CE w.parents)),eI c,eI s] (.b (((CE w.parents).getD c.toNat 0).testBit (CV w s).toNat)):=by
 have hM:=Mx;have hwp:=hw.1.1;have hol:=hw.2.1;have hu:nh (CE w.parents):=HS _ _ (by have:=hw.1.1;omega);have hul:(CE w.parents).length=3+w.parents.length:=Eh _ _;obtain⟨o,ho⟩: ∃o,w.owner[s.toNat]? =some o:=⟨_,DJ (by omega)⟩
 have hoi:CV w s=o:=by rw[CV,DY,ho];rfl
 have hor:=hw.2.2 o (B5 ho);generalize CE w.parents=us at *
 have hup:(List.drop (c.toNat*1) (List.drop 2 (wC w us)))[0]? =some (eU (us.getD c.toNat 0)):=by
  rw[cO,cO,←Vo w us (i:=c.toNat) (by omega)];congr 1;omega
 rw[hoi]
 have c1:Pure Tryz.prog 152 [eU (us.getD c.toNat 0),eI o] (.b ((us.getD c.toNat 0).testBit o.toNat)):=by
  have:=Nq (us.getD c.toNat 0) o.toNat (Li hu _) (by omega)
  rwa [Int.toNat_of_nonneg (by omega)]at this
 refine lM kZ ?_;have hs:=Sn
 conv=>whnf
 repeat'((first|apply st|(apply sq;intro K U)|(apply si;intro A B Y Z)|(apply Y;clear Z B Y A)|(apply U;clear U K)|apply dr|refine nv ?_|fail)<;>conv=>whnf)
 rw[hup]
 conv=>whnf
 repeat'((first|apply st|(apply Y;clear Z B Y A)|(apply U;clear U K)|apply dr|refine GX ?_|refine c1.use ?_|fail)<;>conv=>whnf)
 all_goals exact AI rfl
def Wb {w:AK} (hw:CQ w) (hw2:KE w) {c s:Int} (hc0:3≤c) (hc1:c<3+w.parents.length) (hs0:0≤s) (hs1:s<w.owner.length):hasB w c s=((CE w.parents).getD c.toNat 0).testBit (CV w s).toNat:=by
 have ho:=RF hw2 ⟨hs0,hs1⟩;rw[Nx hw2.ord (by omega),hasB,decide_eq_true hc0,E7,Mp,decide_eq_true hc0,E7];have e0:(CV w s==0)=false:=by rw[beq_eq_false_iff_ne];omega
 have e1:((CV w s).toNat==0)=false:=by rw[beq_eq_false_iff_ne];omega
 rw[e0,e1,Bool.false_or];by_cases h:c=CV w s
 ·rw[←h,Fh hw2.ord];simp
 ·rw[beq_eq_false_iff_ne.2 h,Bool.false_or]
def S2 (w:AK) (c:Int) (hw:CQ w) (hw2:KE w) (hc0:3≤c) (hc1:c<3+w.parents.length):Pure Tryz.prog 188 [.rp (wC w (CE w.parents)),eI c] (.l (iL (Cv w c)) false):=by
 have hM:=Mx;have hol:=hw2.cz;refine lQ kZ ?_;have hs:=Sn
 conv=>whnf
 repeat'((first|apply st|(apply sq;intro K U)|(apply si;intro A B Y Z)|(apply Y;clear Z B Y A)|(apply U;clear U K)|fail)<;>conv=>whnf)
 refine B2 w.owner.length (fun k v=>[(5,v),(13,eI (A4 k))]) (fun k v=>[.own v 1 (iL ((Bi k).filter (hasB w c)))]) (fun _ _=>True) (.l [] true) rfl trivial (E9 Sat.nil 1) ?_;clear hs;rintro k v σ hk - hs;have hfl:=KD (hasB w c) (Bi k);rw[Dt]at hfl;rcases BC w.owner hk with⟨s,hso,hlt⟩|hke
 ·have hck:A4 k=k:=AL (by omega)
  have c1:Pure Tryz.prog 192 [.rp (wC w (CE w.parents)),eI c,eI (A4 k)] (.b (hasB w c k)):=by rw[hck,Wb hw hw2 hc0 hc1 (by omega) (by omega)];exact Zh w hw c k hc0 hc1 (by omega) (by omega)
  have hst:(Bi (k+1)).filter (hasB w c)=if hasB w c k then(Bi k).filter (hasB w c)++[(k:Int)]else(Bi k).filter (hasB w c):=by
   rw[Fl,List.filter_append];cases hp:hasB w c k<;>simp[hp]
  generalize (Bi k).filter (hasB w c)=zs at *;have hll:zs.length<Af∧(zs.length+1)*8≤140737488355328:=by omega
  cases hh:hasB w c k<;>rw[hh]at c1 hst
  ·conv=>whnf
   repeat'((first|apply st|(apply sq;intro K U)|(apply si;intro A B Y Z)|(apply Y;clear Z B Y A)|(apply U;clear U K)|refine⟨rfl,?_⟩|(refine CK (fun hc=>?_)<;>(try rw[hc])<;>clear hc)|refine c1.use ?_|clear U K)<;>conv=>whnf)
   exact⟨hlt,_,rfl,trivial,by rw[hst];exact hs⟩
  ·conv=>whnf
   repeat'((first|apply st|(apply sq;intro K U)|(apply si;intro A B Y Z)|(apply Y;clear Z B Y A)|(apply U;clear U K)|refine⟨rfl,?_⟩|refine aq fun v σ hs hsl=>?_|(refine CK (fun hc=>?_)<;>(try rw[hc])<;>clear hc)|refine c1.use ?_|clear U K)<;>conv=>whnf)
   exact⟨hlt,_,rfl,trivial,by rw[hst,←hck];exact hs⟩
 ·rw[hke]at hs
  conv=>whnf
  repeat'((first|apply st|(apply sq;intro K U)|(apply si;intro A B Y Z)|(apply Y;clear Z B Y A)|(apply U;clear U K)|refine⟨rfl,?_⟩|(refine DR (fun hc=>?_)<;>(try rw[hc])<;>clear hc)|clear U K)<;>conv=>whnf)
  exact Bh (hs.Pm 0 rfl)
end Go.Gl
namespace Go.Gl
open Go.Proofs
structure UM (w:AK) (os:List Ob):Prop where
 len:os.length≤40
 own: ∀o∈os,(3:Int)≤o.1∧o.1<3+(w.parents.length:Int)
 num: ∀o∈os,o.2.length=(Cv w o.1).length
 val: ∀o∈os,∀v∈o.2,B6 os.length v=true
def WI {w:AK} {os:List Ob} (h:FZ w os=true):UM w os:=by
 simp only[FZ,BY,Ce,EN,La,Q2,Dx]at h;exact⟨h.1,fun o ho=>(h.2 o ho).1,fun o ho=>(h.2 o ho).2.1,fun o ho=>(h.2 o ho).2.2⟩
def Up {w:AK} {c s:Int}:s∈Cv w c↔(0≤s∧s<(w.owner.length:Int))∧hasB w c s=true:=by
 rw[Cv,JV,FR]
abbrev XH (os:List Ob) (v:Int×Int):Ob:=os.getD v.2.toNat (0,[])
def Na (w:AK) (os:List Ob) (s:Int) (v:Int×Int):Int×Int:=(XH os v).2.getD ((Cv w (XH os v).1).idxOf s) (0,0)
def cX (w:AK) (os:List Ob):List Int→Int×Int→Option (Int×Int)
 | [],v=>some v
 | s::r,v=>if v.1==3&&hasB w (XH os v).1 s then cX w os r (Na w os s v)else none
def Nw {n:Int} {v:Int×Int} (h:B6 n v=true) (h3:v.1=3):0≤v.2∧v.2<n:=by
 rw[B6,if_neg (by omega),if_neg (by omega),if_pos h3]at h;simpa using h
def NA {os:List Ob} {v:Int×Int} (hv:B6 os.length v=true) (h3:v.1=3): ∃o,os[v.2.toNat]? =some o∧XH os v=o∧o∈os:=by
 have:=Nw hv h3;have hl:v.2.toNat<os.length:=by omega
 exact⟨os[v.2.toNat],DJ hl,by rw[XH,DY,DJ hl];rfl,List.getElem_mem hl⟩
def Sz {w:AK} {os:List Ob} {s:Int} {v:Int×Int} {o:Ob} (hos:UM w os) (ho:XH os v=o) (hm:o∈os) (hs:0≤s∧s<(w.owner.length:Int)) (hh:hasB w o.1 s=true) :
    ∃i,i<(Cv w o.1).length∧(Cv w o.1).idxOf s=i∧(Cv w o.1)[i]? =some s∧(∀j x,j<i→(Cv w o.1)[j]? =some x→x≠s)∧o.2[i]? =some (Na w os s v)∧B6 os.length (Na w os s v)=true:=by
 have hmem:s∈Cv w o.1:=Up.2 ⟨hs,hh⟩;have hlt:=List.idxOf_lt_length_of_mem hmem;have hn:=hos.num o hm
 have hx:o.2[(Cv w o.1).idxOf s]? =some (Na w os s v):=by
  rw[Na,ho,DY];rw[DJ (by omega)];rfl
 refine⟨_,hlt,rfl,?_,fun j x hj hjx e=>?_,hx,hos.val o hm _ (B5 hx)⟩
 ·rw[DJ hlt,List.getElem_idxOf hlt]
 ·have hjl:=(G7.1 hjx).1
  have:=List.not_of_lt_findIdx (p:=(· ==s)) (xs:=Cv w o.1) (by simpa[List.idxOf]using hj);rw[DJ hjl]at hjx;have h2:=Option.some.inj hjx;rw[h2,e]at this;simp at this
def Z3 {w:AK} {os:List Ob} (hos:UM w os): ∀ {l:List Int} {v u:Int×Int},(∀s∈l,0≤s∧s<(w.owner.length:Int))→B6 os.length v=true→cX w os l v=some u→B6 os.length u=true
 | [],v,u,_,hv,h=>by cases h;exact hv
 | s ::r,v,u,hl,hv,h=>by
   rw[cX]at h;split at h
   ·rename_i hc
    simp only[BY,Dx]at hc;obtain⟨o,h1,h2,h3⟩:=NA hv hc.1;obtain⟨i,q1,q2,q3,q4,q5,q6⟩:=Sz hos h2 h3 (hl s (.head _)) (h2 ▸ hc.2);exact Z3 hos (fun s hs=>hl s (.tail _ hs)) q6 h
   ·cases h
def fq (w:AK) (os:List Ob) (args:List (Int×Int)) (f:Fact):Bool:=match cX w os f.path (args.getD f.arg.toNat (0,0))with
 | none=>false
 | some v=>if f.op=2 then Mp w.parents (Q8 os v) f.cls else v.1==1&&(if f.op=3 then decide (v.2<f.n)else v.2==f.n)
def Vv (w:AK) (os:List Ob) (args:List (Int×Int)) (f:Fact) (l:List Bool):Bool:=
 if f.op=1 then true else if f.op=5 then !l.getD 0 false else if f.op=6 then l.getD 0 false&&l.getD 1 false else if f.op=7 then l.getD 0 false||l.getD 1 false else fq w os args f
def D4 (w:AK) (os:List Ob) (args:List (Int×Int)) (f:Fact):Bool:=f.HK (Vv w os args)
def bW (w:AK) (os:List Ob) (args:List (Int×Int)) (f:Fact):D4 w os args f=Vv w os args f (f.kids.map (D4 w os args)):=Fact.Dg (Vv w os args) f
end Go.Gl
namespace Go.Gl
open Go.Proofs
attribute [local irreducible] BJ A2 Ak AW AM Aj AV AX AN Ai AR AU A5 BF Sat Ad BD Al W
abbrev xA (o:Option (Int×Int)):V:= .t [.a (pI (o.getD (0,0))),.b o.isSome]
def oO {α:Type} {l:List α} (h:l.length=2): ∃a b,l= [a,b]:=by
 match l,h with
 | [a,b],_=>exact⟨a,b,rfl⟩
def U5 {w:AK} {f:Fact} (h:Bj w f=true) :
    f.op=1∨(f.op=5∧ ∃a,f.kids= [a]∧Bj w a=true)∨(f.op=6∧ ∃a b,f.kids= [a,b]∧Bj w a=true∧Bj w b=true)∨(f.op=7∧ ∃a b,f.kids= [a,b]∧Bj w a=true∧Bj w b=true)∨
     ((f.op=2∨f.op=3∨f.op=4)∧Bq f=true∧(∀s∈f.path,0≤s∧s<(w.owner.length:Int))∧(f.op=2→0≤f.cls∧f.cls<3+(w.parents.length:Int))∧0≤f.arg):=by
 rw[Ch]at h;simp only[DB,BY,EN,Dx,Ce]at h;obtain⟨⟨ho,hk,ha0,ha3,hp,-⟩,hks⟩:=h;simp only[Es,BY,EN,HM,Ce]at hp;by_cases h2:f.op=2
 ·rw[SG,if_pos h2]at ho
  simp only[NT,BY,Ce]at ho;exact .inr (.inr (.inr (.inr ⟨.inl h2,by simp[Bq,h2],hp.1,fun _=>ho.2,ha0⟩)))
 by_cases h34:f.op=3∨f.op=4
 ·exact .inr (.inr (.inr (.inr ⟨.inr h34,by rcases h34 with h|h<;>simp[Bq,h],hp.1,fun h=>absurd h h2,ha0⟩)))
 rw[SG,if_neg h2,if_neg h34]at ho;simp only[Fq,Dx]at ho;rcases ho with((h1|h5)|h6)|h7
 ·exact .inl h1
 ·rw[CF,if_pos h5]at hk
  obtain⟨a,ha⟩:=List.length_eq_one_iff.1 hk;exact .inr (.inl ⟨h5,a,ha,hks a (by rw[ha];exact .head _)⟩)
 ·rw[CF,if_neg (by omega),if_pos (.inl h6)]at hk
  obtain⟨a,b,ha⟩:=oO hk;exact .inr (.inr (.inl ⟨h6,a,b,ha,hks a (by rw[ha];exact .head _),hks b (by rw[ha];exact .tail _ (.head _))⟩))
 ·rw[CF,if_neg (by omega),if_pos (.inr h7)]at hk
  obtain⟨a,b,ha⟩:=oO hk;exact .inr (.inr (.inr (.inl ⟨h7,a,b,ha,hks a (by rw[ha];exact .head _),hks b (by rw[ha];exact .tail _ (.head _))⟩)))
def I8: ∀(l:List Int) (a:Int) {x:Int},x∈l→x≤l.foldl HH a
 | y ::r,a,x,h=>by
   rcases GB.1 h with rfl|h
   ·refine Int.le_trans ?_ (FW r _)
    unfold HH;split<;>omega
   ·exact I8 r _ h
def Hb {f a:Fact} (h:a∈f.kids):DL a≤DL f:=by
 rw[D2 f];exact I8 _ _ (List.mem_map_of_mem h)
def Uo {f:Fact} (h:Bq f=true):f.arg+1≤DL f:=by
 rw[D2 f,if_pos h];exact FW _ _
structure Ask (p:Prog) (os:List Ob) (gen:Int) (args:List (Int×Int)):Prop where
 look:(BV p).isSome=true
 oH:UM (AS p) os
 pB:Jl p gen=true
 len:(args.length:Int)=p.Cx.getD gen.toNat 0
 xD: ∀v∈args,B6 os.length v=true
def Ug {p:Prog} {os:List Ob} {gen:Int} {args:List (Int×Int)} (h:Ca p os gen args=true):Ask p os gen args:=by
 simp only[Ca,BY,Ce,EN]at h;exact⟨h.1,WI h.2.1,h.2.2.1,h.2.2.2.1,h.2.2.2.2⟩
def WS {p:Prog} (h:(BV p).isSome=true) {x:Mr} (hx:x∈p.methods):(1≤x.kind∧x.kind≤4)∧Cf (AS p) x.fact=true∧Bj (AS p) x.fact=true∧DL x.fact≤p.Cx.getD x.gen.toNat 0:=by
 have:=(Ei h).2 x hx;simp only[NN,BY,Ce]at this;have hf:=this.2.2.2.2.1;simp only[Cf,BY,Ce]at hf;exact⟨⟨this.1,this.2.1⟩,this.2.2.2.2.1,hf.2.2,this.2.2.2.2.2⟩
def iB (p:Prog) (os:List Ob) (gen:Int) (args:List (Int×Int)) (k:Nat):List Int:=(Bi k).filter fun m=>(BN p m).gen==gen&&D4 (AS p) os args (BN p m).fact
def cG (p:Prog) (os:List Ob) (gen:Int) (args:List (Int×Int)) (k:Nat):(iB p os gen args k).length≤k:=by
 have:=KD (fun m=>(BN p m).gen==gen&&D4 (AS p) os args (BN p m).fact) (Bi k)
 rwa [Dt]at this
def NV (p:Prog) (os:List Ob) (gen:Int) (args:List (Int×Int)):List Int:=iB p os gen args p.methods.length
def K9 (p:Prog) (os:List Ob) (gen:Int) (args:List (Int×Int)):List Int×Int:=if Ca p os gen args then(NV p os gen args,0)else([],2)
structure Pl where
 ar:List Int
 xB:Bool
 be:List Int
 pr:List Int
 prt:Bool
 af:List Int
abbrev nu (x:Pl) (g h:Bool):List V:=[.l (iL x.ar) g,.b x.xB,.l (iL x.be) g,.l (iL x.pr) g,.b x.prt,.l (iL x.af) h]
def Bz (p:Prog) (l:List Int) (k:Int):List Int:=l.filter fun m=>(BN p m).kind==k
def gZ:Pl:=⟨[],false,[],[],false,[]⟩
def ff (A:Int→Int→Bool) (p:Prog) (l:List Int):Pl:=
 ⟨(Bf A (Bz p l 4).length (Bz p l 4)).1,(Bf A (Bz p l 4).length (Bz p l 4)).2,Dj A (Bz p l 2).length (Cn (Bz p l 2)),(Bf A (Bz p l 1).length (Bz p l 1)).1,(Bf A (Bz p l 1).length (Bz p l 1)).2,(Dj A (Bz p l 3).length (Cn (Bz p l 3))).reverse⟩
def Im (A:Int→Int→Bool) (p:Prog) (l:List Int):Pl×Bool:=if(Bz p l 1).isEmpty then(gZ,false)else(ff A p l,true)
def dC (p:Prog) (l:List Int) (f:Bool) (kd:Int) (hm: ∀x∈l,A1 p x=true) (hl:l.length≤16) (h16:p.methods.length≤16):Pure Tryz.prog 37 [.a (BR p),.l (iL l) f,eI kd] (.l (iL (Bz p l kd)) false):=by
 have hM:=Mx;refine qL kZ ?_;have hs:=Sn
 conv=>whnf
 repeat'((first|apply st|(apply sq;intro K U)|(apply si;intro A B Y Z)|(apply Y;clear Z B Y A)|(apply U;clear U K)|fail)<;>conv=>whnf)
 refine B2 l.length (fun k v=>[(7,v),(8,eI (A4 k))]) (fun k v=>[.own v 1 (iL (Bz p (l.take k) kd))]) (fun _ _=>True) (.l [] true) rfl trivial (E9 hs 1) ?_;clear hs;rintro k v σ hk - hs
 have hfl:(Bz p (l.take k) kd).length≤16:=by
  have:=KD (fun m=>(BN p m).kind==kd) (l.take k);rw[KG]at this;simp only[Bz];omega
 rcases BC l hk with⟨x,hx,hlt⟩|hke
 ·have hst:Bz p (l.take (k+1)) kd=if(BN p x).kind==kd then Bz p (l.take k) kd++[x]else Bz p (l.take k) kd:=by
   rw[AO hx,Bz,List.filter_append];cases hp:(BN p x).kind==kd<;>simp[Bz,hp]
  have hmx:=hm x (B5 hx);have hxm:=Br hmx;simp only[A1,BY,Ce]at hmx;generalize Bz p (l.take k) kd=zs at *;have hll:zs.length<Af∧(zs.length+1)*8≤140737488355328:=by omega
  by_cases hkd:(BN p x).kind=kd
  ·rw[if_pos (Dx.2 hkd)]at hst
   conv=>whnf
   repeat'((first|apply st|(apply sq;intro K U)|(apply si;intro A B Y Z)|(apply Y;clear Z B Y A)|(apply U;clear U K)|apply dr|refine⟨rfl,?_⟩|refine ix ?_|refine GX ?_|refine aq fun v σ hs hsl=>?_|(refine CK (fun hc=>?_)<;>(try rw[hc])<;>clear hc)|(constructor<;>intro hc<;>(try rw[hc])<;>(replace hc:=bp hc)<;>try(exfalso;omega))|clear U K)<;>conv=>whnf)
   exact⟨hlt,_,rfl,trivial,by rw[hst];exact hs⟩
  ·rw[if_neg (by simpa using hkd)]at hst
   conv=>whnf
   repeat'((first|apply st|(apply sq;intro K U)|(apply si;intro A B Y Z)|(apply Y;clear Z B Y A)|(apply U;clear U K)|apply dr|refine⟨rfl,?_⟩|refine ix ?_|refine GX ?_|(refine CK (fun hc=>?_)<;>(try rw[hc])<;>clear hc)|(constructor<;>intro hc<;>(try rw[hc])<;>(replace hc:=bp hc)<;>try(exfalso;omega))|clear U K)<;>conv=>whnf)
   exact⟨hlt,_,rfl,trivial,by rw[hst];exact hs⟩
 ·rw[Ar hke]at hs
  conv=>whnf
  repeat'((first|apply st|(apply sq;intro K U)|(apply si;intro A B Y Z)|(apply Y;clear Z B Y A)|(apply U;clear U K)|refine⟨rfl,?_⟩|(refine DR (fun hc=>?_)<;>(try rw[hc])<;>clear hc)|clear U K)<;>conv=>whnf)
  exact Bh (hs.Pm 0 rfl)
end Go.Gl
namespace Go.Gl
open Go.Proofs
structure Sb (p:Prog) (l:List Int):Prop where
 Fb: ∀x∈l,A1 p x=true
 gen: ∀x∈l,∀y∈l,(BN p x).gen=(BN p y).gen
 nodup:l.Nodup
 many:l.length≤16
def Hv {p:Prog} {l:List Int} {k x:Int} (h:x∈Bz p l k):x∈l∧(BN p x).kind=k:=by
 have:=JV.1 h;exact⟨this.1,by simpa using this.2⟩
def dn {p:Prog} {l:List Int} {k:Int}:(Bz p l k).length≤l.length:=KD _ _
def Sb.of {p:Prog} {l:List Int} (h:Sb p l) (k:Int):Gz p (Bz p l k)∧(Bz p l k).Nodup:=by
 refine⟨⟨fun x hx=>h.Fb x (Hv hx).1,fun x hx y hy=>?_,Nat.le_trans dn h.many⟩,h.nodup.sublist (List.filter_sublist ..)⟩;rw[CR,h.gen x (Hv hx).1 y (Hv hy).1,(Hv hx).2,(Hv hy).2];simp
def XD.sub {T:List (List Bool)} {l l':List Int} (h:XD T l) (hs: ∀x∈l',x∈l) (hl:l'.length≤l.length):XD T l':=⟨h.len,h.sq,fun x hx=>h.ins x (hs x hx),Nat.le_trans hl h.many⟩
attribute [local irreducible] BJ A2 Ak AW AM Aj AV AX AN Ai AR AU A5 BF Sat Ad BD Al W
end Go.Gl
namespace Go.Gl
open Go.Proofs
attribute [local irreducible] BJ A2 Ak AW AM Aj AV AX AN Ai AR AU A5 BF Sat Ad BD Al W
def a6 {p:Prog} {l:List Int} {k:Nat} {x:Int} (hx:l[k]? =some x) (kd:Int):Bz p (l.take (k+1)) kd=if(BN p x).kind==kd then Bz p (l.take k) kd++[x]else Bz p (l.take k) kd:=by
 rw[AO hx,Bz,List.filter_append];cases hp:(BN p x).kind==kd<;>simp[Bz,hp]
def Kw {p:Prog} {l:List Int} {k:Nat} {kd:Int} (h:l.length≤16):(Bz p (l.take k) kd).length≤16:=by
 have:=KD (fun m=>(BN p m).kind==kd) (l.take k);rw[KG]at this;simp only[Bz];omega
set_option maxHeartbeats 4000000 in
def iW (p:Prog) (L:Nat) (l:List Int) (f:Bool) (h:(BV p).isSome=true) (hG:Sb p l) (M:List (Int×Int)) :
    Bk Tryz.prog 57 [Ft p L,.l (iL l) f] [.map L (FI p M)] fun r post=>r= .ret (.t [.a (nu (Im (AY p) p l).1 true (!(Im (AY p) p l).2)),.b (Im (AY p) p l).2])∧ ∃M',post= [.map L (FI p M')]:=by
 intro σ hs;have hM:=Mx;have hok:=look_ok h;have hgw:=Nd h;have hfm:=Kj h;have h16:=hG.many;have hm16:=hok.many;generalize hX:Im (AY p) p l=X;refine qA kZ ?_
 conv=>whnf
 repeat'((first|apply st|(apply sq;intro K U)|(apply si;intro A B Y Z)|(apply Y;clear Z B Y A)|(apply U;clear U K)|(intro nn hnn;generalize hg:BA _ nn _=σ;refine Ct hg fun hs=>?_;clear hg)|fail)<;>conv=>whnf)
 rename_i n4 _ _ _;clear hnn;refine B2 l.length (fun k (_:V×V×V×V)=>[(13,eI (A4 k))]) (fun k x=>[.own x.1 1 (iL (Bz p (l.take k) 1)),.own x.2.1 1 (iL (Bz p (l.take k) 2)),.own x.2.2.1 1 (iL (Bz p (l.take k) 3)),.own x.2.2.2 1 (iL (Bz p (l.take k) 4)),.box nn [.l [] true,x.1,x.2.1,x.2.2.1,x.2.2.2],.box n4 [.l [] true,.b false,.l [] true,.l [] true,.b false,.l [] true],.map L (FI p M)]) (fun _ _=>True) (.l [] true,.l [] true,.l [] true,.l [] true) rfl trivial (C7 (C7 (C7 (C7 hs 1) 1) 1) 1) ?_;clear hs;rintro k ⟨v1,v2,v3,v4⟩ σ hk - hs;dsimp only at hs;dsimp only;rcases BC l hk with⟨x,hx,hlt⟩|hke
 ·have hmx:=hG.Fb x (B5 hx)
  have hxm:=Br hmx;obtain⟨hkr,-⟩:=WS h (B5 hxm);have hst:=a6 (p:=p) hx;simp only[A1,BY,Ce]at hmx;have l1:(Bz p (l.take k) 1).length≤16:=Kw h16;have l2:(Bz p (l.take k) 2).length≤16:=Kw h16;have l3:(Bz p (l.take k) 3).length≤16:=Kw h16;have l4:(Bz p (l.take k) 4).length≤16:=Kw h16;have s1:=hst 1;have s2:=hst 2;have s3:=hst 3;have s4:=hst 4;clear hst;generalize BN p x=y at *;generalize Bz p (l.take k) 1=z1 at *;generalize Bz p (l.take k) 2=z2 at *;generalize Bz p (l.take k) 3=z3 at *;generalize Bz p (l.take k) 4=z4 at *;obtain⟨kd,gn,fc,nd⟩:=y;dsimp only at hkr s1 s2 s3 s4;rcases(show kd=1∨kd=2∨kd=3∨kd=4 by omega)with rfl|rfl|rfl|rfl
  ·rw[if_pos (beq_self_eq_true _)]at s1
   rw[if_neg (by decide)]at s2 s3 s4;have hll:z1.length<Af∧(z1.length+1)*8≤140737488355328:=by omega
   clear l1 l2 l3 l4
   conv=>whnf
   repeat'((first|apply st|(apply sq;intro K U)|(apply si;intro A B Y Z)|(apply Y;clear Z B Y A)|(apply U;clear U K)|refine⟨rfl,?_⟩|refine ix ?_|refine GX ?_|refine ld ?_|refine FB fun σ hs=>?_|refine aq fun v σ hs hsl=>?_|(refine CK (fun hc=>?_)<;>(try rw[hc])<;>clear hc)|refine UE (j:=1) ?_ (by decide) (by decide)|clear U K)<;>conv=>whnf)
   exact⟨hlt,(v,v2,v3,v4),rfl,trivial,by rw[s1,s2,s3,s4];exact hs⟩
  ·rw[if_pos (beq_self_eq_true _)]at s2
   rw[if_neg (by decide)]at s1 s3 s4;have hll:z2.length<Af∧(z2.length+1)*8≤140737488355328:=by omega
   clear l1 l2 l3 l4
   conv=>whnf
   repeat'((first|apply st|(apply sq;intro K U)|(apply si;intro A B Y Z)|(apply Y;clear Z B Y A)|(apply U;clear U K)|refine⟨rfl,?_⟩|refine ix ?_|refine GX ?_|refine ld ?_|refine FB fun σ hs=>?_|refine aq fun v σ hs hsl=>?_|(refine CK (fun hc=>?_)<;>(try rw[hc])<;>clear hc)|refine UE (j:=2) ?_ (by decide) (by decide)|clear U K)<;>conv=>whnf)
   exact⟨hlt,(v1,v,v3,v4),rfl,trivial,by rw[s1,s2,s3,s4];exact hs⟩
  ·rw[if_pos (beq_self_eq_true _)]at s3
   rw[if_neg (by decide)]at s1 s2 s4;have hll:z3.length<Af∧(z3.length+1)*8≤140737488355328:=by omega
   clear l1 l2 l3 l4
   conv=>whnf
   repeat'((first|apply st|(apply sq;intro K U)|(apply si;intro A B Y Z)|(apply Y;clear Z B Y A)|(apply U;clear U K)|refine⟨rfl,?_⟩|refine ix ?_|refine GX ?_|refine ld ?_|refine FB fun σ hs=>?_|refine aq fun v σ hs hsl=>?_|(refine CK (fun hc=>?_)<;>(try rw[hc])<;>clear hc)|refine UE (j:=3) ?_ (by decide) (by decide)|clear U K)<;>conv=>whnf)
   exact⟨hlt,(v1,v2,v,v4),rfl,trivial,by rw[s1,s2,s3,s4];exact hs⟩
  ·rw[if_pos (beq_self_eq_true _)]at s4
   rw[if_neg (by decide)]at s1 s2 s3;have hll:z4.length<Af∧(z4.length+1)*8≤140737488355328:=by omega
   clear l1 l2 l3 l4
   conv=>whnf
   repeat'((first|apply st|(apply sq;intro K U)|(apply si;intro A B Y Z)|(apply Y;clear Z B Y A)|(apply U;clear U K)|refine⟨rfl,?_⟩|refine ix ?_|refine GX ?_|refine ld ?_|refine FB fun σ hs=>?_|refine aq fun v σ hs hsl=>?_|(refine CK (fun hc=>?_)<;>(try rw[hc])<;>clear hc)|refine UE (j:=4) ?_ (by decide) (by decide)|clear U K)<;>conv=>whnf)
   exact⟨hlt,(v1,v2,v3,v),rfl,trivial,by rw[s1,s2,s3,s4];exact hs⟩
 ·rw [Ar hke]at hs
  obtain⟨o1,d1⟩:=hG.of 1;obtain⟨o2,d2⟩:=hG.of 2;obtain⟨o3,d3⟩:=hG.of 3;obtain⟨o4,d4⟩:=hG.of 4;have hpl:Im (AY p) p l=if(Bz p l 1).isEmpty then(gZ,false)else(⟨(Bf (AY p) (Bz p l 4).length (Bz p l 4)).1,(Bf (AY p) (Bz p l 4).length (Bz p l 4)).2,Dj (AY p) (Bz p l 2).length (Cn (Bz p l 2)),(Bf (AY p) (Bz p l 1).length (Bz p l 1)).1,(Bf (AY p) (Bz p l 1).length (Bz p l 1)).2,(Dj (AY p) (Bz p l 3).length (Cn (Bz p l 3))).reverse⟩,true):=rfl
  rw[hpl]at hX;clear hpl;have e4:=fun M=>Rp p L (Bz p l 4) false hok hgw hfm o4 d4 M
  have e2:=fun M=>Ya p L (Bz p l 2) false hok hgw hfm o2 d2 M
  have e1:=fun M=>Rp p L (Bz p l 1) false hok hgw hfm o1 d1 M
  have e3:=fun M=>Vf p L (Bz p l 3) false hok hgw hfm o3 d3 M
  rw[Lv d2]at e2;rw[Lv d3]at e3;have hl1:=o1.many
  have hbl:(Dj (AY p) (Bz p l 3).length (Cn (Bz p l 3))).length≤16:=by
   have: ∀k l,(Dj (AY p) k l).length=k:=fun k=>by
    induction k with
    | zero=>intro l;rfl
    | succ k ih=>intro l;simp only[Dj,KH,ih]
   rw[this];exact o3.many
  clear o1 o2 o3 o4 d1 d2 d3 d4 hG;generalize Dj (AY p) (Bz p l 3).length (Cn (Bz p l 3))=xs at *;generalize Dj (AY p) (Bz p l 2).length (Cn (Bz p l 2))=bs at *;generalize Bf (AY p) (Bz p l 4).length (Bz p l 4)=q4 at *;generalize Bf (AY p) (Bz p l 1).length (Bz p l 1)=q1 at *;generalize Bz p l 1=l1 at *;generalize Bz p l 2=l2 at *;generalize Bz p l 3=l3 at *;generalize Bz p l 4=l4 at *;obtain⟨r4,t4⟩:=q4;obtain⟨r1,t1⟩:=q1;dsimp only at e1 e4;by_cases hz:l1.length=0
  ·have he:l1.isEmpty=true:=by simpa using hz
   rw[he,if_pos rfl]at hX;subst hX
   conv=>whnf
   repeat'((first|apply st|(apply sq;intro K U)|(apply si;intro A B Y Z)|(apply Y;clear Z B Y A)|(apply U;clear U K)|refine⟨rfl,?_⟩|refine⟨kZ,?_⟩|refine UE ?_|refine lo ?_|refine ld ?_|(refine DR (fun hc=>?_)<;>(try rw[hc])<;>clear hc)|(constructor<;>intro hc<;>(try rw[hc])<;>(replace hc:=bp hc)<;>(try simp(disch:=omega) only[BQ,wrap64,AL]at hc)<;>try(exfalso;omega))|(intro nn hnn;generalize hg:BA _ nn _=σ;refine Ct hg fun hs=>?_;clear hg)|clear U K)<;>conv=>whnf)
   refine Iy hs 6 rfl rfl rfl (by simp) (by decide) fun σ hs=>?_
   conv=>whnf
   repeat'((first|apply st|(apply Y;clear Z B Y A)|(apply U;clear U K)|clear U K)<;>conv=>whnf)
   refine Se hs 6 rfl ?_
   conv=>whnf
   repeat'((first|refine⟨kZ,?_⟩|fail)<;>conv=>whnf)
   exact Ap (hs.front (j:=7) rfl) (.cons₂ _ (LR _)) (.refl _) fun σ' hs'=>⟨_,⟨rfl,M,rfl⟩,hs'⟩
  ·have he:l1.isEmpty=false:=by cases l1 with
    | nil=>simp at hz
    | cons=>rfl
   rw[he,if_neg (by decide)]at hX;subst hX
   conv=>whnf
   repeat'((first|apply st|(apply sq;intro K U)|(apply si;intro A B Y Z)|(apply Y;clear Z B Y A)|(apply U;clear U K)|refine⟨rfl,?_⟩|refine UE ?_|refine lo ?_|refine ld ?_|(refine DR (fun hc=>?_)<;>(try rw[hc])<;>clear hc)|(constructor<;>intro hc<;>(try rw[hc])<;>(replace hc:=bp hc)<;>(try simp(disch:=omega) only[BQ,wrap64,AL]at hc)<;>try(exfalso;omega))|(intro nn hnn;generalize hg:BA _ nn _=σ;refine Ct hg fun hs=>?_;clear hg)|clear U K)<;>conv=>whnf)
   obtain⟨σ2,g1,g2,g3⟩:=IM hs 4 rfl;refine BJ.Pr ((e4 M).use (rest:=_) (g3.front (j:=6) rfl) ?_) g1 (.cons (.refl _) (.cons g2 .nil));clear hs g1 g2 g3;rintro r post σ ⟨rfl,M,rfl⟩ hs
   conv=>whnf
   repeat'((first|(apply sq;intro K U)|(apply si;intro A B Y Z)|(apply Y;clear Z B Y A)|(apply U;clear U K)|refine UE ?_|refine ld ?_|refine FB fun σ hs=>?_|fail)<;>conv=>whnf)
   obtain⟨σ2,g1,g2,g3⟩:=IM hs 3 rfl;refine BJ.Pr ((e2 M).use (rest:=_) g3 ?_) g1 (.cons (.refl _) (.cons g2 .nil));clear hs g1 g2 g3;rintro r post σ ⟨rfl,M,rfl⟩ hs
   conv=>whnf
   repeat'((first|(apply sq;intro K U)|(apply si;intro A B Y Z)|(apply Y;clear Z B Y A)|(apply U;clear U K)|refine UE ?_|refine ld ?_|refine FB fun σ hs=>?_|fail)<;>conv=>whnf)
   obtain⟨σ2,g1,g2,g3⟩:=IM hs 2 rfl;refine BJ.Pr ((e1 M).use (rest:=_) g3 ?_) g1 (.cons (.refl _) (.cons g2 .nil));clear hs g1 g2 g3;rintro r post σ ⟨rfl,M,rfl⟩ hs
   conv=>whnf
   repeat'((first|(apply sq;intro K U)|(apply si;intro A B Y Z)|(apply Y;clear Z B Y A)|(apply U;clear U K)|refine UE ?_|refine ld ?_|refine FB fun σ hs=>?_|fail)<;>conv=>whnf)
   obtain⟨σ2,g1,g2,g3⟩:=IM hs 2 rfl;refine BJ.Pr ((e3 M).use (rest:=_) g3 ?_) g1 (.cons (.refl _) (.cons g2 .nil));clear hs g1 g2 g3;rintro r post σ ⟨v,M,rfl,rfl,hv⟩ hs
   conv=>whnf
   repeat'((first|(apply sq;intro K U)|(apply si;intro A B Y Z)|(apply Y;clear Z B Y A)|(apply U;clear U K)|refine ld ?_|refine FB fun σ hs=>?_|fail)<;>conv=>whnf)
   refine(Xf xs v (by omega) hv).use (rest:=_) hs ?_;clear hs;rintro r post σ ⟨rfl,rfl⟩ hs
   conv=>whnf
   repeat'((first|(apply sq;intro K U)|(apply si;intro A B Y Z)|(apply Y;clear Z B Y A)|(apply U;clear U K)|refine⟨kZ,?_⟩|refine ld ?_|fail)<;>conv=>whnf)
   have o1:=HD hs 0 rfl;refine Iy hs 4 rfl rfl rfl (by simp[o1]) (by decide) fun σ hs=>?_
   clear o1
   conv=>whnf
   repeat'((first|apply st|(apply Y;clear Z B Y A)|(apply U;clear U K)|refine⟨kZ,?_⟩|refine ld ?_|fail)<;>conv=>whnf)
   obtain⟨σ2,g1,g2,g3⟩:=IM hs 0 rfl;exact F4 g1 (.t (.cons (.a (.cons (.refl _) (.cons (.refl _) (.cons (.refl _) (.cons (.refl _) (.cons (.refl _) (.cons g2 .nil))))))) (.cons (.refl _) .nil))) ⟨_,⟨rfl,M,rfl⟩,g3.less (.cons₂ _ (LR _))⟩
def Nn (g:FuncId) (fi ca:List V) (q:Ob→Bool):Prop:= ∀v,Pure Tryz.prog g (fi++[.a (F0 v)]++ca) (.b (q v))
def Nn.use {g:FuncId} {fi ca:List V} {q:Ob→Bool} (h:Nn g fi ca q) {v:Ob} {σ:AH} {k kp:V→AH→Prop} (hk:k (.b (q v)) σ):A5 Tryz.prog (.f (.func g) fi ca) [.a (F0 v)] σ (qk k kp):=Bp ((h v).use hk)
def VX {g:FuncId} {fi ca:List V} {q:Ob→Bool} (hpf:Nn g fi ca q) (v:Ob):Pure Tryz.prog 238 [.a (F0 v),.rp [.f (.func g) fi ca]] (.b (!q v)):=by
 refine kS kZ ?_;have hs:=Sn
 conv=>whnf
 repeat'((first|apply st|(apply sq;intro K U)|(apply si;intro A B Y Z)|(apply Y;clear Z B Y A)|(apply U;clear U K)|refine⟨kZ,?_⟩|refine Nn.use hpf ?_|fail)<;>conv=>whnf)
 all_goals exact AI rfl
def bT {g:FuncId} {fi ca:List V} {q:Ob→Bool} (hpf:Nn g fi ca q) (l:List Ob) (b:Bool):Pure Tryz.prog 267 [.l (l.map F0) b,.f (.func 238) [] [.rp [.f (.func g) fi ca]]] (eI (NU q l 0)):=by
 refine Pure.fit (by kernel_rfl) fun hf=>?_
 have hl:l.length≤Af:=by
  have:=hf.1;simp only[Ev,BQ]at this;exact this.1
 have hM:=Mx;refine j6 kZ ?_;have hs:=Sn
 conv=>whnf
 repeat'((first|apply st|(apply sq;intro K U)|(apply si;intro A B Y Z)|(apply Y;clear Z B Y A)|(apply U;clear U K)|fail)<;>conv=>whnf)
 refine B2 l.length (fun k (_:Unit)=>[(8,eI (A4 k))]) (fun _ _=>[]) (fun k _=>NU q l 0=NU q (l.drop k) k) () rfl rfl hs ?_;clear hs;rintro k - σ hk hn hs;have hck:A4 k=k:=AL (by omega);rcases BC l hk with⟨x,hx,hlt⟩|hke
 ·have c1:=VX hpf x
  rw[drop_cons hx,NU]at hn;cases hv:q x<;>rw[hv]at c1 hn
  ·conv=>whnf
   repeat'((first|apply st|(apply sq;intro K U)|(apply si;intro A B Y Z)|(apply Y;clear Z B Y A)|(apply U;clear U K)|refine⟨rfl,?_⟩|refine⟨kZ,?_⟩|refine ix ?_|refine Er ?_|(refine CK (fun hc=>?_)<;>(try rw[hc])<;>clear hc)|refine Bp (c1.use ?_)|clear U K)<;>conv=>whnf)
   exact AI (by rw[hn,if_neg (by decide),hck])
  ·conv=>whnf
   repeat'((first|apply st|(apply sq;intro K U)|(apply si;intro A B Y Z)|(apply Y;clear Z B Y A)|(apply U;clear U K)|refine⟨rfl,?_⟩|refine⟨kZ,?_⟩|refine ix ?_|refine De ?_|(refine CK (fun hc=>?_)<;>(try rw[hc])<;>clear hc)|refine Bp (c1.use ?_)|clear U K)<;>conv=>whnf)
   exact⟨hlt,(),rfl,by rw[hn,if_pos rfl],hs⟩
 ·conv=>whnf
  repeat'((first|apply st|(apply sq;intro K U)|(apply si;intro A B Y Z)|(apply Y;clear Z B Y A)|(apply U;clear U K)|refine⟨rfl,?_⟩|(refine DR (fun hc=>?_)<;>(try rw[hc])<;>clear hc)|clear U K)<;>conv=>whnf)
  exact AI (by rw[hn,Ah hke];rfl)
def T5 {g:FuncId} {fi ca:List V} {q:Ob→Bool} (hpf:Nn g fi ca q) (l:List Ob) (b:Bool):Pure Tryz.prog 237 [.l (l.map F0) b,.f (.func 238) [] [.rp [.f (.func g) fi ca]]] (.b (!l.all q)):=by
 have c1:=bT hpf l b;refine kT kZ ?_;have hs:=Sn
 conv=>whnf
 repeat'((first|apply st|(apply sq;intro K U)|(apply si;intro A B Y Z)|(apply Y;clear Z B Y A)|(apply U;clear U K)|refine⟨rfl,?_⟩|refine c1.use ?_|fail)<;>conv=>whnf)
 all_goals exact AI (by rw[←OJ q l 0])
def nQ {g:FuncId} {fi ca:List V} {q:Ob→Bool} (hpf:Nn g fi ca q) (l:List Ob) (b:Bool):Pure Tryz.prog 186 [.l (l.map F0) b,.f (.func g) fi ca] (.b (l.all q)):=by
 have c1:=T5 hpf l b;refine lR kZ ?_;have hs:=Sn
 conv=>whnf
 repeat'((first|apply st|(apply sq;intro K U)|(apply si;intro A B Y Z)|(apply Y;clear Z B Y A)|(apply U;clear U K)|refine c1.use ?_|fail)<;>conv=>whnf)
 all_goals exact AI (by rw[Bool.not_not])
def VZ (os:List Ob) (f:Bool) (v:Int×Int):Pure Tryz.prog 189 [.a (pI v),.rp [.l (os.map F0) f]] (.b (B6 os.length v)):=by
 have e3:((os.map F0).length:Int)=os.length:=by simp
 have c1:Pure Tryz.prog 149 [.a (pI v),eI ((os.map F0).length:Int)] (.b (B6 os.length v)):=by rw[e3];exact Sp v os.length
 refine lP kZ ?_;have hs:=Sn
 conv=>whnf
 repeat'((first|apply st|(apply sq;intro K U)|(apply si;intro A B Y Z)|(apply Y;clear Z B Y A)|(apply U;clear U K)|refine⟨kZ,?_⟩|refine c1.use ?_|fail)<;>conv=>whnf)
 all_goals exact AI rfl
set_option maxHeartbeats 1000000 in
def Va (w:AK) (hw:CQ w) (hw2:KE w) (os:List Ob) (f:Bool) (o:Ob):Pure Tryz.prog 187 [.a (F0 o),.rp [.rp (wC w (CE w.parents))],.rp [.l (os.map F0) f]] (.b (La w os.length o)):=by
 refine Pure.fit (by kernel_rfl) fun hf=>?_
 have hM:=Mx;have c1:Pure Tryz.prog 178 [.rp (wC w (CE w.parents)),eI o.1] (.b (Q2 w o.1)):=dg w (CE w.parents) o.1 hw2.len;have c3:=Z7 (g:=189) (fi:=[]) (ca:=[.rp [.l (os.map F0) f]]) (VZ os f) o.2 false;cases ho:Q2 w o.1<;>rw[ho]at c1
 ·refine Ud kZ ?_
  have hs:=Sn
  conv=>whnf
  repeat'((first|apply st|(apply sq;intro K U)|(apply si;intro A B Y Z)|(apply Y;clear Z B Y A)|(apply U;clear U K)|apply dr|refine rk ?_ ?_|exact fun s e=>by cases e;rfl|refine c1.use ?_|fail)<;>conv=>whnf)
  all_goals exact AI (by rw[La,ho];rfl)
 ·have hor:=ho
  simp only[Q2,BY,Ce]at hor;have c2:=S2 w o.1 hw hw2 hor.1 hor.2;have hob:La w os.length o=(o.2.length==(Cv w o.1).length&&o.2.all (B6 os.length)):=by rw[La,ho,E7]
  rw[hob];clear hob;generalize Cv w o.1=ss at *;by_cases he:o.2.length=ss.length
  ·rw[Dx.2 he,E7]
   refine Ud kZ ?_;have hs:=Sn
   conv=>whnf
   repeat'((first|apply st|(apply sq;intro K U)|(apply si;intro A B Y Z)|(apply Y;clear Z B Y A)|(apply U;clear U K)|apply dr|refine rk ?_ ?_|exact fun s e=>by cases e;rfl|refine⟨rfl,?_⟩|refine c1.use ?_|refine c2.use ?_|refine c3.use ?_|(constructor<;>intro hc<;>(try rw[hc])<;>(replace hc:=bp hc)<;>(try simp(disch:=omega) only[BQ,wrap64,AL]at hc)<;>try(exfalso;omega))|fail)<;>conv=>whnf)
   all_goals first
    | exact AI rfl
    | (exfalso;simp[he]at hc;done)
    | (exfalso;simp at hc;omega)
  ·rw[beq_eq_false_iff_ne.2 he,Bool.false_and]
   refine Ud kZ ?_;have hs:=Sn
   conv=>whnf
   repeat'((first|apply st|(apply sq;intro K U)|(apply si;intro A B Y Z)|(apply Y;clear Z B Y A)|(apply U;clear U K)|apply dr|refine rk ?_ ?_|exact fun s e=>by cases e;rfl|refine⟨rfl,?_⟩|refine c1.use ?_|refine c2.use ?_|(constructor<;>intro hc<;>(try rw[hc])<;>(replace hc:=bp hc)<;>(try simp(disch:=omega) only[BQ,wrap64,AL]at hc)<;>try(exfalso;omega))|fail)<;>conv=>whnf)
   all_goals first
    | exact AI rfl
    | (exfalso;simp at hc;omega)
def XU (w:AK) (hw:CQ w) (hw2:KE w) (os:List Ob) (f:Bool):Pure Tryz.prog 146 [.rp (wC w (CE w.parents)),.l (os.map F0) f] (.b (FZ w os)):=by
 refine Pure.fit (by kernel_rfl) fun hf=>?_
 have hM:=Mx;have c1:=nQ (g:=187) (fi:=[]) (ca:=[.rp [.rp (wC w (CE w.parents))],.rp [.l (os.map F0) f]]) (Va w hw hw2 os f) os f;by_cases h40:os.length≤40
 ·have e0:FZ w os=os.all (La w os.length):=by rw[FZ,decide_eq_true h40,E7]
  rw[e0];refine Zw kZ ?_;have hs:=Sn
  conv=>whnf
  repeat'((first|apply st|(apply sq;intro K U)|(apply si;intro A B Y Z)|(apply Y;clear Z B Y A)|(apply U;clear U K)|refine⟨rfl,?_⟩|refine c1.use ?_|(constructor<;>intro hc<;>(try rw[hc])<;>(replace hc:=bp hc)<;>(try simp(disch:=omega) only[BQ,wrap64,AL]at hc)<;>try(exfalso;omega))|fail)<;>conv=>whnf)
  all_goals exact AI rfl
 ·refine Zw kZ ?_
  have hs:=Sn
  conv=>whnf
  repeat'((first|apply st|(apply sq;intro K U)|(apply si;intro A B Y Z)|(apply Y;clear Z B Y A)|(apply U;clear U K)|refine⟨rfl,?_⟩|(constructor<;>intro hc<;>(try rw[hc])<;>(replace hc:=bp hc)<;>(try simp(disch:=omega) only[BQ,wrap64,AL]at hc)<;>try(exfalso;omega))|fail)<;>conv=>whnf)
  all_goals exact AI (by rw[FZ,decide_eq_false h40];rfl)
def Ja (w:AK) (os:List Ob) (args:List (Int×Int)):Bool:=FZ w os&&(decide (1≤args.length)&&(decide (args.length≤3)&&args.all (B6 os.length)))
def QR (w:AK) (hw:CQ w) (hw2:KE w) (os:List Ob) (f:Bool) (args:List (Int×Int)) (g:Bool):Pure Tryz.prog 115 [.rp (wC w (CE w.parents)),.l (os.map F0) f,.l (pP args) g] (.b (Ja w os args)):=by
 refine Pure.fit (by kernel_rfl) fun hf=>?_
 have hM:=Mx;have c1:=XU w hw hw2 os f;have c2:=Z7 (g:=148) (fi:=[]) (ca:=[.rp [.l (os.map F0) f]]) (Vb os f) args g;rw[Ja];cases ho:FZ w os<;>rw[ho]at c1
 ·refine RL kZ ?_
  have hs:=Sn
  conv=>whnf
  repeat'((first|apply st|(apply sq;intro K U)|(apply si;intro A B Y Z)|(apply Y;clear Z B Y A)|(apply U;clear U K)|refine c1.use ?_|fail)<;>conv=>whnf)
  all_goals exact AI rfl
 ·by_cases h1:1≤args.length
  ·by_cases h3:args.length≤3
   ·rw[decide_eq_true h1,decide_eq_true h3,E7,E7,E7]
    refine RL kZ ?_;have hs:=Sn
    conv=>whnf
    repeat'((first|apply st|(apply sq;intro K U)|(apply si;intro A B Y Z)|(apply Y;clear Z B Y A)|(apply U;clear U K)|refine⟨rfl,?_⟩|refine c1.use ?_|refine c2.use ?_|(constructor<;>intro hc<;>(try rw[hc])<;>(replace hc:=bp hc)<;>(try simp(disch:=omega) only[BQ,wrap64,AL]at hc)<;>try(exfalso;omega))|fail)<;>conv=>whnf)
    all_goals exact AI rfl
   ·rw[decide_eq_true h1,decide_eq_false h3,E7,Bool.false_and,Bool.and_false]
    refine RL kZ ?_;have hs:=Sn
    conv=>whnf
    repeat'((first|apply st|(apply sq;intro K U)|(apply si;intro A B Y Z)|(apply Y;clear Z B Y A)|(apply U;clear U K)|refine⟨rfl,?_⟩|refine c1.use ?_|(constructor<;>intro hc<;>(try rw[hc])<;>(replace hc:=bp hc)<;>(try simp(disch:=omega) only[BQ,wrap64,AL]at hc)<;>try(exfalso;omega))|fail)<;>conv=>whnf)
    all_goals exact AI rfl
  ·rw[decide_eq_false h1,Bool.false_and,Bool.and_false]
   refine RL kZ ?_;have hs:=Sn
   conv=>whnf
   repeat'((first|apply st|(apply sq;intro K U)|(apply si;intro A B Y Z)|(apply Y;clear Z B Y A)|(apply U;clear U K)|refine⟨rfl,?_⟩|refine c1.use ?_|(constructor<;>intro hc<;>(try rw[hc])<;>(replace hc:=bp hc)<;>(try simp(disch:=omega) only[BQ,wrap64,AL]at hc)<;>try(exfalso;omega))|fail)<;>conv=>whnf)
   all_goals exact AI rfl
def Wl {x:Int}: ∀(xs:List Int) (k i:Nat),xs[i]? =some x→(∀j y,j<i→xs[j]? =some y→y≠x)→(Bo (fun y (_:Unit)=>(x==y,())) xs k ()).1=((k+i:Nat):Int)
 | [],_,_,h,_=>by simp at h
 | y::r,k,0,h,_=>by
   obtain rfl:y=x:=by simpa using h
   simp[Bo]
 | y::r,k,i+1,h,hn=>by
   have hy:=hn 0 y (Nat.succ_pos i) rfl;rw[Bo,if_neg (by simpa using fun e:x=y=>hy e.symm)];rw[Wl r (k+1) i (by simpa using h) fun j z hj hz=>hn (j+1) z (by omega) (by simpa using hz)];omega
set_option maxHeartbeats 1000000 in
def qd (w:AK) (os:List Ob) (f:Bool) (v:Int×Int) (l:List Int) (g:Bool) (hg:CQ w) (hw:KE w) (hos:UM w os) (hv:B6 os.length v=true) (hl: ∀s∈l,0≤s∧s<(w.owner.length:Int)) :
    Pure Tryz.prog 151 [.rp (wC w (CE w.parents)),.l (os.map F0) f,.a (pI v),.l (iL l) g] (xA (cX w os l v)):=by
 refine Pure.fit (by kernel_rfl) fun hf=>?_
 have hll:=Jb hf.2.2.2.1;have hM:=Mx;have ho4:=hos.len;have hol:=hw.cz;refine mH kZ ?_;have hs:=Sn
 conv=>whnf
 repeat'((first|apply st|(apply sq;intro K U)|(apply si;intro A B Y Z)|(apply Y;clear Z B Y A)|(apply U;clear U K)|(intro nn hnn;generalize hg:BA _ nn _=σ;refine Ct hg fun hs=>?_;clear hg)|fail)<;>conv=>whnf)
 rename_i nV _ _ _;refine B2 l.length (fun k (_:Int×Int)=>[(14,eI (A4 k))]) (fun _ v=>[.box nn [eI 0,eI 0],.box nV (pI v)]) (fun k u=>B6 os.length u=true∧cX w os l v=cX w os (l.drop k) u) v rfl ⟨hv,rfl⟩ hs ?_;clear hs;rintro k ⟨vk,vn⟩ σ hk ⟨hu,hn⟩ hs;rcases BC l hk with⟨s,hsl,hlt⟩|hke
 ·have hsr:=hl s (B5 hsl)
  rw[drop_cons hsl,cX]at hn;by_cases h3:vk=3
  ·obtain⟨o,ho1,ho2,ho3⟩:=NA hu h3
   have hoo:=hos.own o ho3;have hnr:=Nw hu h3;dsimp only at ho1 ho2 hnr;have c1:=Zh w hg o.1 s hoo.1 hoo.2 hsr.1 hsr.2;rw[←Wb hg hw hoo.1 hoo.2 hsr.1 hsr.2]at c1;rw[ho2,show((vk,vn).1==3)=true by simp[h3],E7]at hn;cases hh:hasB w o.1 s<;>rw[hh]at c1 hn
   ·rw[if_neg (by decide)]at hn
    conv=>whnf
    repeat'((first|apply st|(apply sq;intro K U)|(apply si;intro A B Y Z)|(apply Y;clear Z B Y A)|(apply U;clear U K)|refine⟨rfl,?_⟩|refine⟨kZ,?_⟩|refine ix ?_|refine GX ?_|refine ld ?_|refine Dy fun σ hs=>?_|refine Er ?_|(refine CK (fun hc=>?_)<;>(try rw[hc])<;>clear hc)|refine c1.use ?_|(constructor<;>intro hc<;>(try rw[hc])<;>(replace hc:=bp hc)<;>(try simp(disch:=omega) only[BQ,wrap64,AL]at hc)<;>try(exfalso;omega))|clear U K)<;>conv=>whnf)
    all_goals exact AI (by rw[hn];rfl)
   ·rw[if_pos rfl]at hn
    obtain⟨i,q1,q2,q3,q4,q5,q6⟩:=Sz hos ho2 ho3 hsr hh;have c2:=S2 w o.1 hg hw hoo.1 hoo.2;have c3:=TK (Cv w o.1) false s;rw[show Y0 (Cv w o.1) s=(i:Int) by rw[Y0,Wl _ 0 i q3 q4,HA]]at c3;have q5':o.2[((i:Nat):Int).toNat]? =some (Na w os s (vk,vn)):=q5;generalize Na w os s (vk,vn)=u2 at *;generalize Cv w o.1=ss at *;clear q2 q3 q4 q5
    conv=>whnf
    repeat'((first|apply st|(apply sq;intro K U)|(apply si;intro A B Y Z)|(apply Y;clear Z B Y A)|(apply U;clear U K)|apply dr|refine rk ?_ ?_|exact fun s e=>by cases e;rfl|refine⟨rfl,?_⟩|refine⟨kZ,?_⟩|refine ix ?_|refine GX ?_|refine ld ?_|refine Dy fun σ hs=>?_|refine De ?_|(refine CK (fun hc=>?_)<;>(try rw[hc])<;>clear hc)|refine c1.use ?_|refine c2.use ?_|refine c3.use ?_|(constructor<;>intro hc<;>(try rw[hc])<;>(replace hc:=bp hc)<;>(try simp(disch:=omega) only[BQ,wrap64,AL]at hc)<;>try(exfalso;omega))|clear U K)<;>conv=>whnf)
    exact⟨hlt,u2,rfl,⟨q6,hn⟩,hs⟩
  ·rw[show((vk,vn).1==3)=false by simp[h3],Bool.false_and,if_neg (by decide)]at hn
   conv=>whnf
   repeat'((first|apply st|(apply sq;intro K U)|(apply si;intro A B Y Z)|(apply Y;clear Z B Y A)|(apply U;clear U K)|refine⟨rfl,?_⟩|refine⟨kZ,?_⟩|refine ix ?_|refine ld ?_|refine Dy fun σ hs=>?_|(refine CK (fun hc=>?_)<;>(try rw[hc])<;>clear hc)|(constructor<;>intro hc<;>(try rw[hc])<;>(replace hc:=bp hc)<;>(try simp(disch:=omega) only[BQ,wrap64,AL]at hc)<;>try(exfalso;omega))|clear U K)<;>conv=>whnf)
   all_goals exact AI (by rw[hn];rfl)
 ·rw[Ah hke,cX]at hn
  conv=>whnf
  repeat'((first|apply st|(apply sq;intro K U)|(apply si;intro A B Y Z)|(apply Y;clear Z B Y A)|(apply U;clear U K)|refine⟨rfl,?_⟩|refine⟨kZ,?_⟩|refine ld ?_|refine Dy fun σ hs=>?_|(refine DR (fun hc=>?_)<;>(try rw[hc])<;>clear hc)|clear U K)<;>conv=>whnf)
  all_goals exact AI (by rw[hn];rfl)
end Go.Gl
