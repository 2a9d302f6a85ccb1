import Derived.Test.YtinppljblkpedaaGreatU14
import Derived.Test.YtinppljblkpedaaGreatU15
import Derived.Test.YtinppljblkpedaaGreatU18
import Derived.Test.YtinppljblkpedaaGreatU20
import Derived.Test.YtinppljblkpedaaGreatU24
import Derived.Test.YtinppljblkpedaaGreatU27
import Derived.Test.YtinppljblkpedaaGreatU28
import Derived.Test.YtinppljblkpedaaGreatU32
import Derived.Test.YtinppljblkpedaaGreatU33
import Derived.Test.YtinppljblkpedaaGreatU36
import Derived.Test.YtinppljblkpedaaGreatU37
import Derived.Test.YtinppljblkpedaaGreatU40
set_option linter.all false
set_option linter.defProp false
set_option maxHeartbeats 8000000
noncomputable section
namespace Go.Gl
open Go.Proofs
attribute [local irreducible] As Ag AY AQ AL AX AP AR AK AW AM AN Ai Ap Sat AT An AZ W
attribute [local irreducible] Fz
def yo (f:Fact):Pure zP 55 [.a (xF f)] (.a (xF (Ca f))):=by
 refine AAa kZ ?_;have hs:=Sn
 conv=>whnf
 repeat'((first|clear U K|apply st|(apply zk;intro K U)|refine zY ?_|refine zs fun Z hs=>?_|refine zo fun nn hnn Z hs=>?_|fail)<;>conv=>whnf)
 refine Af (.a (.cons (.refl _) (.cons (.refl _) (.cons Bm (.cons (.refl _) (.cons (.refl _) (.cons ?_ .nil)))))));refine .l (fun h=>by cases h) ?_;simp only[Ca,Fact.kids,List.map,BC];exact C2 _
def sB (op:Int): ∀(l:List Fact),l.length<=100-> ∀b,Pure zP 57 [eI op,.l (facts l) b] (.a (xF (Zf op l)))
 | [],_,b=>by
   have h0: ¬((([]:List Fact).length:Nat):Int)≠0:=fun h=>h rfl
   refine gS kZ ?_;have hs:=Sn
   conv=>whnf
   repeat'((first|clear U K|apply st|(apply zk;intro K U)|refine zY ?_|refine zs fun Z hs=>?_|(refine zb (fun hc=>?_) (fun hc=>?_)<;>try exact⟨⟩)|refine zo fun nn hnn Z hs=>?_|fail)<;>conv=>whnf)
   all_goals try exact absurd ‹_≠_› h0
   all_goals try(exfalso;simp at hc;done)
   all_goals try(exfalso;rename_i h;simp at h;done)
   all_goals try(exfalso;rename_i h _ _ _ _ _ _;simp at h;done)
   all_goals try(exfalso;simp at hx;done)
   all_goals try(exfalso;simp at hc;omega)
   all_goals try exact AG rfl
   all_goals
    refine Af (.a (.cons (.refl _) (.cons (.refl _) (.cons Bm (.cons (.refl _) (.cons (.refl _) (.cons ?_ .nil)))))));refine .l (fun h=>by cases h) ?_;simp only[Zf,Fact.kids,List.map,BC];exact C2 _
 | [x],_,b=>by
   have hx0: [x][Int.toNat 0]? =some x:=rfl;refine gS kZ ?_;have hs:=Sn
   conv=>whnf
   repeat'((first|clear U K|apply st|(apply zk;intro K U)|refine zY ?_|refine zs fun Z hs=>?_|refine sl1 fun b=>?_|(refine zd (fun hc=>?_) (fun hc=>?_)<;>try exact⟨⟩)|refine zo fun nn hnn Z hs=>?_|fail)<;>conv=>whnf)
   all_goals try(exfalso;simp at hc;done)
   all_goals try(exfalso;rename_i h;simp at h;done)
   all_goals try(exfalso;rename_i h _ _ _ _ _ _;simp at h;done)
   all_goals try(exfalso;simp at hx;done)
   all_goals try(exfalso;simp at hc;omega)
   all_goals try exact AG rfl
   all_goals
    refine Af (.a (.cons (.refl _) (.cons (.refl _) (.cons Bm (.cons (.refl _) (.cons (.refl _) (.cons ?_ .nil)))))));refine .l (fun h=>by cases h) ?_;simp only[Zf,Fact.kids,List.map,BC];exact C2 _
 | x ::y::r,hl,b=>by
   have hx0:(x::y::r)[Int.toNat 0]? =some x:=rfl;have c1:=sB op (y::r) (by simp at hl ⊢;omega);refine gS kZ ?_;have hs:=Sn
   conv=>whnf
   repeat'((first|clear U K|apply st|(apply zk;intro K U)|refine zY ?_|refine rk ?_ ?_|exact fun s e=>by cases e;rfl|refine zs fun Z hs=>?_|refine Pure.use (c1 _) ?_|refine sl1 fun b=>?_|(refine zd (fun hc=>?_) (fun hc=>?_)<;>try exact⟨⟩)|refine zo fun nn hnn Z hs=>?_|fail)<;>conv=>whnf)
   all_goals try(exfalso;simp at hc;done)
   all_goals try(exfalso;rename_i h;simp at h;done)
   all_goals try(exfalso;rename_i h _ _ _ _ _ _;simp at h;done)
   all_goals try(exfalso;simp at hx;done)
   all_goals try(exfalso;simp at hc;omega)
   all_goals try exact AG rfl
   all_goals
    refine Af (.a (.cons (.refl _) (.cons (.refl _) (.cons Bm (.cons (.refl _) (.cons (.refl _) (.cons ?_ .nil)))))));refine .l (fun h=>by cases h) ?_;simp only[Zf,Fact.kids,List.map,BC];exact C2 _
def T8 (f:Fact):Bp f.op<=2:=by
 unfold Bp
 repeat' split
 all_goals omega
def p6 (f:Fact):arity f=true->Pure zP 119 [.a (xF f)] (.a (xF f)):=by
 induction f using Fact.ind with
 | h f ih=>
   intro har;rw[FM,A4,CF,Cu]at har;have hk2:=T8 f;have hM:=Mx;have c1:=KA f.path false;refine xl kZ ?_;have hs:=Sn
   conv=>whnf
   repeat'((first|clear U K|apply st|(apply zk;intro K U)|refine zY ?_|refine zs fun Z hs=>?_|refine zC ?_|refine zo fun nn hnn Z hs=>?_|fail)<;>conv=>whnf)
   rename_i n2 _ _ _ _ _ _ _ _ _;refine B4 f.kids.length (fun k (_:V)=>[(15,eI (A7 k))]) (fun k v=>[.box nn [eI f.op,eI f.arg,.l (iL f.path) false,eI f.cls,eI f.n,v],.box n2 [.i .i64 0,.i .i64 0,.l [] true,.i .i64 0,.i .i64 0,.l [] true],.own v 6 (facts (f.kids.take k))]) (fun _ _=>True) (.l [] true) rfl trivial (EY hs 6) ?_;clear hs;rintro k v Z hk - hs;rcases A9 f.kids hk with⟨x,hx,hlt⟩|hke
   .have hck:A7 k=k:=AS (by omega)
    have hst:=AU hx;have c2:=ih x (B6 hx) (har.2 x (B6 hx));have hzl:(f.kids.take k).length<=2:=by rw[Je];omega
    generalize f.kids.take k=zl at *;have hll:zl.length<Ab/\(zl.length+1)*80<=140737488355328:=by omega
    conv=>whnf
    repeat'((first|clear U K|apply st|(apply zk;intro K U)|refine zY ?_|refine rk ?_ ?_|exact fun s e=>by cases e;rfl|refine zs fun Z hs=>?_|refine yZ fun v Z hs hsl=>?_|refine zC ?_|refine zo fun nn hnn Z hs=>?_|fail)<;>conv=>whnf)
    exact⟨hlt,_,rfl,trivial,by rw[hst];exact hs.less (Gg _ _)⟩
   .rw[BA hke]at hs
    refine zz ?_;(repeat clear U K);repeat intro K U
    have o1:=FZ hs 2 rfl;refine FF hs 1 rfl rfl rfl (by simp[o1]) (by decide) fun Z hs=>?_
    clear o1;refine zz ?_;(repeat clear U K);repeat intro K U
    exact Af (.a (.cons (.refl _) (.cons (.refl _) (.cons (.refl _) (.cons (.refl _) (.cons (.refl _) (.cons (hs.MB 2 rfl) .nil)))))))
def gw (p:Prog) (gen:Int) (x:Fact) (h:(BQ p).isSome=true):Pure zP 56 [.a (O6 p gen),.a (xF x)] (.t [.a (xF (if Ba (AH p) x then x else Ju)),eI (if Ba (AH p) x then 0 else 3)]):=by
 have c1:=PU p;rw[h,if_pos rfl]at c1;have c2:=RO (LL h) x;cases h4:Ba (AH p) x<;>rw[h4]at c2
 .rw[if_neg (by decide)]at c2
  refine rF kZ ?_;have hs:=Sn
  conv=>whnf
  repeat'((first|clear U K|apply st|(apply zk;intro K U)|refine zY ?_|refine zs fun Z hs=>?_|refine zC ?_|(refine zb (fun hc=>?_) (fun hc=>?_)<;>try exact⟨⟩)|refine zo fun nn hnn Z hs=>?_|fail)<;>conv=>whnf)
  all_goals exact Af (.t (.cons Hu (.cons (.refl _) .nil)))
 .rw[if_pos rfl]at c2
  have hn:=h4;simp only[Ba,A4]at hn;have c3:=p6 x (Al x hn.2.2);refine rF kZ ?_;have hs:=Sn;exact zW
def ed (p:Prog) (gen:Int) (l:List Int) (f:Bool):Pure zP 53 [.a (O6 p gen),.rp [.l (iL l) f]] (.b (HK p gen l)):=by
 have c1:=yj p gen l f;refine AAc kZ ?_;have hs:=Sn;exact zW
def rS (p:Prog) (gen:Int) (l:List Int) (f:Bool):Pure zP 12 [.a (BF p),eI gen,.l (iL l) f] (.t [.a (xF (Vq p gen l).1),eI (Vq p gen l).2]):=by
 refine Pure.fit (by kernel_rfl) fun hf=>?_
 have hP:=JM hf.1;have⟨p1,p2,p3,p4⟩:=Gq hf.1;have hlM:=Nj hf.2.2.1;have hM:=Mx;have c1:=Lg p gen 53 [.rp [.l (iL l) f]] (HK p gen l) fun _=>ed p gen l f
 rw[Vq];cases h1:C5 p gen
 .rw[(Et h1 _).1,(Et h1 _).2]at c1
  rw[if_neg (by decide)];refine Zu kZ ?_;have hs:=Sn
  conv=>whnf
  repeat'((first|clear U K|apply st|(apply zk;intro K U)|refine zY ?_|refine zs fun Z hs=>?_|refine zC ?_|(refine zb (fun hc=>?_) (fun hc=>?_)<;>try exact⟨⟩)|refine zo fun nn hnn Z hs=>?_|fail)<;>conv=>whnf)
  all_goals exact Af (.t (.cons Hu (.cons (.refl _) .nil)))
 rw[if_pos rfl];cases h2:HK p gen l<;>rw[h2]at c1
 .rw[JP.1,JP.2]at c1
  rw[if_neg (by decide)];refine Zu kZ ?_;have hs:=Sn
  conv=>whnf
  repeat'((first|clear U K|apply st|(apply zk;intro K U)|refine zY ?_|refine zs fun Z hs=>?_|refine zC ?_|(refine zb (fun hc=>?_) (fun hc=>?_)<;>try exact⟨⟩)|refine zo fun nn hnn Z hs=>?_|fail)<;>conv=>whnf)
  all_goals exact Af (.t (.cons Hu (.cons (.refl _) .nil)))
 rw[(EK h1).1,(EK h1).2]at c1;rw[if_pos rfl];by_cases h3:(Bu p gen).length<=8
 .rw [if_pos h3]at c1 ⊢
  rw[C5,A4]at h1;have h16:=(look_ok h1.1).many;have c4:=gw p gen (FA p gen l) h1.1;have c3:=sB 6 ((Bu p gen).map (Pr p l)) (by rw[Bc];omega);rw[<-FA]at c3;have hmm:=iR (p:=p) (gen:=gen);have hv:(if Ba (AH p) (FA p gen l)then(FA p gen l,(0:Int))else(Ju,3))=(if Ba (AH p) (FA p gen l)then FA p gen l else Ju,if Ba (AH p) (FA p gen l)then 0 else 3):=by split<;>rfl
  rw[hv];clear h1 h2 hv;generalize FA p gen l=xs at *;refine Zu kZ ?_;have hs:=Sn
  conv=>whnf
  repeat'((first|apply st|(refine Ta ?_;intro K U)|(apply si;intro A B hA hB)|(refine hA _ _ ?_;clear hB B hA A)|(apply U;clear U K)|refine⟨rfl,?_⟩|refine⟨kZ,?_⟩|refine ld ?_|refine FX fun Z hs=>?_|refine c1.use ?_|refine cE ?_|(constructor<;>intro hc<;>(try rw[hc])<;>(replace hc:=bp hc)<;>(try simp(disch:=omega) only[Bc,wrap64,AS]at hc)<;>try(exfalso;omega))|(intro nn hnn;generalize hg:BZ _ nn _=Z;refine GF hg fun hs=>?_;clear hg)|fail)<;>conv=>whnf)
  rename_i n6 _ _ _ _ _;refine B4 (Bu p gen).length (fun k v=>[(10,v),(28,eI (A7 k))]) (fun k v=>[.box nn (O6 p gen),.box n6 [.i .i64 0,.i .i64 0,.l [] true,.i .i64 0,.i .i64 0,.l [] true],.own v 6 (facts (((Bu p gen).take k).map (Pr p l)))]) (fun _ _=>True) (.l [] true) rfl trivial (EY hs 6) ?_;clear hs;rintro k v Z hk - hs;rcases A9 (Bu p gen) hk with⟨x,hx,hlt⟩|hke
  .have hck:A7 k=k:=AS (by omega)
   have hst:((Bu p gen).take (k+1)).map (Pr p l)=((Bu p gen).take k).map (Pr p l)++[Pr p l x]:=by rw[AU hx,LX];rfl
   have hmx:=hmm x (B6 hx);have hxP:=Cm hmx;have hxr:=hmx;simp only[Bd,A4,B7]at hxr;have c2:=yo (BY p x).fact;have c5:=B3 l f x;have hzl:(((Bu p gen).take k).map (Pr p l)).length<=8:=by rw[Bc,Je];omega
   generalize ((Bu p gen).take k).map (Pr p l)=zl at *;have hll:zl.length<Ab/\(zl.length+1)*80<=140737488355328:=by omega
   rw[Pr]at hst;generalize BY p x=mx at *;cases hct:l.contains x<;>rw[hct]at c5 hst
   .rw[if_neg (by decide)]at hst
    conv=>whnf
    repeat'((first|clear U K|apply st|(apply zk;intro K U)|refine zY ?_|refine zs fun Z hs=>?_|refine yZ fun v Z hs hsl=>?_|refine zC ?_|refine zo fun nn hnn Z hs=>?_|fail)<;>conv=>whnf)
    exact⟨hlt,_,rfl,trivial,by rw[hst];exact hs.less (Gg _ _)⟩
   .rw[if_pos rfl]at hst
    conv=>whnf
    repeat'((first|clear U K|apply st|(apply zk;intro K U)|refine zY ?_|refine zs fun Z hs=>?_|refine yZ fun v Z hs hsl=>?_|refine zC ?_|refine zo fun nn hnn Z hs=>?_|fail)<;>conv=>whnf)
    exact⟨hlt,_,rfl,trivial,by rw[hst];exact hs.less (Gg _ _)⟩
  .rw[BA hke]at hs
   conv=>whnf
   repeat'((first|(refine Ta ?_;intro K U)|(apply si;intro A B hA hB)|(refine hA _ _ ?_;clear hB B hA A)|(apply U;clear U K)|refine⟨rfl,?_⟩|fail)<;>conv=>whnf)
   refine cE ?_
   conv=>whnf
   repeat'((first|apply st|(refine Ta ?_;intro K U)|(apply U;clear U K)|(refine SF (fun hc=>?_)<;>(try rw[hc])<;>clear hc)|clear U K)<;>conv=>whnf)
   refine Vm hs 2 rfl (fun Z2 h=> .cons (.refl _) (.cons (.refl _) (.cons h .nil))) fun Z hs=>?_
   conv=>whnf
   repeat'((first|clear U K|apply st|(apply zk;intro K U)|refine zY ?_|refine rk ?_ ?_|exact fun s e=>by cases e;rfl|refine zs fun Z hs=>?_|refine Pure.use (c3 _) ?_|refine c4.use ?_|fail)<;>conv=>whnf)
   all_goals exact AG rfl
 .rw[if_neg h3]at c1 ⊢
  refine Zu kZ ?_;have hs:=Sn
  conv=>whnf
  repeat'((first|clear U K|apply st|(apply zk;intro K U)|refine zY ?_|refine zs fun Z hs=>?_|refine zC ?_|(refine zb (fun hc=>?_) (fun hc=>?_)<;>try exact⟨⟩)|refine zo fun nn hnn Z hs=>?_|fail)<;>conv=>whnf)
  all_goals exact Af (.t (.cons Hu (.cons (.refl _) .nil)))
end Go.Gl
namespace Go.Gl
open Go.Proofs
attribute [local irreducible] As Ag AY AQ AL AX AP AR AK AW AM AN Ai Ap Sat AT An AZ W
def dB (f : Fact):Pz f=true->Pure zP 68 [.a (xF f)] (eI (Cj f)):=by
 induction f using Fact.ind with
 | h f ih=>
   intro ha;refine Pure.fit (by kernel_rfl) fun hf=>?_
   have⟨h2,h3,h4⟩:=JL hf.1;have hM:=Mx;rw[M9]at ha;simp only[A4,B7,List.all_map,Cu]at ha;have c1:=PI f;refine AAQ kZ ?_;have hs:=Sn;by_cases hlf:Be f=true
   .rw [hlf]at c1
    have hw:IntKind.i64.wrap (f.arg+1)=f.arg+1:=wrap64 (by omega) (by omega)
    conv=>whnf
    repeat'((first|clear U K|apply st|(apply zk;intro K U)|refine zY ?_|refine zC ?_|fail)<;>conv=>whnf)
    all_goals
     refine B4 f.kids.length (fun k (_:Unit)=>[(3,eI (((f.kids.take k).map Cj).foldl HN (if Be f then f.arg+1 else 0))),(14,eI (A7 k))]) (fun _ _=>[]) (fun _ _=>True) () (by rw[hw,if_pos hlf];rfl) trivial hs ?_;clear hs;rintro k - Z hk - hs;rcases A9 f.kids hk with⟨x,hx,hlt⟩|hke
     .have hxs:=ih x (B6 hx) (ha.2 x (B6 hx))
      conv=>whnf
      repeat'((first|clear U K|apply st|(apply zk;intro K U)|refine zY ?_|refine zs fun Z hs=>?_|refine zC ?_|refine zo fun nn hnn Z hs=>?_|fail)<;>conv=>whnf)
      exact⟨hlt,(),by rw[Ek _ _ _ hx];rfl,trivial,hs.take 0⟩
     .refine zz ?_;(repeat clear U K);repeat intro K U
      exact AG (by rw[BA hke,<-EE])
   .rw [Bool.not_eq_true]at hlf
    rw[hlf]at c1;have hlf2: ¬Be f=true:=by rw[hlf];decide
    conv=>whnf
    repeat'((first|clear U K|apply st|(apply zk;intro K U)|refine zY ?_|refine zC ?_|fail)<;>conv=>whnf)
    all_goals
     refine B4 f.kids.length (fun k (_:Unit)=>[(3,eI (((f.kids.take k).map Cj).foldl HN (if Be f then f.arg+1 else 0))),(14,eI (A7 k))]) (fun _ _=>[]) (fun _ _=>True) () (by rw[if_neg hlf2];rfl) trivial hs ?_;clear hs;rintro k - Z hk - hs;rcases A9 f.kids hk with⟨x,hx,hlt⟩|hke
     .have hxs:=ih x (B6 hx) (ha.2 x (B6 hx))
      conv=>whnf
      repeat'((first|clear U K|apply st|(apply zk;intro K U)|refine zY ?_|refine zs fun Z hs=>?_|refine zC ?_|refine zo fun nn hnn Z hs=>?_|fail)<;>conv=>whnf)
      exact⟨hlt,(),by rw[Ek _ _ _ hx];rfl,trivial,hs.take 0⟩
     .refine zz ?_;(repeat clear U K);repeat intro K U
      exact AG (by rw[BA hke,<-EE])
def qV (w:AF) (hg:BR w) (hw:Fu w) (os:List Ob) (b:Bool) (args:List (Int×Int)) (g:Bool) (f:Fact) (hf:Ba w f=true) (hsp:Cj f<=args.length) (hh:SU w os args=true) :
    Pure zP 17 [.a (A5 w),.a (xF f),.l (os.map MC) b,.l (pP args) g] (.t [.b (E9 w os args f),eI 0]):=by
 refine Pure.fit (by kernel_rfl) fun hfi=>?_
 have hM:=Mx
 have hfo: ∀b,Pure zP 60 [.a (A5 w),.l [EI f] b] (.t [.rp (wC w (Ah w.parents)),.b true]):=fun b=>by
  have:=KY w hg [f] b (by simp);simpa[Ki,hf]using this
 rw[BC]at hfo;have c2:=dq w hg hw os b args g;rw[hh]at c2;have c3:=dB f (bt hf);simp only[SU,A4,B7,Cu]at hh;have hno:Ae w f=true:=by simp only[Ba,A4]at hf;exact hf.2.2
 have c4:=lU w os b args g hg hw (oR hh.1) hh.2.2.2 f hno hsp;refine AAq kZ ?_;have hs:=Sn
 conv=>whnf
 repeat'((first|clear U K|apply st|(apply zk;intro K U)|refine zY ?_|refine Pure.use (hfo _) ?_|refine c2.use ?_|refine c3.use ?_|refine c4.use ?_|(refine zd (fun hc=>?_) (fun hc=>?_)<;>try exact⟨⟩)|fail)<;>conv=>whnf)
 all_goals first
  | exact AG rfl
  | (exfalso;simp at hc;omega)
abbrev C6:Fact:=Fact.mk 1 0 [] 0 0 []
end Go.Gl
namespace Go.Gl
open Go.Proofs
def bT {w:AF} {M:Int->Er}: ∀l:List Fact,LD w M (Zf 6 l)=l.all (LD w M)
 | []=>by rw[Zf,Iw,VB];rfl
 | [x]=>by rw[Zf];simp
 | x::y::r=>by
   have ih:=bT (w:=w) (M:=M) (y::r);rw[Zf,Iw,rC rfl];show((LD w M x)&&LD w M (Zf 6 (y::r)))=_;rw[ih,Ri (a:=x)]
def iW {w:AF} {M:Int->Er} (f:Fact):LD w M (Ca f)= !LD w M f:=by
 rw[Iw,rD rfl];rfl
def Fp: ∀ {G:List Int} {bs:List Bool},G.Nodup-> ∀ {i:Nat} {m:Int} {b:Bool},G[i]? =some m->bs[i]? =some b->(BT G bs).contains m=b
 | [],_,_,i,m,b,h,_=>by simp at h
 | g::r,[],_,i,m,b,_,h=>by simp at h
 | g ::r,c::bs,hn,i,m,b,hm,hb=>by
   rw[List.nodup_cons]at hn
   have e:BT (g::r) (c::bs)=(if c then [g]else [])++BT r bs:=by
    rw[BT,List.zip_cons_cons,List.filter_cons];cases c<;>rfl
   rw[e];cases i with
   | zero=>
     simp only[fL,Gh]at hm hb;subst hm;subst hb
     have hr:(BT r bs).contains g=false:=by
      rw[<-Bool.not_eq_true,List.contains_iff_mem];exact fun h=>hn.1 ((G4 r bs).subset h)
     cases c
     .simpa using hr
     .simp
   | succ i=>
     simp only[qW]at hm hb
     have hne:m≠g:=by
      rintro rfl;exact hn.1 (B6 hm)
     have ih:=Fp hn.2 hm hb;cases c
     .simpa using ih
     .rw[if_pos rfl,List.singleton_append,List.contains_cons,ih,beq_eq_false_iff_ne.2 hne,Bool.false_or]
def Ij (p:Prog) (gen:Int):(Bu p gen).Nodup:=(iQ p gen).imp fun h=>Int.ne_of_lt h
def Uq {p:Prog} {gen:Int} {bs:List Bool} (hl:bs.length=(Bu p gen).length) {M:Int->Er} :
    LD (AH p) M (FA p gen (BT (Bu p gen) bs))=true↔ ∀x∈(Fi p gen).zip bs,LD (AH p) M x.1=x.2:=by
 rw[FA,bT,Cu];constructor
 .intro h x hx
  obtain⟨i,hi⟩:=List.getElem?_of_mem hx;obtain⟨h1,h2⟩:=List.getElem?_zip_eq_some.1 hi;rw[Fi,LY]at h1;cases hm:(Bu p gen)[i]? with
  | none=>rw[hm]at h1;cases h1
  | some m=>
    rw[hm]at h1;simp only[b9,Gh]at h1;have h3:=Fp (Ij p gen) hm h2;have h4:=h _ (GK.2 ⟨m,B6 hm,rfl⟩);rw[Pr,h3]at h4;rw[<-h1];cases hx2:x.2<;>rw[hx2]at h4
    .rw[if_neg (by decide),iW]at h4
     simpa using h4
    .rw[if_pos rfl]at h4
     exact h4
 .intro h f hf
  obtain⟨m,hm,rfl⟩:=GK.1 hf;obtain⟨i,hi⟩:=List.getElem?_of_mem hm;have hil:=(Ip.1 hi).1;have hb:bs[i]? =some bs[i]:=Cd (by omega);have h3:=Fp (Ij p gen) hi hb;have h4:=h ((BY p m).fact,bs[i]) (B6 (i:=i) (List.getElem?_zip_eq_some.2 ⟨by rw[Fi,LY,hi];rfl,hb⟩));rw[Pr,h3];cases hbi:bs[i]<;>rw[hbi]at h4
  .rw[if_neg (by decide),iW,h4];rfl
  .rw[if_pos rfl];exact h4
def kP {p:Prog} {gen:Int} (h1:C5 p gen=true) (h8:(Bu p gen).length<=8) {bs:List Bool} (hl:bs.length=(Bu p gen).length) (hn:Ae (AH p) (FA p gen (BT (Bu p gen) bs))=true) :
    Ry (AH p) (FA p gen (BT (Bu p gen) bs))=Pj (E7 p gen (EN (AH p))) (BT (Bu p gen) bs):=by
 have hfn:=Md h1 h8;have hw:=hfn.ok.mh;have hfa:=Gc hfn;rw[Hl,WL hw hn]
 have hcan:(∃M:Int->Er,(∀a,E0 (AH p) (M a))/\LD (AH p) M (FA p gen (BT (Bu p gen) bs))=true)↔cW (EN (AH p)) (Fi p gen) bs=true:=by
  rw[M8 (gN hw) hfa];constructor
  .rintro⟨M,a,b⟩;exact⟨M,a,(Uq hl).1 b⟩
  .rintro⟨M,a,b⟩;exact⟨M,a,(Uq hl).2 b⟩
 rw[hcan,Pj,GY];constructor
 .intro h
  refine⟨(BT (Bu p gen) bs,Zd p (BT (Bu p gen) bs)),?_,by simp⟩;rw[E7,GK];refine⟨bs,?_,rfl⟩
  have:=Wp (E:=cW (EN (AH p)) (Fi p gen)) (fun a b hab=>by
   rw[M8 (gN hw) hfa]at hab ⊢;obtain⟨M,m1,m2⟩:=hab
   exact⟨M,m1,fun x hx=>m2 x (nT hx)⟩) (Bu p gen).length [] bs hl (by simpa using h)
  simpa using this
 .rintro⟨x,hx,he⟩
  rw[E7,GK]at hx;obtain⟨bs',hb,rfl⟩:=hx;have he2:BT (Bu p gen) bs'=BT (Bu p gen) bs:=by simpa using he
  obtain⟨g1,-,g3⟩:=Wq _ _ _ hb
  have:bs'=bs:=by
   refine List.ext_getElem? fun i=>?_
   simp only[List.length_nil,GZ]at g1;by_cases hi:i<(Bu p gen).length
   .have k1:bs'[i]? =some bs'[i]:=Cd (by omega)
    have k2:bs[i]? =some bs[i]:=Cd (by omega);have k3:(Bu p gen)[i]? =some (Bu p gen)[i]:=Cd hi;have q1:=Fp (Ij p gen) k3 k1;have q2:=Fp (Ij p gen) k3 k2;rw[he2,q2]at q1;rw[k1,k2,q1]
   .rw[List.getElem?_eq_none (by omega),List.getElem?_eq_none (by omega)]
  rw[<-this];exact g3
def Wt: ∀(l:List Int) (a:Int),a<=3->(∀x∈l,x<=3)->l.foldl HN a<=3
 | [],_,h,_=>h
 | x::r,a,h,hx=>by
   refine Wt r _ ?_ fun y hy=>hx y (.tail _ hy)
   have:=hx x (.head _);unfold HN;split<;>omega
def Z4 {w:AF} (f:Fact):Ae w f=true->Cj f<=3:=by
 induction f using Fact.ind with
 | h f ih=>
   intro h;rw[BS,A4,Cu]at h;have h1:=h.1;simp only[CE,A4,B7]at h1;rw[EE];refine Wt _ _ ?_ fun x hx=>?_
   .split<;>omega
   .obtain⟨k,hk,rfl⟩:=GK.1 hx
    exact ih k hk (h.2 k hk)
def dL {p:Prog} {gen:Int} (h1:C5 p gen=true) (h8:(Bu p gen).length<=8) {bs:List Bool} (hl:bs.length=(Bu p gen).length) (hn:Ae (AH p) (FA p gen (BT (Bu p gen) bs))=true) {ls:List Fact}
    (hls:ls∈BV (FA p gen (BT (Bu p gen) bs)) false) (hlw: ∀l∈ls,CQ (AH p) l) (hll:ls.length<=12) (hpl:(AH p).parents.length<=20) (htog:Ow (AH p) (kn ls)=true) {m:Int} (hm:m∈Bu p gen) :
    E9 (C4 (AH p) (Dp (AH p) ls).2.1) (Dp (AH p) ls).2.2 (Dp (AH p) ls).1 (BY p m).fact=(BT (Bu p gen) bs).contains m:=by
 have hfn:=Md h1 h8;have hw:=hfn.ok.mh;have hfa:=Gc hfn;obtain⟨-,-,-,-,-,h6⟩:=iB hw hpl hlw hll htog;have hmf:(BY p m).fact∈Fi p gen:=GK.2 ⟨m,hm,rfl⟩;have hsp:=Z4 _ (hfa _ hmf);rw[h6 _ (hfa _ hmf) hsp];have hev:=(EF (M:=fun a=>cD (AH p) (kn ls) a 2 []) _ hn false).1 ⟨ls,hls,(oh hw hlw htog).2⟩;have hz:=(Uq hl).1 hev;obtain⟨i,hi⟩:=List.getElem?_of_mem hm;have hil:=(Ip.1 hi).1;have hb:bs[i]? =some bs[i]:=Cd (by omega);rw[Fp (Ij p gen) hi hb];exact hz ((BY p m).fact,bs[i]) (B6 (i:=i) (List.getElem?_zip_eq_some.2 ⟨by rw[Fi,LY,hi];rfl,hb⟩))
def Uw (n:Nat):(Aw n).Nodup:=(Fy n).imp fun h=>Int.ne_of_lt h
def dv {w:AF} (hw:BR w) {more:List Nat} (hl:w.parents.length+more.length<=60):BR (C4 w more):=by
 have hpl:(C4 w more).parents.length=w.parents.length+more.length:=by simp[C4]
 refine⟨⟨by omega,fun i l hi=>?_⟩,hw.2.1,fun o ho=>?_⟩
 .change(w.parents++more.map (K5 w.parents.length))[i]? =some l at hi
  rcases Nat.lt_or_ge i w.parents.length with h|h
  .rw[X1 h]at hi
   exact hw.1.2 i l hi
  .rw[List.getElem?_append_right h,LY]at hi
   cases hm:more[i - w.parents.length]? with
   | none=>rw[hm]at hi;cases hi
   | some m=>
     rw[hm]at hi;obtain rfl:K5 w.parents.length m=l:=Option.some.inj hi;refine⟨by have:=QL m w.parents.length;omega,(Uw _).filter _,fun c hc=>?_⟩;obtain⟨h1,h2⟩:=HD.1 hc;rw[A4,B7]at h2;obtain⟨k,hk,rfl⟩:=GK.1 h1;rw[List.mem_range]at hk;have:(Int.ofNat k)=(k:Int):=rfl;exact⟨h2.1,by omega⟩
 .have:=hw.2.2 o ho
  omega
def WB {p:Prog} {gen:Int} {tog:List Fact->Bool}: ∀x∈E7 p gen tog,x.2=Zd p x.1:=fun x hx=>by
 rw[E7,GK]at hx;obtain⟨bs,-,rfl⟩:=hx;rfl
end Go.Gl
namespace Go.Gl
open Go.Proofs
attribute [local irreducible] As Ag AY AQ AL AX AP AR AK AW AM AN Ai Ap Sat AT An AZ W
def oA (xs:List (List Int×Int)) (hxl:xs.length<=256) (f g:Bool):Pure zP 40 [.l (xs.map Tg) f,.l (xs.map Tg) g] (.b true):=by
 have hM:=Mx;refine Pure.of ?_;refine AAj kZ ?_;have hs:=Sn
 conv=>whnf
 repeat'((first|clear U K|apply st|(apply zk;intro K U)|refine zY ?_|(refine zb (fun hc=>?_) (fun hc=>?_)<;>try exact⟨⟩)|fail)<;>conv=>whnf)
 all_goals try(exfalso;simp at hc;done)
 refine B4 xs.length (fun k (_:Unit)=>[(13,eI (A7 k))]) (fun _ _=>[]) (fun _ _=>True) () rfl trivial hs ?_;clear hs;rintro k - Z hk - hs;rcases A9 xs hk with⟨x,hx,hlt⟩|hke
 .have c1:=I4 x.1 x.1 false false
  rw[beq_self_eq_true]at c1;have hck:A7 k=k:=AS (by omega)
  conv=>whnf
  repeat'((first|clear U K|apply st|(apply zk;intro K U)|refine zY ?_|refine zC ?_|(refine zb (fun hc=>?_) (fun hc=>?_)<;>try exact⟨⟩)|fail)<;>conv=>whnf)
  all_goals first
   | exact⟨hlt,(),rfl,trivial,hs⟩
   | (exfalso;omega)
 .refine zz ?_;(repeat clear U K);repeat intro K U
  all_goals exact AJ (by rfl)
def dF {p:Prog} {gen:Int} {tog:List Fact->Bool} (h8:(Bu p gen).length<=8):(E7 p gen tog).length<=256:=by
 rw[E7,Bc];exact Nat.le_trans (Kv _ _) (Nat.le_trans (Nat.pow_le_pow_right (by omega) h8) (by decide))
end Go.Gl
namespace Go.Gl
open Go.Proofs
def aj {w:AF} {f:Fact} (h:Ba w f=true):Ae w f=true/\lv f<=12:=by
 simp only[Ba,A4,B7]at h;refine⟨h.2.2,?_⟩;have hcn:=G3 f 24 (by omega) h.1;have:=iE f (Al _ h.2.2);omega
def Wx {α:Type} {f:α->Bool}: ∀ {l:List α},l.any f=true-> ∃x,l.find? f=some x/\x∈l/\f x=true
 | [],h=>by cases h
 | x ::r,h=>by
   cases hx:f x
   .rw[Rq,hx,Bool.false_or]at h
    obtain⟨y,h1,h2,h3⟩:=Wx h;exact⟨y,by rw[List.find?_cons,hx];exact h1,.tail _ h2,h3⟩
   .exact⟨x,by rw[List.find?_cons,hx],.head _,hx⟩
def eR {α:Type} {f:α->Bool} {l:List α} (h:l.any f=false):l.find? f=none:=by
 rw[List.find?_eq_none];intro x hx hf;have:=List.any_eq_false.1 h x hx;exact this hf
def lh {w:AF} (more:List Nat) {f:Fact} (h:Ba w f=true):Ba (C4 w more) f=true:=by
 simp only[Ba,A4]at h ⊢;exact⟨h.1,h.2.1,Sv more f h.2.2⟩
def ku {w:AF} {os:List Ob} (h:Oy w os):LI w os=true:=by
 simp only[LI,A4,B7,Cu,VI,cK,CF];exact⟨h.len,fun o ho=>⟨h.own o ho,h.num o ho,h.val o ho⟩⟩
attribute [local irreducible] As Ag AY AQ AL AX AP AR AK AW AM AN Ai Ap Sat AT An AZ W
def eJ (p : Prog) (gen:Int) (u:Int) (c0:Pure zP 9 [] (.b true)):Pure zP 3 [.a (BF p),eI gen,.i .u8 u] (.b true):=by
 refine Pure.fit (by kernel_rfl) fun hf=>?_
 have hu:0<=u/\u<=255:=hf.2.2.1;obtain⟨b,rfl⟩: ∃b:Nat,u=b:=⟨u.toNat,by omega⟩
 have hb:b<256:=by omega
 have hP:=JM hf.1;have hM:=Mx;have c1:=yM p gen;have c2:=jl p gen;rw[Ts]at c2;refine Pure.of ?_;cases h1:C5 p gen
 .rw[h1,if_neg (by decide)]at c1
  refine fp kZ ?_;have hs:=Sn
  conv=>whnf
  repeat'((first|apply st|(apply sq;intro K U)|(apply si;intro A B hA hB)|(refine hA _ _ ?_;clear hB B hA A)|(apply U;clear U K)|refine⟨rfl,?_⟩|refine⟨kZ,?_⟩|refine c1.use ?_|refine c0.use ?_|(constructor<;>intro hc<;>(try rw[hc])<;>(replace hc:=bp hc)<;>try(exfalso;omega))|clear U K)<;>conv=>whnf)
  all_goals exact AJ (by rfl)
 rw[h1,if_pos rfl]at c1;rw[(EK h1).2]at c2;by_cases h8:(Bu p gen).length<=8
 rotate_left
 .rw[if_neg h8,if_neg (by decide)]at c2
  refine fp kZ ?_;have hs:=Sn
  conv=>whnf
  repeat'((first|apply st|(apply sq;intro K U)|(apply si;intro A B hA hB)|(refine hA _ _ ?_;clear hB B hA A)|(apply U;clear U K)|refine⟨rfl,?_⟩|refine⟨kZ,?_⟩|refine c1.use ?_|refine c2.use ?_|refine c0.use ?_|(constructor<;>intro hc<;>(try rw[hc])<;>(replace hc:=bp hc)<;>(try simp(disch:=omega) only[Bc,wrap64,AS]at hc)<;>try(exfalso;omega))|clear U K)<;>conv=>whnf)
  all_goals first
   | exact AJ (by rfl)
   | (exfalso;simp at hc;done)
 rw[if_pos h8,if_pos rfl]at c2;have hl:=h1;rw[C5,A4]at hl;have hok:=look_ok hl.1;have hgw:=LL hl.1;have hc10:=UC hl.1;have hpl:(AH p).parents.length=p.AO.length:=by simp[AH,Ay]
 have hfn:=Md h1 h8;have hfa:=Gc hfn;have c3:=j6 p gen b hb hok.many;have hset:Tl b (Bu p gen)=BT (Bu p gen) (OU b (Bu p gen).length):=rfl;have hbl:=TN b (Bu p gen).length;rw[hset]at c3;generalize OU b (Bu p gen).length=bs at *;have c4:=rS p gen (BT (Bu p gen) bs) false;rw[Vq,h1,if_pos rfl,UN (G4 _ _),if_pos rfl,if_pos h8]at c4;cases h2:Ba (AH p) (FA p gen (BT (Bu p gen) bs))
 .rw[h2,if_neg (by decide)]at c4
  refine fp kZ ?_;have hs:=Sn
  conv=>whnf
  repeat'((first|apply st|(apply sq;intro K U)|(apply si;intro A B hA hB)|(refine hA _ _ ?_;clear hB B hA A)|(apply U;clear U K)|refine⟨rfl,?_⟩|refine⟨kZ,?_⟩|refine FX fun Z hs=>?_|refine c1.use ?_|refine c2.use ?_|refine c3.use ?_|refine c4.use ?_|refine c0.use ?_|(constructor<;>intro hc<;>(try rw[hc])<;>(replace hc:=bp hc)<;>(try simp(disch:=omega) only[Bc,wrap64,AS]at hc)<;>try(exfalso;omega))|(intro nn hnn;generalize hg:BZ _ nn _=Z;refine GF hg fun hs=>?_;clear hg)|clear U K)<;>conv=>whnf)
  all_goals first
   | exact AJ (by rfl)
   | (exfalso;simp at hc;done)
 rw[h2,if_pos rfl]at c4;obtain⟨hn,hlv⟩:=aj h2;have hcan:=kP h1 h8 hbl hn;have c5:=uK (Zd p) (E7 p gen (EN (AH p))) WB (dF h8) false (BT (Bu p gen) bs) false;have c6:=UG p hP hok.zU hok.AI;have c7:=AA4 (AH p) hgw _ (by rw[Ki];exact h2) hn (by omega);have c8:=qU (AH p) hgw _ (by rw[Ki];exact h2) hn (by omega) (by omega);have hhold:=fun ls=>dL h1 h8 hbl hn (ls:=ls)
 rw[hcan]at c7;rw[Ry]at hcan;generalize E7 p gen (EN (AH p))=A8 at *;generalize FA p gen (BT (Bu p gen) bs)=f at *;cases h3:Pj A8 (BT (Bu p gen) bs)
 .rw[h3]at c5 c7 hcan
  rw[fZ,eR hcan]at c8;refine fp kZ ?_;have hs:=Sn
  conv=>whnf
  repeat'((first|apply st|(apply sq;intro K U)|(apply si;intro A B hA hB)|(refine hA _ _ ?_;clear hB B hA A)|(apply U;clear U K)|refine⟨rfl,?_⟩|refine⟨kZ,?_⟩|refine ld ?_|refine FX fun Z hs=>?_|refine Zg ?_|refine SG ?_|refine c1.use ?_|refine c2.use ?_|refine c3.use ?_|refine c4.use ?_|refine c5.use ?_|refine c6.use ?_|refine c7.use ?_|refine c8.use ?_|refine c0.use ?_|(constructor<;>intro hc<;>(try rw[hc])<;>(replace hc:=bp hc)<;>(try simp(disch:=omega) only[Bc,wrap64,AS]at hc)<;>try(exfalso;omega))|(intro nn hnn;generalize hg:BZ _ nn _=Z;refine GF hg fun hs=>?_;clear hg)|clear U K)<;>conv=>whnf)
  all_goals first
   | exact AJ (by rfl)
   | (exfalso;simp at hc;done)
 .rw [h3] at c5 c7 hcan
  obtain⟨ls,hls,hmem,htog⟩:=Wx hcan;rw[fZ,hls]at c8;dsimp only at c8;have hlit:=DB f hn false ls hmem;have hlw: ∀l∈ls,CQ (AH p) l:=fun l hl=>EB (hlit l hl)
  have hlen:ls.length<=12:=Nat.le_trans ((G8 f (Al _ hn) false).2 ls hmem) hlv;have htp:Ow (AH p) (kn ls)=true:=by rw[YJ hgw hlit];exact htog
  have hho:=fun(m:Int) (hm:m∈Bu p gen)=>hhold ls hmem hlw hlen (by omega) htp hm
  obtain⟨m1,m2,m3,m4,m5,-⟩:=iB hok.mh (by omega) hlw hlen htp;have hgb:=dv hgw (more:=(Dp (AH p) ls).2.1) (by omega)
  have hhand:SU (C4 (AH p) (Dp (AH p) ls).2.1) (Dp (AH p) ls).2.2 (Dp (AH p) ls).1=true:=by
   simp only[SU,A4,B7,Cu];exact⟨ku m2,by omega,by omega,m3⟩
  have hfm: ∀m∈p.methods,Ba (AH p) m.fact=true:=fun m hm=>(ah hl.1 hm).2.1
  generalize hw2:C4 (AH p) (Dp (AH p) ls).2.1=big at *;have hbig: ∀f,Ba (AH p) f=true->Ba big f=true:=fun f hf=>by rw[<-hw2];exact lh _ hf
  generalize (Dp (AH p) ls).2.2=os at *;generalize (Dp (AH p) ls).1=args at *;clear hls hmem htog hlit hlw htp hhold hw2 m5;refine fp kZ ?_;have hs:=Sn
  conv=>whnf
  repeat'((first|apply st|(apply sq;intro K U)|(apply si;intro A B hA hB)|(refine hA _ _ ?_;clear hB B hA A)|(apply U;clear U K)|refine⟨rfl,?_⟩|refine⟨kZ,?_⟩|refine ld ?_|refine FX fun Z hs=>?_|refine SG ?_|refine c1.use ?_|refine c2.use ?_|refine c3.use ?_|refine c4.use ?_|refine c5.use ?_|refine c6.use ?_|refine c7.use ?_|refine c8.use ?_|(constructor<;>intro hc<;>(try rw[hc])<;>(replace hc:=bp hc)<;>(try simp(disch:=omega) only[Bc,wrap64,AS]at hc)<;>try(exfalso;omega))|(intro nn hnn;generalize hg:BZ _ nn _=Z;refine GF hg fun hs=>?_;clear hg)|fail)<;>conv=>whnf)
  have h16:=hok.many;generalize nn=n15 at *;obtain⟨tl,hs⟩: ∃tl,Sat Z (.box n15 (A5 big)::tl):=⟨_,hs⟩
  replace hs:Sat Z [.box n15 (A5 big)]:=hs.less (List.cons_sublist_cons.2 (Oq _));refine B4 p.methods.length (fun k (_:Unit)=>[(100,eI (A7 k))]) (fun _ _=>[.box n15 (A5 big)]) (fun _ _=>True) () rfl trivial hs ?_;clear hs;rintro k - Z hk - hs;rcases A9 p.methods hk with⟨x,hx,hlt⟩|hke
  .have hck:A7 k=k:=AS (by omega)
   have hxe:=Uc hx;have hxm:=B6 hx;have hxf:=hbig _ (hfm x hxm);by_cases hg:x.gen=gen
   .have hmg:((k:Nat):Int)∈Bu p gen:=by
     have:=Mc p gen (k:Int);rw[hxe,CF.2 hg,Bool.and_true]at this;rw[<-List.contains_iff_mem,this,Bd];simp only[A4,B7];omega
    have hkh:=hho _ hmg;rw[hxe]at hkh;have c9:=qV big hgb m1 os false args false x.fact hxf (by rw[m4];exact Z4 _ (aj (hfm x hxm)).1) hhand;have c10:=B3 (BT (Bu p gen) bs) false (k:Int);rw[hkh]at c9;rw[<-hck]at c9 c10;cases hB:(BT (Bu p gen) bs).contains (A7 k)<;>rw[hB]at c9 c10
    all_goals
     conv=>whnf
     repeat'((first|apply st|(apply sq;intro K U)|(apply si;intro A B hA hB)|(refine hA _ _ ?_;clear hB B hA A)|(apply U;clear U K)|refine⟨rfl,?_⟩|refine⟨kZ,?_⟩|refine ix ?_|refine ld ?_|refine FX fun Z hs=>?_|refine SG ?_|(refine NT (fun hc=>?_)<;>(try rw[hc])<;>clear hc)|refine c9.use ?_|refine c10.use ?_|(constructor<;>intro hc<;>(try rw[hc])<;>(replace hc:=bp hc)<;>(try simp(disch:=omega) only[Bc,wrap64,AS]at hc)<;>try(exfalso;omega))|(intro nn hnn;generalize hg:BZ _ nn _=Z;refine GF hg fun hs=>?_;clear hg)|clear U K)<;>conv=>whnf)
     all_goals first
      | exact⟨hlt,(),rfl,trivial,hs.less (Gg _ _)⟩
      | (exfalso;simp at hc;done)
   .conv=>whnf
    repeat'((first|apply st|(apply sq;intro K U)|(apply si;intro A B hA hB)|(refine hA _ _ ?_;clear hB B hA A)|(apply U;clear U K)|refine⟨rfl,?_⟩|refine⟨kZ,?_⟩|refine ix ?_|refine ld ?_|refine FX fun Z hs=>?_|(refine NT (fun hc=>?_)<;>(try rw[hc])<;>clear hc)|(constructor<;>intro hc<;>(try rw[hc])<;>(replace hc:=bp hc)<;>try(exfalso;omega))|(intro nn hnn;generalize hg:BZ _ nn _=Z;refine GF hg fun hs=>?_;clear hg)|clear U K)<;>conv=>whnf)
    all_goals first
     | exact⟨hlt,(),rfl,trivial,hs.less (Gg _ _)⟩
     | (exfalso;omega)
  .conv=>whnf
   repeat'((first|apply st|(apply sq;intro K U)|(apply si;intro A B hA hB)|(refine hA _ _ ?_;clear hB B hA A)|(apply U;clear U K)|refine⟨rfl,?_⟩|(refine SF (fun hc=>?_)<;>(try rw[hc])<;>clear hc)|refine c0.use ?_|clear U K)<;>conv=>whnf)
   all_goals exact AJ (by rfl)
end Go.Gl
namespace Go.Gl
open Go.Proofs
attribute [local irreducible] As Ag AY AQ AL AX AP AR AK AW AM AN Ai Ap Sat AT An AZ W
def R0:List (Int->Fact×Int)->Fact->Int->Fact×Int
 | [],o,n=>(o,n)
 | g::r,o,n=>if 0<=n then R0 r (g n).1 (g n).2 else(o,n)
def yn (f:Fact) (l:List (Int->Fact×Int)) (n:Int):Fact×Int:=if n=0 then(f,-1)else R0 l f (n - 1)
def Gk (f:Fact):Int->Fact×Int:=f.Fe yn
def Ke (f:Fact) (n:Int):Gk f n=if n=0 then(f,-1)else R0 (f.kids.map Gk) f (n - 1):=congrFun (Fact.CJ yn f) n
end Go.Gl
namespace Go.Gl
open Go.Proofs
def Xf {b sz:Nat} {Z:AE} {ys:List (List V)} {f:Bool} {K:V->AE->Prop} (h:AL b Z sz (.l [] true) (.l ys f) fun v' Z'=>(ys≠[]->(Bi v').isSome=true)->K v' Z'):AL b Z sz (.l [] true) (.l ys f) K:=by
 obtain⟨h1,h2,h3⟩:=h;exact⟨h1,h2,h3.1,h3.2.1,fun e=>h3.2.2.1 e fun hn=>absurd e hn,fun e=>⟨(h3.2.2.2 e).1,fun n cap hn hc=>(h3.2.2.2 e).2 n cap hn hc fun _=>rfl⟩⟩
attribute [local irreducible] As Ag AY AQ AL AX AP AR AK AW AM AN Ai Ap Sat AT An AZ W
def wk (f:Fact) (l:List Fact):Fact:= .mk f.op f.arg f.path f.cls f.n l
def cB:List Fact->List (Int->Fact×Int)->Int->List Fact×Int
 | k::ks,g::gs,n=>if 0<=n then((g n).1::(cB ks gs (g n).2).1,(cB ks gs (g n).2).2)else(k::ks,n)
 | ks,_,n=>(ks,n)
def ptG (x:Fact) (f:Fact) (l:List (Int->Fact×Int)) (n:Int):Fact×Int:=if n=0 then(x,-1)else(wk f (cB f.kids l (n - 1)).1,(cB f.kids l (n - 1)).2)
def Xw (x f:Fact):Int->Fact×Int:=f.Fe (ptG x)
def gx (x f:Fact) (n:Int):Xw x f n=if n=0 then(x,-1)else(wk f (cB f.kids (f.kids.map (Xw x)) (n - 1)).1,(cB f.kids (f.kids.map (Xw x)) (n - 1)).2):=congrFun (Fact.CJ (ptG x) f) n
end Go.Gl
