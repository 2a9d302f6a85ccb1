import Derived.Test.YtinppljblkpedaaGreatU14
import Derived.Test.YtinppljblkpedaaGreatU23
import Derived.Test.YtinppljblkpedaaGreatU24
import Derived.Test.YtinppljblkpedaaGreatU25
import Derived.Test.YtinppljblkpedaaGreatU36
import Derived.Test.YtinppljblkpedaaGreatU37
import Derived.Test.YtinppljblkpedaaGreatU40
import Derived.Test.YtinppljblkpedaaGreatU42
set_option linter.all false
set_option linter.defProp false
set_option maxHeartbeats 8000000
noncomputable section
namespace Go.Gl
def T2 {a:Int->Nat} (h: ∀o,1<=a o) (f:Fact):1<=GL a f:=by
 rw[FD];have:=h f.op;omega
def UE (o:Int):1<=aN o:=by unfold aN;split<;>omega
def Li (o:Int):1<=aM o:=by unfold aM;split<;>omega
def qT {w:AF} {f:Fact} (h:Ae w f=true):1<=GL VE f:=by
 rw[<-OM f (Al f h)];exact YT f (Al f h)
def tR {w:AF} {x:Fact} (h:Ae w x=true) (h5:x.op=5): ∃k,x=Ca k/\Ae w k=true:=by
 obtain⟨k,hk,-⟩:=ED (Al x h) h5;rcases PH h with⟨h1,_⟩|h1|⟨_,e1,e2,e3,e4⟩
 .omega
 .simp[Le]at h1;omega
 .refine⟨k,?_,De h k (by rw[hk];exact .head _)⟩
  cases x;simp only[Fact.op,Fact.arg,Fact.path,Fact.cls,Fact.n,Fact.kids]at *;subst h5 e1 e2 e3 e4 hk;rfl
def Ub (a:Int->Nat):GL a C6=a 1:=by rw[FD];rfl
def T3 (a:Int->Nat) (k:Fact):GL a (Ca k)=a 5+GL a k:=by
 rw[FD];show a 5+(([k]:List Fact).map (GL a)).sum=_;simp
def jf {w:AF} {x:Fact} (h:Ae w x=true) (hx:x≠C6):2<=GL aM x/\2<=GL aN x:=by
 rcases PH h with⟨_,h1⟩|h1|⟨h1,_⟩
 .exact absurd h1 hx
 .have e1:aM x.op=3:=by rw[aM,if_pos h1]
  have e2:aN x.op=2:=by rw[aN,if_pos h1]
  rw[FD,FD,e1,e2];omega
 .obtain⟨k,hk⟩: ∃k,k∈x.kids:=by
   rcases h1 with h5|h6
   .obtain⟨k,hk,-⟩:=ED (Al x h) h5
    exact⟨k,by rw[hk];exact .head _⟩
   .obtain⟨k,b,hk,-⟩:=EC (Al x h) h6
    exact⟨k,by rw[hk];exact .head _⟩
  have e1:=Nd aM hk;have e2:=Nd aN hk;have:=T2 Li k;have:=T2 UE k;have:=Li x.op;have:=UE x.op;omega
def mS {w:AF} {x:Fact} (h:Ae w x=true) (hx:x≠C6) (hn:x≠Fb):3<=GL aM x:=by
 rcases PH h with⟨_,h1⟩|h1|⟨h1,_⟩
 .exact absurd h1 hx
 .have e1:aM x.op=3:=by rw[aM,if_pos h1]
  rw[FD,e1];omega
 .rcases h1 with h5|h6
  .obtain⟨k,rfl,hk⟩:=tR h h5
   have hkt:k≠C6:=fun e=>hn (by rw[e];rfl)
   have:=(jf hk hkt).1;rw[T3];have:=Li 5;omega
  .obtain⟨a,b,hk,-⟩:=EC (Al x h) h6
   rw[FD,hk];have:=T2 Li a;have:=T2 Li b;have:=Li x.op;simp only[CK,List.map_nil,List.sum_cons,List.sum_nil];omega
def OC {w:AF} {x:Fact} (h:Ae w x=true) {y:Fact} (hy:y∈LO x):GL VE y<=GL VE x/\GL aN y<=GL aN x/\GL aM y<GL aM x:=by
 have hlx:=qT h;have t1:GL VE C6=1:=by rw[Ub];rfl
 have t2:GL aN C6=1:=by rw[Ub];rfl
 have t3:GL aM C6=1:=by rw[Ub];rfl
 have n1:GL VE Fb=1:=by rw[Fb,T3,t1];rfl
 have n2:GL aN Fb=2:=by rw[Fb,T3,t2];rfl
 have n3:GL aM Fb=2:=by rw[Fb,T3,t3];rfl
 rw[LO]at hy;rcases Dn.1 hy with hy|hy
 .cases hx1:CW x C6
  .have hxt:x≠C6:=fun e=>by rw[(Ev x C6).2 e]at hx1;cases hx1
   have h2:=jf h hxt;rw[hx1,if_neg (by decide)]at hy;cases hx2:CW x Fb
   .have hxn:x≠Fb:=fun e=>by rw[(Ev x Fb).2 e]at hx2;cases hx2
    have h3:=mS h hxt hxn;rw[hx2,if_neg (by decide)]at hy;simp only[Ep,List.not_mem_nil,or_false]at hy;rcases hy with rfl|rfl
    .omega
    .omega
   .rw[hx2,if_pos rfl]at hy
    simp only[Ep,List.not_mem_nil,or_false]at hy;subst hy;omega
  .rw[hx1,if_pos rfl]at hy
   cases hy
 .have e1:=Nd VE hy
  have e2:=Nd aN hy;have e3:=Nd aM hy;have:=Li x.op;omega
def Qy {w:AF} {f g:Fact}: ∀ {l:List Nat},Pt w f l=some g-> ∃n∈l,∃y∈LO (Gk f n).1,g=(Xw y f n).1
 | [],h=>by cases h
 | n ::l,h=>by
   rw[Pt]at h;cases hs:P3 w f n with
   | none=>
     rw[hs,Option.none_or]at h;obtain⟨m,hm,r⟩:=Qy h;exact⟨m,.tail _ hm,r⟩
   | some g2=>
     rw[hs]at h;obtain rfl:g2=g:=Option.some.inj h;have:=List.mem_of_find?_eq_some hs;obtain⟨y,hy,e⟩:=GK.1 this;exact⟨n,.head _,y,hy,e.symm⟩
def ni {w:AF} {f g:Fact} (h:Ae w f=true) (hg:E6 w f=some g):Ae w g=true/\GL VE g<=GL VE f/\GL aN g<=GL aN f/\GL aM g<GL aM f:=by
 obtain⟨n,hn,y,hy,rfl⟩:=Qy hg;rw[List.mem_range]at hn;have hx:=UY (P:=Ae w) (fun f h=>De h) f h n (by omega) (by omega);rw[gD f n (by omega) (by omega)];have h1:=OC hx hy;have e1:=Vf VE y f n (by omega) (by omega);have e2:=Vf aN y f n (by omega) (by omega);have e3:=Vf aM y f n (by omega) (by omega);exact⟨YN (P:=Ae w) (fun f h=>De h) (fun f l h hl hk=>QT h hl hk) (OD hx y hy) f h n,by dsimp only;omega,by dsimp only;omega,by dsimp only;omega⟩
end Go.Gl
namespace Go.Gl
open Go.Proofs
attribute [local irreducible] As Ag AY AQ AL AX AP AR AK AW AM AN Ai Ap Sat AT An AZ W
def DN (w:AF):Nat->Fact->Fact
 | 0,f=>f
 | n+1,f=>match E6 w f with|some g=>DN w n g|none=>f
attribute [local irreducible] Fz
def MK (w:AF) (f:Fact):Bool×SN:=Rr (NV w f) f (-1,f)
def notP (f:Fact):Pure zP 262 [.a (xF f)] (.a (xF (Ca f))):=by
 refine il kZ ?_;have hs:=Sn
 conv=>whnf
 repeat'((first|apply st|(apply sq;intro K U)|(apply si;intro A B hA hB)|(refine hA _ _ ?_;clear hB B hA A)|(apply U;clear U K)|refine⟨kZ,?_⟩|refine ld ?_|refine FX fun Z hs=>?_|(intro nn hnn;generalize hg:BZ _ nn _=Z;refine GF hg fun hs=>?_;clear hg)|fail)<;>conv=>whnf)
 refine Af (.a (.cons (.refl _) (.cons (.refl _) (.cons Bm (.cons (.refl _) (.cons (.refl _) (.cons ?_ .nil)))))));refine .l (fun h=>by cases h) ?_;simp only[Ca,Fact.kids,List.map,BC];exact C2 _
def nk (w:AF) (hw:BR w) (f:Fact) (hnf:Ae w f=true) (hlf:lv f<=12) (har:arity f=true) (hcf:CC f<=100) (D:Fact->Prop) (hDf:D f) (hD: ∀y,D y->nD w f y/\ ∀k∈y.kids,D k) :
    Pure zP 186 [.rp (wC w (Ah w.parents)),.a (xF f)] (.t [.a (xF (MK w f).2.2),.b (MK w f).1]):=by
 have c1:Pure zP 262 [.a [.i .i64 1,.i .i64 0,.l [] true,.i .i64 0,.i .i64 0,.l [] true]] (.a (xF Fb)):=Pure.arg (notP C6) (.cons (.a (.cons (.refl _) (.cons (.refl _) (.cons Bm (.cons (.refl _) (.cons (.refl _) (.cons Bm .nil))))))) .nil);refine w8 kZ ?_;have hs:=Sn
 conv=>whnf
 repeat'((first|(refine Ta ?_;intro K U)|(apply si;intro A B hA hB)|(refine hA _ _ ?_;clear hB B hA A)|(apply U;clear U K)|(intro nn hnn;generalize hg:BZ _ nn _=Z;refine GF hg fun hs=>?_;clear hg)|fail)<;>conv=>whnf)
 clear hnn;generalize nn=n4 at *;refine cE ?_
 conv=>whnf
 repeat'((first|(refine Ta ?_;intro K U)|(apply si;intro A B hA hB)|(refine hA _ _ ?_;clear hB B hA A)|(apply U;clear U K)|refine FX fun Z hs=>?_|refine c1.use ?_|(intro nn hnn;generalize hg:BZ _ nn _=Z;refine GF hg fun hs=>?_;clear hg)|fail)<;>conv=>whnf)
 replace hs:=EY hs 6;refine rA hs 3 1 rfl rfl (vs2:=xF C6) (fun Z2 h=> .cons (.refl _) (.cons (.refl _) (.cons h (.cons (.refl _) (.cons (.refl _) (.cons h .nil)))))) (fun Z2 h=> .cons (.refl _) (.cons (.refl _) (.cons (.refl _) (.cons (.refl _) (.cons (.refl _) .nil))))) fun Z hs=>?_
 clear hnn;generalize nn=n7 at *
 conv=>whnf
 repeat'((first|apply st|(refine Ta ?_;intro K U)|(apply si;intro A B hA hB)|(refine hA _ _ ?_;clear hB B hA A)|(apply U;clear U K)|refine⟨kZ,?_⟩|refine MA fun Z hs=>?_|refine FX fun Z hs=>?_|(intro nn hnn;generalize hg:BZ _ nn _=Z;refine GF hg fun hs=>?_;clear hg)|fail)<;>conv=>whnf)
 replace hs:Sat Z [.box nn [eI (-1)],.box _ (xF f),.box n7 (xF Fb),.box _ (xF C6),.box n4 [.i .i64 0,.i .i64 0,.l [] true,.i .i64 0,.i .i64 0,.l [] true]]:=hs;replace hs:=Sat.front (j:=3) (Sat.front (j:=3) (Sat.front (j:=2) (Sat.front (j:=1) hs rfl) rfl) rfl) rfl;refine cE ?_
 conv=>whnf
 repeat'((first|apply st|(refine Ta ?_;intro K U)|(apply si;intro A B hA hB)|refine⟨kZ,?_⟩|fail)<;>conv=>whnf)
 refine(ln (C:=D) (sf w f) (fun y hy=>⟨(hD y hy).1.1,(hD y hy).2⟩) (fun y s hd=>nj w hw f hnf hlf har hcf _ _ _ _ y s ⟨(hD y hd.1).1,hd.2⟩) f (-1,f) ⟨hDf,by dsimp only;omega,by dsimp only;omega⟩).use (rest:=[_]) hs ?_;clear hs;rintro r post Z ⟨rfl,rfl⟩ hs;have hsp:MK w f=Rr (NV w f) f (-1,f):=rfl;generalize Rr (NV w f) f (-1,f)=q at *;obtain⟨b,i,g⟩:=q;replace hs:Sat Z [.box _ [eI i],.box _ (xF C6),.box n7 (xF Fb),.box _ (xF g),.box n4 [.i .i64 0,.i .i64 0,.l [] true,.i .i64 0,.i .i64 0,.l [] true]]:=hs
 conv=>whnf
 repeat'((first|apply st|(apply sq;intro K U)|(apply si;intro A B hA hB)|(refine hA _ _ ?_;clear hB B hA A)|(apply U;clear U K)|refine⟨kZ,?_⟩|refine ld ?_|refine FX fun Z hs=>?_|refine cE ?_|fail)<;>conv=>whnf)
 all_goals exact AG (by rw[hsp];rfl)
end Go.Gl
namespace Go.Gl
open Go.Proofs
attribute [local irreducible] As Ag AY AQ AL AX AP AR AK AW AM AN Ai Ap Sat AT An AZ W
structure mz (w:AF) (C:Fact->Prop) (M:Fact->Nat):Prop where
 node: ∀f,C f->Ae w f=true/\lv f<=12/\arity f=true/\CC f<=100/\ ∃D:Fact->Prop,D f/\ ∀y,D y->nD w f y/\ ∀k∈y.kids,D k
 step: ∀f,C f->MK w f=((E6 w f).isSome,(MK w f).2.1,(E6 w f).getD f)
 next: ∀f g,C f->E6 w f=some g->C g/\M g<M f
def XO {w:AF} {f g:Fact} (h:E6 w f=some g) (n:Nat):DN w (n+1) f=DN w n g:=by rw[DN,h]
def yi {w:AF} {C:Fact->Prop} {M:Fact->Nat} (hS:mz w C M): ∀(m:Nat) (f:Fact),C f->M f<=m-> ∀n n',M f<n->M f<n'->DN w n f=DN w n' f:=fun m=>by
 induction m with
 | zero=>
   intro f hf hm n n' h1 h2;obtain⟨a,rfl⟩: ∃a,n=a+1:=⟨n - 1,by omega⟩
   obtain⟨b,rfl⟩: ∃b,n'=b+1:=⟨n' - 1,by omega⟩
   rw[DN,DN];cases hst:E6 w f with
   | none=>rfl
   | some g=>have:=(hS.next f g hf hst).2;omega
 | succ m ih=>
   intro f hf hm n n' h1 h2;obtain⟨a,rfl⟩: ∃a,n=a+1:=⟨n - 1,by omega⟩
   obtain⟨b,rfl⟩: ∃b,n'=b+1:=⟨n' - 1,by omega⟩
   rw[DN,DN];cases hst:E6 w f with
   | none=>rfl
   | some g=>
     have:=hS.next f g hf hst
     exact ih g this.1 (by omega) a b (by omega) (by omega)
def p5 (f:Fact):arity f=true->Pure zP 187 [.a (xF f)] (.a (xF f)):=by
 induction f using Fact.ind with
 | h f ih=>
   intro har;rw[FM,A4,CF,Cu]at har;have hk2:=T8 f;have hM:=Mx;have c1:=KA f.path false;refine w7 kZ ?_;have hs:=Sn
   conv=>whnf
   repeat'((first|apply st|(apply sq;intro K U)|(apply si;intro A B hA hB)|(refine hA _ _ ?_;clear hB B hA A)|(apply U;clear U K)|refine ld ?_|refine MA fun Z hs=>?_|refine c1.use ?_|(intro nn hnn;generalize hg:BZ _ nn _=Z;refine GF hg fun hs=>?_;clear hg)|fail)<;>conv=>whnf)
   rename_i n1 _ _ _ _ _ _ _;refine B4 f.kids.length (fun k (_:V)=>[(15,eI (A7 k))]) (fun k v=>[.box nn [.i .i64 0,.i .i64 0,.l [] true,.i .i64 0,.i .i64 0,.l [] true],.box n1 [eI f.op,eI f.arg,.l (iL f.path) false,eI f.cls,eI f.n,v],.own v 6 (facts (f.kids.take k))]) (fun _ _=>True) (.l [] true) rfl trivial (EY hs 6) ?_;clear hs;rintro k v Z hk - hs;rcases A9 f.kids hk with⟨x,hx,hlt⟩|hke
   .have hck:A7 k=k:=AS (by omega)
    have hst:=AU hx;have c2:=ih x (B6 hx) (har.2 x (B6 hx));have hzl:(f.kids.take k).length<=2:=by rw[Je];omega
    generalize f.kids.take k=zs at *;have hll:zs.length<Ab/\(zs.length+1)*80<=140737488355328:=by omega
    conv=>whnf
    repeat'((first|apply st|(apply sq;intro K U)|(apply si;intro A B hA hB)|(refine hA _ _ ?_;clear hB B hA A)|(apply U;clear U K)|apply dr|refine rk ?_ ?_|exact fun s e=>by cases e;rfl|refine⟨rfl,?_⟩|refine⟨kZ,?_⟩|refine rb ?_|refine ld ?_|refine MA fun Z hs=>?_|refine FX fun Z hs=>?_|refine yZ fun v Z hs hsl=>?_|(refine NT (fun hc=>?_)<;>(try rw[hc])<;>clear hc)|refine c2.use ?_|(intro nn hnn;generalize hg:BZ _ nn _=Z;refine GF hg fun hs=>?_;clear hg)|clear U K)<;>conv=>whnf)
    exact⟨hlt,_,rfl,trivial,by rw[hst];exact hs.less (Gg _ _)⟩
   .rw[BA hke]at hs
    conv=>whnf
    repeat'((first|apply st|(apply sq;intro K U)|(apply si;intro A B hA hB)|(refine hA _ _ ?_;clear hB B hA A)|(apply U;clear U K)|refine⟨rfl,?_⟩|refine⟨kZ,?_⟩|refine ld ?_|(refine SF (fun hc=>?_)<;>(try rw[hc])<;>clear hc)|clear U K)<;>conv=>whnf)
    have o1:=FZ hs 2 rfl;refine FF hs 0 rfl rfl rfl (by simp[o1]) (by decide) fun Z hs=>?_
    clear o1
    conv=>whnf
    repeat'((first|apply st|(refine hA _ _ ?_;clear hB B hA A)|(apply U;clear U K)|refine⟨kZ,?_⟩|refine ld ?_|fail)<;>conv=>whnf)
    exact Af (.a (.cons (.refl _) (.cons (.refl _) (.cons (.refl _) (.cons (.refl _) (.cons (.refl _) (.cons (hs.MB 2 rfl) .nil)))))))
def nu (w:AF) (hw:BR w) {C:Fact->Prop} {M:Fact->Nat} (hS:mz w C M) (f:Fact) (hf:C f) (hfm:JK w f=true) (hM2:M f<200):Pure zP 110 [.a (A5 w),.a (xF f)] (.t [.a (xF (DN w 200 f)),eI 0]):=by
 have c1:Pure zP 60 [.a (A5 w),.l [xF f] true] (.t [.rp (wC w (Ah w.parents)),.b true]):=by
  have:=KY w hw [f] true (by simp);simp only[facts,CK,List.map_nil,BC,Ri,List.all_nil,Bool.and_true,hfm]at this;exact this
 have c2: ∀g,C g->Pure zP 186 [.rp (wC w (Ah w.parents)),.a (xF g)] (.t [.a (xF ((E6 w g).getD g)),.b (E6 w g).isSome]):=fun g hg=>by
  obtain⟨h1,h2,h3,h4,D,h5,h6⟩:=hS.node g hg;have:=nk w hw g h1 h2 h3 h4 D h5 h6;rw[hS.step g hg]at this;exact this
 obtain⟨Rv,hR⟩: ∃Rv,Rv=DN w 200 f:=⟨_,rfl⟩
 rw[<-hR];replace hR: ∀n,M f<n->DN w n f=Rv:=fun n hn=>by rw[hR];exact yi hS _ f hf (Ft _) _ _ hn hM2
 have hgo: ∀x g,C x->(∀n,M x<n->DN w n x=Rv)->E6 w x=some g->C g/\M g<M x/\ ∀n,M g<n->DN w n g=Rv:=fun x g hx h hst=>by
  obtain⟨h1,h2⟩:=hS.next x g hx hst
  refine⟨h1,h2,fun n hn=>?_⟩;rw[yi hS _ g h1 (Ft _) n (M x+1) hn (by omega),<-h (M x+2) (by omega),XO hst]
 have hnone: ∀x,(∀n,M x<n->DN w n x=Rv)->E6 w x=none->x=Rv:=fun x h hst=>by
  rw[<-h (M x+1) (by omega),DN,hst]
 refine xx kZ ?_;have hs:=Sn
 conv=>whnf
 repeat'((first|apply st|(apply sq;intro K U)|(apply si;intro A B hA hB)|(refine hA _ _ ?_;clear hB B hA A)|(apply U;clear U K)|refine⟨kZ,?_⟩|refine ld ?_|refine SG ?_|refine c1.use ?_|(intro nn hnn;generalize hg:BZ _ nn _=Z;refine GF hg fun hs=>?_;clear hg)|fail)<;>conv=>whnf)
 refine Pure.use (c2 f hf) ?_;rename_i n3 _ _ _
 conv=>whnf
 repeat'((first|apply st|(apply sq;intro K U)|(refine hA _ _ ?_;clear hB B hA A)|(apply U;clear U K)|refine FX fun Z hs=>?_|fail)<;>conv=>whnf)
 refine Ff (fun x:Fact×Bool=>if x.2 then M x.1+1 else 0) (fun x=>[(8,.b x.2)]) (fun x=>[.box nn [.i .i64 0,.i .i64 0,.l [] true,.i .i64 0,.i .i64 0,.l [] true],.box n3 (xF x.1)]) (fun x=>C x.1/\(∀n,M x.1<n->DN w n x.1=Rv)/\(x.2=false->E6 w x.1=none)) ((E6 w f).getD f,(E6 w f).isSome) rfl ?_ hs ?_
 .cases hst:E6 w f with
  | none=>exact⟨hf,hR,fun _=>hst⟩
  | some g=>
    obtain⟨h1,h2,h3⟩:=hgo f g hf hR hst;exact⟨h1,h3,fun h=>by cases h⟩
 clear hs;rintro⟨x,b⟩ Z ⟨hx,hxn,hxf⟩ hs;dsimp only at hx hxn hxf hs;dsimp only;cases b
 .have hxR:=hnone x hxn (hxf rfl)
  have c3:=p5 x (hS.node x hx).2.2.1
  conv=>whnf
  repeat'((first|apply st|(apply sq;intro K U)|(apply si;intro A B hA hB)|(refine hA _ _ ?_;clear hB B hA A)|(apply U;clear U K)|refine⟨kZ,?_⟩|refine ld ?_|refine FX fun Z hs=>?_|refine c3.use ?_|clear U K)<;>conv=>whnf)
  all_goals exact AG (by rw[<-hxR];rfl)
 .have c3:=c2 x hx
  cases hst:E6 w x with
  | none=>
    rw[hst]at c3;dsimp only[Option.getD,Option.isSome]at c3
    conv=>whnf
    repeat'((first|apply st|(apply sq;intro K U)|(apply si;intro A B hA hB)|(refine hA _ _ ?_;clear hB B hA A)|(apply U;clear U K)|refine⟨kZ,?_⟩|refine ld ?_|refine FX fun Z hs=>?_|refine c3.use ?_|clear U K)<;>conv=>whnf)
    all_goals exact⟨(x,false),by simp,rfl,⟨hx,hxn,fun _=>hst⟩,hs⟩
  | some g=>
    rw[hst]at c3;dsimp only[Option.getD,Option.isSome]at c3;obtain⟨h1,h2,h3⟩:=hgo x g hx hxn hst
    conv=>whnf
    repeat'((first|apply st|(apply sq;intro K U)|(apply si;intro A B hA hB)|(refine hA _ _ ?_;clear hB B hA A)|(apply U;clear U K)|refine⟨kZ,?_⟩|refine ld ?_|refine FX fun Z hs=>?_|refine c3.use ?_|clear U K)<;>conv=>whnf)
    all_goals exact⟨(g,true),by simp;omega,rfl,⟨h1,h3,fun h=>by cases h⟩,hs⟩
attribute [local irreducible] Fz
def F3 (p:Prog) (l:List Int):List Fact:=(l.filter fun m=>(BY p m).kind==1).map fun m=>(BY p m).fact
def MM (p:Prog) (gen:Int):Fact:=if(F3 p (Bu p gen)).isEmpty then .mk 1 0 [] 0 0 []else Ca (Zf 7 (F3 p (Bu p gen)))
def Y0 (p:Prog) (l:List Int) (x:Int):F3 p (l++[x])=if(BY p x).kind==1 then F3 p l++[(BY p x).fact]else F3 p l:=by
 rw[F3,List.filter_append];cases h:(BY p x).kind==1<;>simp[F3,h]
def Ss (p:Prog) (l:List Int):(F3 p l).length<=l.length:=by
 rw[F3,Bc];exact TZ _ _
end Go.Gl
namespace Go.Gl
open Go.Proofs
attribute [local irreducible] As Ag AY AQ AL AX AP AR AK AW AM AN Ai Ap Sat AT An AZ W
def gY (w:AF) (f:Fact):Prop:= ∃C M,mz w C M/\C f/\M f<200/\ ∀g,C g->sg w g
def Mu (p:Prog) (gen:Int):Fact×Int:=if C5 p gen then(if(Bu p gen).length<=8 then(if Ba (AH p) (MM p gen)then(DN (AH p) 200 (MM p gen),0)else(Ju,3))else(Ju,3))else(Ju,2)
end Go.Gl
namespace Go.Gl
def Si {w:AF} {f:Fact} (h:Ae w f=true): ∀(d k:Nat),k+d=CC f->
    (X2 (NV w f) ((Ph f).drop k) ((k:Int) - 1,f)).1=(Pt w f ((List.range (CC f)).drop k)).isSome/\(X2 (NV w f) ((Ph f).drop k) ((k:Int) - 1,f)).2.2=(Pt w f ((List.range (CC f)).drop k)).getD f
 | 0,k,hk=>by
   rw[List.drop_of_length_le (by rw[QO];omega),List.drop_of_length_le (by rw[zrC];omega)];exact⟨rfl,rfl⟩
 | d + 1,k,hk=>by
   have hlt:k<CC f:=by omega
   have hx:=UY (P:=Ae w) (fun f h=>De h) f h k (by omega) (by omega);have hr:(List.range (CC f))[k]? =some k:=List.getElem?_range hlt
   have hc:(IG (Gk f (k:Int)).1).map (fun y=>MD y f ((k:Int) - 1+1))=(LO (Gk f (k:Int)).1).map fun y=>(Xw y f (k:Int)).1:=by
    rw[bg hx];refine List.map_congr_left fun y _=>?_
    rw[gD f k (by omega) (by omega),Int.sub_add_cancel]
   have he:NV w f (Gk f (k:Int)).1 ((k:Int) - 1,f)=match P3 w f k with|some g=>(true,((k:Int) - 1+1,g))|none=>(false,((k:Int) - 1+1,f)):=by
    rw[NV,P3,<-hc];dsimp only;cases List.find? (YA w f) ((IG (Gk f (k:Int)).1).map fun y=>MD y f ((k:Int) - 1+1))<;>rfl
   rw[drop_cons (oJ f k hlt),drop_cons hr,X2,Pt,he];cases hs:P3 w f k with
   | some g=>exact⟨rfl,rfl⟩
   | none=>
     have:=Si h d (k+1) (by omega);rw[show(((k+1:Nat):Int) - 1)=(k:Int) - 1+1 by omega]at this;rw[Option.none_or];exact this
def j8 {w:AF} {f:Fact} (h:Ae w f=true):MK w f=((E6 w f).isSome,(MK w f).2.1,(E6 w f).getD f):=by
 have:=Si h (CC f) 0 (by omega);rw[List.drop_zero,List.drop_zero]at this;have e:MK w f=X2 (NV w f) (Ph f) ((0:Nat) - 1,f):=by rw[MK,sb];rfl
 rw[e]at *;exact Prod.ext this.1 (Prod.ext rfl this.2)
def RA {most:Int}: ∀(l:List Fact) (n:Int),(∀k∈l,∀m:Int,(CC k:Int)<=m->B5 k m=CC k)->n+DI l<=most->DD (l.map B5) n most=n+DI l
 | [],n,_,_=>by rw[FL];simp[DD]
 | k::l,n,hk,h=>by
   rw[DR]at *;have:=Ec l;rw[CK,DD,if_pos (by omega),hk k (.head _) (most - n) (by omega),RA l _ (fun x hx=>hk x (.tail _ hx)) (by omega)];omega
def Y5 (f:Fact): ∀m:Int,(CC f:Int)<=m->B5 f m=CC f:=by
 induction f using Fact.ind with
 | h f ih=>
   intro m hm;rw[D4]at *;rw[Ig,RA f.kids 1 ih hm]
def az {w:AF} {x:Fact} (h:Ae w x=true):x.kids.length<=2:=by
 have:=Al x h;rw[FM,A4,CF]at this;rw[this.1];exact T8 x
def tL {w:AF} {f x:Fact} (hf:Ae w f=true) (hl:lv f<=12) (hx:Ae w x=true) (hlx:lv x<=12):nD w f x:=by
 refine⟨az hx,fun y hy=>?_⟩;rw[bg hx]at hy;have hyn:=OD hx y hy;refine⟨Al y hyn,fun n=>?_⟩;have hs:=YN (P:=Ae w) (fun f h=>De h) (fun f l h hl hk=>QT h hl hk) hyn f hf n;refine⟨hs,?_⟩;by_cases hi:0<=n/\n<CC f
 .have h1:=Vf VE y f n hi.1 hi.2
  have h2:=(OC hx hy).1;rw[OM _ (Al _ hs)];rw[OM _ (Al _ hf)]at hl;rw[OM _ (Al _ hx)]at hlx;omega
 .rw[Tx f n (by omega)]
  omega
def mH {w:AF} {f:Fact} (hf:Ba w f=true) (hn:B5 f 24<=12):gY w f:=by
 simp only[Ba,A4,B7]at hf;have hnf:=hf.2.2
 have hcf:CC f<=12:=by
  have:=G3 f 24 (by omega) (by omega);omega
 have hS:mz w (fun g=>Ae w g=true/\GL VE g<=12/\GL aN g<=24) (GL aM):=by
  refine⟨fun g ⟨h1,h2,h3⟩=>?_,fun g ⟨h1,_,_⟩=>j8 h1,fun g g2 ⟨h1,h2,h3⟩ hg=>?_⟩
  .have hl:lv g<=12:=by rw[OM g (Al g h1)];exact h2
   have hc:CC g<=1*GL aN g:=by rw[P9];exact Vg (fun o=>by have:=UE o;omega) g
   refine⟨h1,hl,Al g h1,by omega,fun x=>Ae w x=true/\lv x<=12,⟨h1,hl⟩,fun y ⟨hy,hly⟩=>⟨tL h1 hl hy hly,fun k hk=>⟨De hy k hk,?_⟩⟩⟩;have e:=Nd VE hk;rw[OM _ (Al _ hy)]at hly;rw[OM _ (Al _ (De hy k hk))];omega
  .have:=ni h1 hg
   exact⟨⟨this.1,by omega,by omega⟩,this.2.2.2⟩
 refine⟨_,_,hS,⟨hnf,?_,?_⟩,?_,fun g ⟨h1,h2,h3⟩=>?_⟩
 .have:=Vg (a:=VE) (b:=fun _=>1) (c:=1) (fun o=>by unfold VE;split<;>(try split)<;>omega) f
  rw[<-P9]at this;omega
 .have:=Vg (a:=aN) (b:=fun _=>1) (c:=2) (fun o=>by unfold aN;split<;>omega) f
  rw[<-P9]at this;omega
 .have:=Vg (a:=aM) (b:=fun _=>1) (c:=3) (fun o=>by unfold aM;split<;>omega) f
  rw[<-P9]at this;omega
 .obtain⟨n1,n2,n3,n4,-⟩:=hS.node g ⟨h1,h2,h3⟩
  have hc:CC g<=1*GL aN g:=by rw[P9];exact Vg (fun o=>by have:=UE o;omega) g
  refine⟨h1,n2,n3,Y5 g 24 (by omega),by omega,fun n hn=>?_⟩;have hx:=UY (P:=Ae w) (fun f h=>De h) g h1 n (by omega) (by omega);refine⟨az hx,fun y hy=>?_⟩;rw[gD g n (by omega) (by omega)];have hs:=YN (P:=Ae w) (fun f h=>De h) (fun f l h hl hk=>QT h hl hk) (OD hx y hy) g h1 n;refine⟨hs,?_⟩;have e1:=Vf VE y g n (by omega) (by omega);have e2:=(OC hx hy).1;rw[OM _ (Al _ hs)];omega
end Go.Gl
namespace Go.Gl
open Go.Proofs
attribute [local irreducible] As Ag AY AQ AL AX AP AR AK AW AM AN Ai Ap Sat AT An AZ W
def rf (p:Prog) (c:Int):Bool:=decide (1<=c)&&decide (c<3+(p.AO.length:Int))
def VQ (p:Prog) (gen:Int) (cs:List Int):Bool:=((cs.length:Int)==p.Ce.getD gen.toNat 0)&&cs.all (rf p)
def qB {p:Prog} {gen:Int} {cs:List Int} (h:C5 p gen=true) (hc:VQ p gen cs=true):(∀c∈cs,1<=c/\c<3+((AH p).parents.length:Int))/\cs.length<=3:=by
 rw[C5,A4,R2,A4,B7,B7]at h;rw[VQ,A4,CF,Cu]at hc;have hl:(AH p).parents.length=p.AO.length:=by simp[AH,Ay]
 refine⟨fun c hm=>?_,?_⟩
 .have:=hc.2 c hm
  rw[rf,A4,B7,B7]at this;rw[hl];exact this
 .obtain⟨hh,-⟩:=Ex h.1
  simp only[C8,A4,B7,Cu]at hh;have hlt:gen.toNat<p.Ce.length:=by omega
  have:=hh.2.2.2.2.2 _ (List.getElem_mem hlt);have e:p.Ce.getD gen.toNat 0=p.Ce[gen.toNat]:=by rw[Cq,Cd hlt];rfl
  rw[e]at hc;omega
def qF (p:Prog) (h10:p.AO.length<=10) (c:Int):Pure zP 103 [eI c,.rp (BF p)] (.b (!rf p c)):=by
 have ec:((p.AO.map MG).length:Int)=p.AO.length:=by simp
 have hw:IntKind.i64.wrap (3+(p.AO.length:Int))=3+(p.AO.length:Int):=wrap64 (by omega) (by omega);rw[rf];refine x5 kZ ?_;have hs:=Sn
 conv=>whnf
 repeat'((first|clear U K|apply st|(apply zk;intro K U)|refine zY ?_|refine za (fun hc=>?_) fun hc=>?_|fail)<;>conv=>whnf)
 .refine AG ?_
  rw[ec,hw,decide_eq_true (show 1<=c by omega),Cc];show V.b (decide (c≥3+(p.AO.length:Int)))=_;congr 1;rw[Hl];simp
 .exact AG (by rw[decide_eq_false (show¬1<=c by omega)];rfl)
def qG (p:Prog) (gen:Int) (cs:List Int) (f:Bool) (h:C5 p gen=true):Pure zP 101 [.a (O6 p gen),.rp [.l (iL cs) f],.rp (BF p),.rp [eI gen]] (.b (VQ p gen cs)):=by
 have h2:=h;rw[C5,A4,R2,A4,B7,B7]at h2;have c1:Pure zP 102 [.l (iL cs) f,.f (.func 103) [] [.rp (BF p)]] (.b (cs.any fun c=> !rf p c)):=JV f fun y _=>qF p (UC h2.1) y
 have hlt:gen.toNat<p.Ce.length:=by omega
 have hg:p.Ce[gen.toNat]? =some (p.Ce.getD gen.toNat 0):=by rw[Cq,Cd hlt];rfl
 have ecs:((iL cs).length:Int)=cs.length:=by simp
 have hn:cs.all (rf p)= !cs.any fun c=> !rf p c:=List.all_eq_not_any_not
 rw[VQ,hn];generalize p.Ce.getD gen.toNat 0=n at *;refine x6 kZ ?_;have hs:=Sn
 conv=>whnf
 repeat'((first|clear U K|apply st|(apply zk;intro K U)|refine zY ?_|refine zC ?_|(refine zd (fun hc=>?_) (fun hc=>?_)<;>try exact⟨⟩)|fail)<;>conv=>whnf)
 .exact AG (by rw[CF.2 (show(cs.length:Int)=n by omega)];rfl)
 .exact AG (by rw[beq_eq_false_iff_ne.2 (show(cs.length:Int)≠n by omega)];rfl)
abbrev nP (p:Prog) (gen:Int) (cs:List Int):V:= .t [if La p gen (VQ p gen cs)=0 then .l ((E7 p gen (X4 (AH p) cs)).map Tg) false else .l [] true,eI (La p gen (VQ p gen cs))]
def y1 (p:Prog) (gen:Int) (cs:List Int) (f:Bool):Pure zP 39 [.a (BF p),eI gen,.l (iL cs) f] (nP p gen cs):=by
 have c1:=Lg p gen 101 [.rp [.l (iL cs) f],.rp (BF p),.rp [eI gen]] (VQ p gen cs) (fun h=>qG p gen cs f h);rw[nP];cases h1:C5 p gen
 .rw[(Et h1 _).1,(Et h1 _).2]at c1
  rw[(Et h1 _).2];refine Zt kZ ?_;have hs:=Sn;exact zW
 cases h2:VQ p gen cs
 .rw[h2,JP.1,JP.2]at c1
  rw[JP.2];refine Zt kZ ?_;have hs:=Sn;exact zW
 rw[h2,(EK h1).1,(EK h1).2]at c1;rw[(EK h1).2];by_cases h8:(Bu p gen).length<=8
 .have hl:=h1
  rw[C5,A4]at hl;have hw:=(look_ok hl.1).mh;have hcs:=qB h1 h2;have c2:=YM (gen:=gen) (ms:=Bu p gen) hl.1 cs f;have c3:=Um (fun l hl=>IK hw fun x hx=>EB (hl x hx)) (gO hw hcs.1) h1 h8 (O9 _ (LL hl.1) cs f hcs.2);rw[if_pos h8]at c1 ⊢;rw[if_pos rfl];refine Zt kZ ?_;have hs:=Sn
  conv=>whnf
  repeat'((first|clear U K|apply st|(apply zk;intro K U)|refine zY ?_|refine rk ?_ ?_|exact fun s e=>by cases e;rfl|refine zs fun Z hs=>?_|refine zC ?_|(refine zb (fun hc=>?_) (fun hc=>?_)<;>try exact⟨⟩)|refine zo fun nn hnn Z hs=>?_|fail)<;>conv=>whnf)
  all_goals exact AG rfl
 .rw[if_neg h8]at c1 ⊢
  rw[if_neg (by decide)];refine Zt kZ ?_;have hs:=Sn;exact zW
end Go.Gl
namespace Go.Gl
def Fa (B:Int):List Int->Option (List Int)
 | []=>none
 | c::r=>match Fa B r with
   | some r'=>some (c::r')
   | none=>if c+1<B then some ((c+1)::List.replicate r.length 1)else none
def FU (B:Int) (cs:List Int):Prop:= ∀c∈cs,1<=c/\c<B
def O2 (B:Int):List Int->Nat
 | []=>0
 | c::r=>(B - c).toNat*B.toNat ^ r.length+O2 B r
def rh:List Int->List Int->Prop
 | x::xs,c::cs=>c<x\/(x=c/\rh xs cs)
 | _,_=>True
def Ws: ∀x:List Int,(∀c∈x,1<=c)->rh x (List.replicate x.length 1)
 | [],_=>trivial
 | c::r,h=>by
   have h1:=h c (List.mem_cons_self ..);by_cases hc:c=1
   .exact .inr ⟨hc,Ws r fun y hy=>h y (List.mem_cons_of_mem _ hy)⟩
   .exact .inl (by omega)
def Ls {B:Int} (hB:1<B) (n:Nat):FU B (List.replicate n 1):=fun c hc=>by
 rw[List.mem_replicate]at hc;omega
def Kc {B:Int}: ∀ {cs cs':List Int},FU B cs->Fa B cs=some cs'->FU B cs'/\cs'.length=cs.length
 | [],_,_,h=>by cases h
 | c ::r,cs',hk,h=>by
   have hc:=hk c (List.mem_cons_self ..);have hr:FU B r:=fun y hy=>hk y (List.mem_cons_of_mem _ hy)
   rw[Fa]at h;cases h1:Fa B r with
   | some r'=>
     rw[h1]at h;simp only[Gh]at h;subst h;obtain⟨g1,g2⟩:=Kc hr h1;refine⟨fun y hy=>?_,by simp[g2]⟩;rcases Ep.1 hy with rfl|hy
     .exact hc
     .exact g1 y hy
   | none=>
     rw[h1]at h;simp only at h;split at h
     .simp only[Gh]at h
      subst h;refine⟨fun y hy=>?_,by simp⟩;rcases Ep.1 hy with rfl|hy
      .omega
      .exact Ls (by omega) _ y hy
     .cases h
def br {B:Int}: ∀ {cs:List Int},FU B cs->O2 B cs<B.toNat ^ cs.length
 | [],_=>by simp[O2]
 | c::r,hk=>by
   have hc:=hk c (List.mem_cons_self ..);have ih:=br (cs:=r) fun y hy=>hk y (List.mem_cons_of_mem _ hy)
   rw[O2,HH,Nat.pow_succ];have h1:(B - c).toNat+1<=B.toNat:=by omega
   have h2:=SE (B.toNat ^ r.length) h1;rw[Nat.add_mul,Nat.one_mul]at h2;rw[Nat.mul_comm (B.toNat ^ r.length)];omega
def UX {B:Int}: ∀ {cs cs':List Int},FU B cs->Fa B cs=some cs'->O2 B cs'<O2 B cs
 | [],_,_,h=>by cases h
 | c ::r,cs',hk,h=>by
   have hc:=hk c (List.mem_cons_self ..);have hr:FU B r:=fun y hy=>hk y (List.mem_cons_of_mem _ hy)
   rw[Fa]at h;cases h1:Fa B r with
   | some r'=>
     rw[h1]at h;simp only[Gh]at h;subst h;have:=UX hr h1;rw[O2,O2,(Kc hr h1).2];omega
   | none=>
     rw[h1]at h;simp only at h;split at h
     .simp only[Gh]at h
      subst h;have h2:=br (Ls (B:=B) (by omega) r.length);rw[List.length_replicate]at h2;rw[O2,O2,List.length_replicate];have e:(B - c).toNat=(B - (c+1)).toNat+1:=by omega
      rw[e,Nat.add_mul,Nat.one_mul];omega
     .cases h
def aZ {B:Int}: ∀ {cs x:List Int},x.length=cs.length->FU B cs->FU B x->rh x cs->x=cs\/ ∃cs',Fa B cs=some cs'/\rh x cs'
 | [],[],_,_,_,_=> .inl rfl
 | [],_::_,h,_,_,_=>by cases h
 | _::_,[],h,_,_,_=>by cases h
 | c ::r,y::xs,hl,hk,hx,hg=>by
   have hl:xs.length=r.length:=by simpa using hl
   have hr:FU B r:=fun z hz=>hk z (List.mem_cons_of_mem _ hz)
   have hxs:FU B xs:=fun z hz=>hx z (List.mem_cons_of_mem _ hz)
   have hy:=hx y (List.mem_cons_self ..);rw[Fa];have hg:c<y\/(y=c/\rh xs r):=hg;rcases hg with hg|⟨he,hg⟩
   .right
    cases h1:Fa B r with
    | some r'=>exact⟨_,rfl,Or.inl hg⟩
    | none=>
      simp only;rw[if_pos (by omega)];refine⟨_,rfl,?_⟩;by_cases e:y=c+1
      .exact Or.inr ⟨e,by rw[<-hl];exact Ws xs fun z hz=>(hxs z hz).1⟩
      .exact Or.inl (by omega)
   .rcases aZ (cs:=r) (x:=xs) hl hr hxs hg with e|⟨r',h1,h2⟩
    .exact .inl (by rw[he,e])
    .exact .inr ⟨c::r',by rw[h1],(Or.inr ⟨he,h2⟩:c<y\/(y=c/\rh xs r'))⟩
inductive Dz (B:Int) (E:List Int->Bool):List Int->List Int->Prop
 | here {cs:List Int}:E cs=true->Dz B E cs cs
 | there {cs cs' R:List Int}:E cs=false->Fa B cs=some cs'->Dz B E cs' R->Dz B E cs R
def Dz.now {B:Int} {E:List Int->Bool} {cs R:List Int} (h:Dz B E cs R) (he:E cs=true):R=cs:=by
 cases h with
 | here _=>rfl
 | there h1 _ _=>rw[h1]at he;cases he
def Dz.later {B:Int} {E:List Int->Bool} {cs R:List Int} (h:Dz B E cs R) (he:E cs=false): ∃cs',Fa B cs=some cs'/\Dz B E cs' R:=by
 cases h with
 | here h1=>rw[h1]at he;cases he
 | there _ h2 h3=>exact⟨_,h2,h3⟩
def Dz.has {B:Int} {E:List Int->Bool} {cs R:List Int} (h:Dz B E cs R):E R=true:=by
 induction h with
 | here h1=>exact h1
 | there _ _ _ ih=>exact ih
def Dz.row {B:Int} {E:List Int->Bool} {cs R:List Int} (h:Dz B E cs R):FU B cs->FU B R/\R.length=cs.length:=by
 induction h with
 | here h1=>exact fun h=>⟨h,rfl⟩
 | there _ h2 _ ih=>
   intro hk;obtain⟨g1,g2⟩:=Kc hk h2;obtain⟨g3,g4⟩:=ih g1;exact⟨g3,g4.trans g2⟩
def Dz.some {B:Int} {E:List Int->Bool} {x:List Int} (hx:FU B x) (he:E x=true): ∀(n:Nat) (cs:List Int),O2 B cs<n->x.length=cs.length->FU B cs->rh x cs-> ∃R,Dz B E cs R
 | 0,_,h,_,_,_=>by omega
 | n + 1,cs,hn,hl,hk,hg=>by
   cases h1:E cs with
   | true=>exact⟨_,.here h1⟩
   | false=>
     rcases aZ hl hk hx hg with rfl|⟨cs',h2,h3⟩
     .rw[h1]at he;cases he
     .obtain⟨g1,g2⟩:=Kc hk h2
      obtain⟨R,hR⟩:=Dz.some hx he n cs' (by have:=UX hk h2;omega) (hl.trans g2.symm) g1 h3;exact⟨R,.there h1 h2 hR⟩
def WU {B:Int} {t t':List Int} (h:Fa B t=some t'): ∀pre:List Int,Fa B (pre++t)=some (pre++t')
 | []=>h
 | c::r=>by rw[List.cons_append,Fa,WU h r];rfl
def k7 {B c:Int} {r:List Int} (h:Fa B r=none) (hc:c+1<B) (pre:List Int):Fa B (pre++c::r)=some (pre++(c+1)::List.replicate r.length 1):=
 WU (by rw[Fa,h];simp only;rw[if_pos hc]) pre
def kz {B c:Int} {r:List Int} (h:Fa B r=none) (hc: ¬c+1<B):Fa B (c::r)=none:=by
 rw[Fa,h];simp only;rw[if_neg hc]
def VA (cs:List Int) (k:Nat):List Int:=cs.take (cs.length - k)++List.replicate k 1
def zL (cs:List Int):VA cs 0=cs:=by simp[VA]
def oO {cs:List Int} {k:Nat} (hk:k<=cs.length):(VA cs k).length=cs.length:=by simp[VA];omega
def tI {cs:List Int} {k:Nat} {c:Int} (hk:k<cs.length) (hc:cs[cs.length - 1 - k]? =some c):(VA cs k)[cs.length - 1 - k]? =some c:=by
 rw[VA,X1 (by simp;omega),List.getElem?_take_of_lt (by omega)];exact hc
def aQ {cs:List Int} {k:Nat} (hk:k<cs.length) (y:Int):(VA cs k).set (cs.length - 1 - k) y=cs.take (cs.length - 1 - k)++y::List.replicate k 1:=by
 have e:cs.take (cs.length - k)=cs.take (cs.length - 1 - k)++[cs[cs.length - 1 - k]]:=by
  rw[show cs.length - k=cs.length - 1 - k+1 by omega,List.take_succ_eq_append_getElem (by omega)]
 have e2:(cs.take (cs.length - 1 - k)).length=cs.length - 1 - k:=by rw[Je];omega
 rw[VA,e,LC,List.set_append_right _ _ (by rw[e2];exact Ft _),e2,Nat.sub_self];rfl
def kX {cs:List Int} {k:Nat} (hk:k<cs.length):(VA cs k).set (cs.length - 1 - k) 1=VA cs (k+1):=by
 rw[aQ hk,VA,List.replicate_succ,show cs.length - (k+1)=cs.length - 1 - k by omega]
def bX {cs:List Int} {k:Nat} {c:Int} (hk:k<cs.length) (hc:cs[cs.length - 1 - k]? =some c):cs.drop (cs.length - (k+1))=c::cs.drop (cs.length - k):=by
 have h1:cs.length - 1 - k<cs.length:=by omega
 rw[Cd h1,Gh]at hc;rw[show cs.length - (k+1)=cs.length - 1 - k by omega,List.drop_eq_getElem_cons h1,hc,show cs.length - 1 - k+1=cs.length - k by omega]
def kW {B:Int} {cs:List Int} {k:Nat} {c:Int} (hk:k<cs.length) (hc:cs[cs.length - 1 - k]? =some c) (hn:Fa B (cs.drop (cs.length - k))=none) (hB:c+1<B) :
    Fa B cs=some ((VA cs k).set (cs.length - 1 - k) (c+1)):=by
 have h:=k7 hn hB (cs.take (cs.length - 1 - k))
 have e:cs.take (cs.length - 1 - k)++c::cs.drop (cs.length - k)=cs:=by
  rw[<-bX hk hc,show cs.length - (k+1)=cs.length - 1 - k by omega,List.take_append_drop]
 rw[e]at h;rw[h,aQ hk];simp only[yN];rw[show cs.length - (cs.length - k)=k by omega]
def tH {B:Int} {cs:List Int} {k:Nat} {c:Int} (hk:k<cs.length) (hc:cs[cs.length - 1 - k]? =some c) (hn:Fa B (cs.drop (cs.length - k))=none) (hB: ¬c+1<B) :
    Fa B (cs.drop (cs.length - (k+1)))=none:=by
 rw[bX hk hc];exact kz hn hB
def VD (n:Nat):Nat->Int
 | 0=>IntKind.i64.wrap ((n:Int) - 1)
 | k+1=>IntKind.i64.wrap (VD n k - 1)
def iY {n:Nat} (hn:n<=1000): ∀k,k<=n->VD n k=(n:Int) - 1 - k
 | 0,_=>by rw[VD,wrap64 (by omega) (by omega)];omega
 | k+1,h=>by
   rw[VD,iY hn k (by omega),wrap64 (by omega) (by omega)];omega
end Go.Gl
namespace Go.Gl
open Go.Proofs
attribute [local irreducible] As Ag AY AQ AL AX AP AR AK AW AM AN Ai Ap Sat AT An AZ W
end Go.Gl
namespace Go.Gl
open Go.Proofs
def zF {p:Prog} {gen:Int} {togX togR:List Fact->Bool} {OK:(Int->Er)->Prop} (hX: ∀l,(∀x∈l,DS (AH p) x)->(togX l=true↔ ∃M,OK M/\ ∀x∈l,E4 (AH p) M x))
    (hR: ∀l,(∀x∈l,DS (AH p) x)->(togR l=true↔ ∃M,OK M/\ ∀x∈l,E4 (AH p) M x)) (hn: ∀f∈Fi p gen,Ae (AH p) f=true) :
    ((H8 p togX (Bu p gen)).map fun s=>(F5 (Bu p gen) s,Zd p (F5 (Bu p gen) s)))=E7 p gen togR:=by
 have hE: ∀l,DK togX (E5 p (Bu p gen)) l=cW togR (Fi p gen) l:=fun l=>by
  rw[Hl];exact(K1 hX hn l).trans (M8 hR hn l).symm
 obtain⟨h1,-⟩:=P7 (so:=fun s n=>DK togX (E5 p (Bu p gen)) (Bw s n)) (E:=DK togX (E5 p (Bu p gen))) (Bu p gen).length 0 0 (by decide) (fun s n _=>rfl);rw[GZ,I9 hE]at h1;rw[E7,show([]:List Bool)=Bw 0 0 from rfl,<-h1,rV];rfl
section
variable {g:FuncId} {fi ca:List V} {p:Prog} {gen:Int} {ms:List Int} {tog:List Fact->Bool}
abbrev Rt (q:Nat->Bool) (y:Nat) (_:Bool):Bool×Bool:=(q y,!q y)
def jT (q:Nat->Bool): ∀l:List Nat,By (Rt q) l false=(l.all q,!l.all q)
 | []=>rfl
 | y::r=>by
   rw[By,Ri];cases hq:q y
   .simp[Rt,hq]
   .simpa[Rt,hq]using jT q r
def qs (q:Nat->Bool) {Q:Nat->Prop}: ∀l:List Nat,(∀y∈l,Q y)->OH (Rt q) (fun y s=>Q y/\s=false) l false
 | [],_=>trivial
 | y::r,h=>⟨⟨h y (.head _),rfl⟩,fun hy=>by
   have hq:q y=true:=hy;have:=qs q r fun z hz=>h z (.tail _ hz)
   simpa[Rt,hq]using this⟩
attribute [local irreducible] As Ag AY AQ AL AX AP AR AK AW AM AN Ai Ap Sat AT An AZ W
end
attribute [local irreducible] As Ag AY AQ AL AX AP AR AK AW AM AN Ai Ap Sat AT An AZ W
end Go.Gl
namespace Go.Gl
open Go.Proofs
def yx (xs:List (List Int×Int)) (st0:Int):Bool:=xs.any fun x=>x.2==st0
attribute [local irreducible] As Ag AY AQ AL AX AP AR AK AW AM AN Ai Ap Sat AT An AZ W
end Go.Gl
namespace Go.Gl
open Go.Proofs
abbrev rm (p:Prog) (gen:Int):Int:=p.Ce.getD gen.toNat 0
def yC {p:Prog} {gen:Int} (h:C5 p gen=true):p.Ce[gen.toNat]? =some (rm p gen)/\1<=rm p gen/\rm p gen<=3/\0<=gen:=by
 rw[C5,A4,R2,A4,B7,B7]at h;obtain⟨hh,-⟩:=Ex h.1;simp only[C8,A4,B7,Cu]at hh;have hlt:gen.toNat<p.Ce.length:=by omega
 have:=hh.2.2.2.2.2 _ (List.getElem_mem hlt);have e:rm p gen=p.Ce[gen.toNat]:=by rw[rm,Cq,Cd hlt];rfl
 rw[e];exact⟨Cd hlt,this.1,this.2,h.2.1⟩
def wpl (p:Prog):(AH p).parents.length=p.AO.length:=by simp[AH,Ay]
attribute [local irreducible] As Ag AY AQ AL AX AP AR AK AW AM AN Ai Ap Sat AT An AZ W
def qX (sv:Int):Bool:=decide (1<=sv)&&decide (sv<=4)
def Pn (p:Prog) (gen sv:Int) (cs:List Int):Bool:=yx (E7 p gen (X4 (AH p) cs)) sv
def T7 (p:Prog) (gen sv:Int) (R:List Int):Prop:=La p gen (qX sv)=0->Pn p gen sv []=true->Dz (3+(p.AO.length:Int)) (Pn p gen sv) (List.replicate (rm p gen).toNat 1) R
def ff (p:Prog) (gen sv:Int) (R:List Int):V:=if La p gen (qX sv)=0 then(if Pn p gen sv []then .t [.l (iL R) false,eI 0]else .t [.l [] true,eI 5])else .t [.l [] true,eI (La p gen (qX sv))]
end Go.Gl
