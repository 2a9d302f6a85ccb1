import Derived.Test.YtnidfcmdimehdaaGreatU14
import Derived.Test.YtnidfcmdimehdaaGreatU27
import Derived.Test.YtnidfcmdimehdaaGreatU28
import Derived.Test.YtnidfcmdimehdaaGreatU32
import Derived.Test.YtnidfcmdimehdaaGreatU37
set_option linter.all false
set_option linter.defProp false
set_option maxHeartbeats 8000000
noncomputable section
namespace Go.Gl
open Go.Proofs
def K1.len {es es':List Bx} (h:K1 es es'):es.length<=es'.length:=by
 obtain⟨n,rfl,_⟩:=h;simp
attribute [local irreducible] As Af AV AQ AI AU AP AR AJ AT AM AN Ag Ar Sat AS Ap AX W
def TK (w : AE) (hw:CS w) {kf:Int->List Int->Kn} (hr:EM w kf) {a:Int} {p:List Int} (hp:p.length<=2) (can:Int->Bool) {L:Nat}
    (hcan: ∀s∈(kf a p).AL,∀es,Bp kf es->BL zP 94 [.a (gv w (BR w.parents) L),CC a (p++[s])] (Bm L es) fun r post=>r= .ret (.b (can s))/\G9 kf L es post) {es:List Bx} (h:Bp kf es) :
    BL zP 94 [.a (gv w (BR w.parents) L),CC a p] (Bm L es) fun r post=>r= .ret (.b (GA kf a p||(DV kf a p||VH w kf a p can)))/\G9 kf L es post:=by
 intro Z hs;have hM:=Mx;have c1:=x2 w hr h (L:=L) (a:=a) hp;have c2:=fun {es} (h:Bp kf es)=>pT w hr h (L:=L) (a:=a) hp
 have hu:qN (BR w.parents):=Gi _ _ (by have:=hw.1.1;omega);have hul:(BR w.parents).length=3+w.parents.length:=Dc _ _;have hwp:=hw.1.1;have hP:VH w kf a p can=(!(Dw w kf a p).testBit 1&&(!(Dw w kf a p).testBit 2&&Rz w kf a p (Bj (BR w.parents) w.parents.length (Dw w kf a p)) can)):=rfl;have hMu:Dw w kf a p=(kf a p).AL.foldl (fun m s=>if(kf a (p++[s])).Ab then m|||2 ^ (Bb w s).toNat else m) ((kf a p).BJ|||2 ^ 0):=rfl;have hobj:=fun up hup es (hi:Bp kf es)=>Z8 w hw (BR w.parents) hr hp up hup 94 [.a (gv w (BR w.parents) L)] [] can (L:=L) hcan (es:=es) hi
 generalize BR w.parents=us at *;generalize VH w kf a p can=R at *;generalize Dw w kf a p=MU at *;cases hI:GA kf a p<;>rw[hI]at c1
 rotate_left
 .refine fL kZ ?_
  refine zz ?_;(repeat clear U K);repeat intro K U
  refine c1.use (rest:=[]) (by simpa using hs) ?_;clear hs;rintro r post Z ⟨rfl,es2,hx2,hi2,rfl⟩ hs;rw[EU]at hs;refine zz ?_;(repeat clear U K);repeat intro K U
  exact AH ⟨_,⟨rfl,es2,hx2,hi2,rfl⟩,hs⟩
 cases hN:DV kf a p<;>rw[hN]at c2
 rotate_left
 .refine fL kZ ?_
  refine zz ?_;(repeat clear U K);repeat intro K U
  refine c1.use (rest:=[]) (by simpa using hs) ?_;clear hs;rintro r post Z ⟨rfl,es2,hx2,hi2,rfl⟩ hs;rw[EU]at hs;refine zz ?_;(repeat clear U K);repeat intro K U
  refine(c2 hi2).use (rest:=[]) (by simpa using hs) ?_;clear hs;rintro r post Z ⟨rfl,es3,hx3,hi3,rfl⟩ hs;rw[EU]at hs;refine zz ?_;(repeat clear U K);repeat intro K U
  exact AH ⟨_,⟨rfl,es3,hx2.trans hx3,hi3,rfl⟩,hs⟩
 rw[Bool.false_or,Bool.false_or];refine fL kZ ?_;refine zz ?_;(repeat clear U K);repeat intro K U
 refine c1.use (rest:=[]) (by simpa using hs) ?_;clear hs;rintro r post Z ⟨rfl,es2,hx2,hi2,rfl⟩ hs;rw[EU]at hs;refine zz ?_;(repeat clear U K);repeat intro K U
 refine(c2 hi2).use (rest:=[]) (by simpa using hs) ?_;clear hs;rintro r post Z ⟨rfl,es3,hx3,hi3,rfl⟩ hs;rw[EU]at hs;clear c1 c2;refine zz ?_;(repeat clear U K);repeat intro K U
 refine(lH w us hi3 (a:=a) (p:=p) hp).use (rest:=[]) (by simpa using hs) ?_;clear hs;rintro r post Z ⟨es4,e4,got,rfl,rfl⟩ hs;have hx4:=(hx2.trans hx3).trans got.ext;have hek:=got.k;obtain⟨pre,post,rfl⟩:=List.append_of_mem got.mem;rw[EU]at hs;replace hs:=He (X:=[]) (L:=L) (pre:=pre) (post:=post) (e:=e4) (s:=[]) (by simpa using hs);have hok:=hr.ok a p;have hsl:=(hr.ok a p).2.2.2;have hsh:=hr.short a p;have hsw:=hr.AL a p;rw[<-hek]at hok hsl hsh hsw hcan hMu;have hi4:=got.inv;clear got;have c3:=o6 e4.k.BJ 0 hok.1 (by decide);have hm0:e4.k.BJ|||2 ^ 0<18446744073709551616:=H3 hok.1 (Ge (by decide))
 conv=>whnf
 repeat'((first|clear U K|apply st|(apply zk;intro K U)|refine zY ?_|refine zC ?_|fail)<;>conv=>whnf)
 refine Ba e4.k.AL.length (fun k (x:Nat×List Bx)=>[(34,eI (Au k)),(6,eU x.1)]) (fun k x=> .own e4.vs 1 (iL e4.k.AL)::dv L pre post e4 x.2) (fun k x=>x.1<18446744073709551616/\(Bp kf (pre++e4::(post++x.2))/\ ∀y∈x.2,y.k=k0)/\MU=(e4.k.AL.drop k).foldl (fun m s=>if(kf a (p++[s])).Ab then m|||2 ^ (Bb w s).toNat else m) x.1) (e4.k.BJ|||2 ^ 0,[]) rfl ⟨hm0,⟨by simpa using hi4,by simp⟩,hMu⟩ hs ?_;clear hs hMu hm0 c3 hi4;rintro k ⟨m,new⟩ Z hk ⟨hm,⟨hinv,hnew⟩,hF⟩ hs;dsimp only at hm hinv hnew hF hs;have hck:Au k=k:=AW (by omega);rcases Aw e4.k.AL hk with⟨s,hsk,hlt⟩|hke
 .have hsm:=BY hsk
  have hp2:p.length<2:=by
   rcases Nat.lt_or_ge p.length 2 with h'|h'
   .exact h'
   .rw[hsh h']at hsm;cases hsm
  obtain⟨hs0,hs1⟩:=hsw s hsm;obtain⟨o,ho⟩: ∃o,w.owner[s.toNat]? =some o:=⟨_,CQ (by omega)⟩
  have hoI:Bb w s=o:=by simp only[Bb,Co,ho];rfl
  obtain⟨ho1,ho2⟩:=hw.2.2 o (BY ho);rw[drop_cons hsk,List.foldl_cons,hoI]at hF;have c3:=LQ m o hm (by omega) (by omega)
  conv=>whnf
  repeat'((first|clear U K|apply st|(apply zk;intro K U)|refine zY ?_|refine rk ?_ ?_|exact fun s e=>by cases e;rfl|refine ze fun x hx=>?_|refine Pure.use (MT a p _ hp2) ?_|fail)<;>conv=>whnf)
  obtain rfl:x=s:=by rw[hck,FZ,hsk]at hx;exact(Option.some.inj hx).symm
  refine(lH w us hinv (a:=a) (p:=p++[x]) (by simp;omega)).use (rest:=[]) (by simpa using HO (X:=[]) (by simpa using hs)) ?_;clear hs;rintro r post' Z ⟨es5,e5,got5,rfl,rfl⟩ hs;have hek5:=congrArg Kn.Ab got5.k;obtain⟨newA,heA,hnA⟩:=got5.ext;obtain⟨pre5,post5,he5⟩:=List.append_of_mem got5.mem;have e7:es5=pre++e4::(post++(new++newA)):=by rw[heA];simp
  have hi7:=got5.inv;rw[e7]at hi7;have hn7: ∀y∈new++newA,y.k=k0:=fun y hy=>(Du.1 hy).elim (hnew y) (hnA y)
  rw[EU,he5]at hs;replace hs:=Jp (X:=[]) hs;have hob:2 ^ o.toNat<18446744073709551616:=Ge (by omega);cases hnx:(kf a (p++[x])).Ab<;>rw[hnx]at hek5 hF<;>rw[hek5]at hs
  all_goals
   conv=>whnf
   repeat'((first|clear U K|apply st|(apply zk;intro K U)|refine zY ?_|refine zC ?_|fail)<;>conv=>whnf)
   have hs3:Sat Z (Bm L (pre++e4::(post++(new++newA)))):=by
    rw[<-hek5]at hs;have h3:=Dj (X:=[]) (e:=e5) (e':=e5) rfl rfl rfl hs;rw[<-he5,e7]at h3;exact h3
  .exact⟨hlt,(m,new++newA),rfl,⟨hm,⟨hi7,hn7⟩,by rw[hF];rfl⟩,He (X:=[]) hs3⟩
  .exact⟨hlt,(m|||2 ^ o.toNat,new++newA),rfl,⟨H3 hm hob,⟨hi7,hn7⟩,by rw[hF];rfl⟩,He (X:=[]) hs3⟩
 .rw [Ad hke,List.foldl_nil]at hF
  subst hF;have d1:=qo MU 1 hm (by decide);have d2:=qo MU 2 hm (by decide);have hsc: ∀ {Z:AD},Sat Z (.own e4.vs 1 (iL e4.k.AL)::dv L pre post e4 new)->Sat Z (Bm L (pre++e4::(post++new))):=fun h=>HO (X:=[]) h
  have hx5:K1 es (pre++e4::(post++new)):=hx4.trans ⟨new,by simp,hnew⟩;cases hb1:MU.testBit 1<;>rw[hb1]at d1 hP
  rotate_left
  .conv=>whnf
   repeat'((first|clear U K|apply st|(apply zk;intro K U)|refine zY ?_|refine d1.use ?_|fail)<;>conv=>whnf)
   all_goals try(exfalso;omega)
   exact AH ⟨_,⟨by rw[hP];rfl,_,hx5,hinv,rfl⟩,hsc hs⟩
  cases hb2:MU.testBit 2<;>rw[hb2]at d2 hP
  rotate_left
  .conv=>whnf
   repeat'((first|clear U K|apply st|(apply zk;intro K U)|refine zY ?_|refine d1.use ?_|refine d2.use ?_|fail)<;>conv=>whnf)
   all_goals try(exfalso;omega)
   exact AH ⟨_,⟨by rw[hP];rfl,_,hx5,hinv,rfl⟩,hsc hs⟩
  conv=>whnf
  repeat'((first|clear U K|apply st|(apply zk;intro K U)|refine zY ?_|refine d1.use ?_|refine d2.use ?_|fail)<;>conv=>whnf)
  all_goals try(exfalso;omega)
  clear hke hck hk d1 d2 k;rw[Bool.not_false,Db,Db]at hP;have eul:((us.map fun u=>[eU u]).length:Int)=us.length:=by simp
  refine Ba us.length (fun k (x:Nat)=>[(73,eI (Au k)),(6,eU x)]) (fun _ _=> .own e4.vs 1 (iL e4.k.AL)::dv L pre post e4 new) (fun k x=>x<18446744073709551616/\x=Bj us (k - 3) MU) MU rfl ⟨hm,rfl⟩ hs ?_;clear hs;rintro k x Z hk ⟨hx64,hxe⟩ hs;have hck:Au k=k:=AW (by omega);rcases Aw us hk with⟨u,huk,hlt⟩|hke
  .have hbt:Bj us (k+1 - 3) MU=if 3<=k/\x.testBit k then x|||u else x:=by
    rcases Nat.lt_or_ge k 3 with h3|h3
    .rw[if_neg (fun h=>by omega),hxe,show k+1 - 3=k - 3 by omega]
    .obtain⟨j,rfl⟩: ∃j,k=3+j:=⟨k - 3,by omega⟩
     have eu:us.getD (3+j) 0=u:=by rw[Co,huk];rfl
     rw[show 3+j+1 - 3=j+1 by omega,Bj,show 3+j - 3=j by omega]at *;rw[<-hxe,eu];by_cases hb:x.testBit (3+j)=true
     .rw[if_pos hb,if_pos ⟨by omega,hb⟩]
     .rw[if_neg hb,if_neg (fun h=>hb h.2)]
   have hu64:u<18446744073709551616:=hu u (BY huk);have huc:us[(Au k).toNat]? =some u:=by rw[hck,FZ];exact huk
   have d1:=ZV x (Au k) hx64 (by omega) (by omega);have ekk:(Au k).toNat=k:=by rw[hck,FZ]
   rw[ekk]at d1;cases hbk:x.testBit k<;>rw[hbk]at d1 hbt
   .rw[if_neg (fun h=>by cases h.2)]at hbt
    conv=>whnf
    repeat'((first|clear U K|apply st|(apply zk;intro K U)|refine zY ?_|refine d1.use ?_|(refine zd (fun hc=>?_) (fun hc=>?_)<;>try exact⟨⟩)|fail)<;>conv=>whnf)
    all_goals exact⟨hlt,x,rfl,⟨hx64,hbt.symm⟩,hs⟩
   .by_cases h3:3<=k
    .rw[if_pos ⟨h3,rfl⟩]at hbt
     conv=>whnf
     repeat'((first|clear U K|apply st|(apply zk;intro K U)|refine zY ?_|refine d1.use ?_|(refine zb (fun hc=>?_) (fun hc=>?_)<;>try exact⟨⟩)|fail)<;>conv=>whnf)
     all_goals try(exfalso;omega)
     all_goals exact⟨hlt,x|||u,by rw[HP hx64 hu64];rfl,⟨H3 hx64 hu64,hbt.symm⟩,hs⟩
    .rw[if_neg (fun h=>h3 h.1)]at hbt
     conv=>whnf
     repeat'((first|clear U K|apply st|(apply zk;intro K U)|refine zY ?_|(refine zb (fun hc=>?_) (fun hc=>?_)<;>try exact⟨⟩)|fail)<;>conv=>whnf)
     all_goals try(exfalso;omega)
     all_goals exact⟨hlt,x,rfl,⟨hx64,hbt.symm⟩,hs⟩
  .have hke3:k - 3=w.parents.length:=by omega
   rw[hke3]at hxe;rw[<-hxe]at hP;refine zz ?_;(repeat clear U K);repeat intro K U
   refine(hobj x hx64 _ hinv).use (rest:=[]) (by simpa using hsc hs) ?_;clear hs;rintro r post' Z ⟨rfl,es6,hx6,hi6,rfl⟩ hs;rw[EU]at hs;refine zz ?_;(repeat clear U K);repeat intro K U
   exact AH ⟨_,⟨by rw[hP],es6,hx5.trans hx6,hi6,rfl⟩,hs⟩
def oW (w:AE) (hw:CS w) {kf:Int->List Int->Kn} (hr:EM w kf) (a:Int) {L:Nat}: ∀(d:Nat) (p:List Int),p.length+d=2-> ∀es,Bp kf es->
    BL zP 94 [.a (gv w (BR w.parents) L),CC a p] (Bm L es) fun r post=>r= .ret (.b (R4 w kf a d p))/\G9 kf L es post:=by
 intro d
 induction d with
 | zero=>
   intro p hp es h;rw[R4];exact TK w hw hr (by omega) _ (fun s hs=>by rw[hr.short a p (by omega)]at hs;cases hs) h
 | succ d ih=>
   intro p hp es h;rw[R4];exact TK w hw hr (by omega) _ (fun s _ es h=>ih (p++[s]) (by simp;omega) es h) h
end Go.Gl
namespace Go.Gl
open Go.Proofs
attribute [local irreducible] As Af AV AQ AI AU AP AR AJ AT AM AN Ag Ar Sat AS Ap AX W
def pR (w : AE) (ls:List Fact) (a:Int) (p:List Int) (c:Int) (can:Int->Bool) (hokL: ∀l∈ls,E0 l) (hln:ls.length<=1000000) (hw:Ig w) (hcl:MC w ls) (hc3:3<=c) (hcn:c<3+(w.parents.length:Int)) (hp:p.length<50)
    (hcan: ∀s∈BM w.owner.length ls a p,Pure zP 304 [.a (FI w ls a (p++[s]) true)] (.b (can s))):Pure zP 307 [.a (FI w ls a p true),eI c] (.b (ZM w ls a p can c)):=by
 refine Pure.fit (by kernel_rfl) fun hf=>?_
 have⟨h1,h2,h3,h4⟩:=F2 hf.1;have hM:=Mx;have hwl:=hw.len;have c1:=ZQ w ls a p true hokL hln;have c2:=QD w ls a p true hokL (by omega);have hfl:=NI (Fq a p) ls
 have hfl2:(BM w.owner.length ls a p).length<=w.owner.length:=by
  have:=NI (fun s=>ls.any (Xo a p s)) (BE w.owner.length);rw[Cj]at this;exact this
 have hok: ∀l∈ls.filter (Fq a p),E0 l:=fun l hl=>hokL l (Ia.1 hl).1
 have hclo: ∀l∈ls.filter (Fq a p),(Ac l).1.op=2->0<=(Ac l).1.cls/\(Ac l).1.cls<3+w.parents.length:=fun l hl=>hcl l (Ia.1 hl).1
 have hV:ZM w ls a p can c=((ls.filter (Fq a p)).all (fun l=> !stepOf w c (Ac l))&&(BM w.owner.length ls a p).all fun s=>if hasB w c s then can s else DB ls a (p++[s])):=rfl;generalize ZM w ls a p can c=R at *;generalize ls.filter (Fq a p)=os at *;have hin: ∀s∈BM w.owner.length ls a p,0<=s/\s<(w.owner.length:Int):=fun s h=>Fi h
 generalize BM w.owner.length ls a p=sl at *;refine tS kZ ?_;have hs:=Sn
 conv=>whnf
 repeat'((first|clear U K|apply st|(apply zk;intro K U)|refine zY ?_|refine zC ?_|fail)<;>conv=>whnf)
 refine Ba os.length (fun k (_:Unit)=>[(16,eI (Au k))]) (fun _ _=>[]) (fun k _=>R=((os.drop k).all (fun l=> !stepOf w c (Ac l))&&sl.all fun s=>if hasB w c s then can s else DB ls a (p++[s]))) () rfl hV (hs.less (Ie _)) ?_;clear hs hV;rintro k - Z hk hn hs;rcases Aw os hk with⟨x,hx,hlt⟩|hke
 .rw [drop_cons hx,Jd]at hn
  have c3:=Gk x (hok x (BY hx));have hcx:=hclo x (BY hx);generalize Ac x=y at *;obtain⟨f,b⟩:=y;dsimp only at c3 hcx hn;by_cases h2:f.op=2
  .have c4:=Wr w c f.cls (by omega) hw.ord (by omega) hcn (hcx h2).1 (hcx h2).2
   have e:stepOf w c (f,b)=(Jk w.parents c f.cls==b):=by
    show((f.op==2&&Jk w.parents c f.cls)==b)=_;rw[Cd.2 h2,Db]
   rw[e]at hn;clear e;cases hB:Jk w.parents c f.cls<;>cases b<;>rw[hB]at c4 hn
   all_goals
    conv=>whnf
    repeat'((first|clear U K|apply st|(apply zk;intro K U)|refine zY ?_|refine zs fun Z hs=>?_|refine zC ?_|(refine zb (fun hc=>?_) (fun hc=>?_)<;>try exact⟨⟩)|refine zo fun nn hnn Z hs=>?_|fail)<;>conv=>whnf)
    all_goals try(exfalso;simp[h2]at hc;done)
    all_goals first
     | exact AF (by rw[hn];rfl)
     | exact⟨hlt,(),rfl,by rw[hn];rfl,hs.less (Ie _)⟩
  .have e:stepOf w c (f,b)=(false==b):=by
    show((f.op==2&&Jk w.parents c f.cls)==b)=_;rw[beq_eq_false_iff_ne.2 h2,Bool.false_and]
   rw[e]at hn;clear e;cases b
   all_goals
    conv=>whnf
    repeat'((first|clear U K|apply st|(apply zk;intro K U)|refine zY ?_|refine zs fun Z hs=>?_|refine zC ?_|(refine zb (fun hc=>?_) (fun hc=>?_)<;>try exact⟨⟩)|refine zo fun nn hnn Z hs=>?_|fail)<;>conv=>whnf)
    all_goals try(exfalso;simp[h2]at hc;done)
    all_goals first
     | exact AF (by rw[hn];rfl)
     | exact⟨hlt,(),rfl,by rw[hn];rfl,hs.less (Ie _)⟩
 .rw [Ad hke,List.all_nil,Db]at hn
  conv=>whnf
  repeat'((first|clear U K|apply st|(apply zk;intro K U)|refine zY ?_|refine zC ?_|fail)<;>conv=>whnf)
  clear hke hk;refine Ba sl.length (fun k (_:Unit)=>[(43,eI (Au k))]) (fun _ _=>[]) (fun k _=>R=(sl.drop k).all fun s=>if hasB w c s then can s else DB ls a (p++[s])) () rfl hn hs ?_;clear hs hn;rintro k - Z hk hn hs;rcases Aw sl hk with⟨s,hsk,hlt⟩|hke
  .rw [drop_cons hsk,Jd]at hn
   have hsm:=BY hsk;have hi:=hin s hsm;have c5:=Io w ls a p true s (by omega);have c6:=gI w c s hw (by omega) hcn hi.1 hi.2;have c7:=hcan s hsm;have c8:=Ur w ls a (p++[s]) true hokL;cases hA:hasB w c s<;>rw[hA]at c6 hn
   .rw [if_neg (by decide)]at hn
    cases hB:DB ls a (p++[s])<;>rw[hB]at c8 hn
    all_goals
     conv=>whnf
     repeat'((first|clear U K|apply st|(apply zk;intro K U)|refine zY ?_|refine zs fun Z hs=>?_|refine c5.use ?_|refine c6.use ?_|refine c8.use ?_|refine zo fun nn hnn Z hs=>?_|fail)<;>conv=>whnf)
     all_goals first
      | exact AF (by rw[hn];rfl)
      | exact⟨hlt,(),rfl,by rw[hn];rfl,hs.less (Ie _)⟩
   .rw [if_pos rfl]at hn
    cases hB:can s<;>rw[hB]at c7 hn
    all_goals
     conv=>whnf
     repeat'((first|clear U K|apply st|(apply zk;intro K U)|refine zY ?_|refine zs fun Z hs=>?_|refine c5.use ?_|refine c6.use ?_|refine c7.use ?_|refine zo fun nn hnn Z hs=>?_|fail)<;>conv=>whnf)
     all_goals first
      | exact AF (by rw[hn];rfl)
      | exact⟨hlt,(),rfl,by rw[hn];rfl,hs.less (Ie _)⟩
  .rw[Ad hke]at hn
   refine zz ?_;(repeat clear U K);repeat intro K U
   all_goals exact AF (by rw[hn];rfl)
def QE {n k:Nat} (h:k<n):(BE n)[k]? =some (k:Int):=by
 rw[BE,JV,List.getElem?_range h];rfl
def TM (w : AE) (ls:List Fact) (a:Int) (p:List Int) (can:Int->Bool) (hokL: ∀l∈ls,E0 l) (hln:ls.length<=1000000) (hw:Ig w) (hcl:MC w ls) (hsm:HZ ls) (hp:p.length<40)
    (hcan: ∀s∈BM w.owner.length ls a p,Pure zP 304 [.a (FI w ls a (p++[s]) true)] (.b (can s))):Pure zP 304 [.a (FI w ls a p true)] (.b (((F9 ls a p).isSome&&DX w.owner.length ls a p)||(Ey w.owner.length ls a p||(BE w.parents.length).any fun c=>ZM w ls a p can (3+c)))):=by
 have hM:=Mx;have hwl:=hw.len;have c1:=I2 w ls a p true hokL hln (by omega) hsm;rw[PH]at c1;have c2:=PD w ls a p true hokL hln (by omega);have hO:=fun c h3 hn=>pR w ls a p c can hokL hln hw hcl h3 hn (by omega) hcan
 have e2:((EF w.parents).length:Int)=w.parents.length:=by simp
 cases hA:(F9 ls a p).isSome&&DX w.owner.length ls a p<;>cases hB:Ey w.owner.length ls a p<;>rw[hA]at c1<;>rw[hB]at c2
 rotate_left
 .refine Ng kZ ?_
  have hs:=Sn;exact zW
 .refine Ng kZ ?_
  have hs:=Sn;exact zW
 .refine Ng kZ ?_
  have hs:=Sn;exact zW
 .rw [Bool.false_or,Bool.false_or]
  generalize hR:((BE w.parents.length).any fun c=>ZM w ls a p can (3+c))=R;refine Ng kZ ?_;have hs:=Sn
  conv=>whnf
  repeat'((first|clear U K|apply st|(apply zk;intro K U)|refine zY ?_|refine zC ?_|fail)<;>conv=>whnf)
  refine Ba w.parents.length (fun k (_:Unit)=>[(24,eI (Au k))]) (fun _ _=>[]) (fun k _=>R=((BE w.parents.length).drop k).any fun c=>ZM w ls a p can (3+c)) () rfl hR.symm (hs.less (Ie _)) ?_;clear hs hR;rintro k - Z hk hn hs;have hck:Au k=k:=AW (by omega);by_cases hlt:k<w.parents.length
  .rw [drop_cons (QE hlt),Oj]at hn
   have c3:=hO (3+(k:Int)) (by omega) (by omega);have hw3:IntKind.i64.wrap (3+Au k)=3+(k:Int):=by rw[hck,wrap64 (by omega) (by omega)]
   rw[<-hw3]at c3;generalize hO':ZM w ls a p can (3+(k:Int))=B at *;rw[hw3,hO']at c3;rw[<-hw3]at c3;cases B
   all_goals
    conv=>whnf
    repeat'((first|clear U K|apply st|(apply zk;intro K U)|refine zY ?_|(refine fc (fun x hx hlt hc=>?_) (fun hk hc=>?_)<;>(try rw[hc])<;>clear hc)|refine zC ?_|fail)<;>conv=>whnf)
    all_goals try(exfalso;omega)
    all_goals first
     | exact AF (by rw[hn];rfl)
     | exact⟨hlt,(),rfl,by rw[hn];rfl,hs.less (Ie _)⟩
  .rw[List.drop_of_length_le (by rw[Cj];omega)]at hn
   conv=>whnf
   repeat'((first|clear U K|apply st|(apply zk;intro K U)|refine zY ?_|(refine fc (fun x hx hlt hc=>?_) (fun hk hc=>?_)<;>(try rw[hc])<;>clear hc)|fail)<;>conv=>whnf)
   all_goals try(exfalso;omega)
   all_goals exact AF (by rw[hn];rfl)
def bF (w:AE) (ls:List Fact) (a:Int) (hokL: ∀l∈ls,E0 l) (hln:ls.length<=1000000) (hw:Ig w) (hcl:MC w ls) (hsm:HZ ls) (hsh:NV ls 2): ∀(d:Nat) (p:List Int),p.length+d=2->Pure zP 304 [.a (FI w ls a p true)] (.b (Ox w ls a d p)):=by
 intro d
 induction d with
 | zero=>
   intro p hp;rw[Ox];exact TM w ls a p _ hokL hln hw hcl hsm (by omega) (by rw[IM hsh (by omega)];intro s hs;cases hs)
 | succ d ih=>
   intro p hp;rw[Ox];exact TM w ls a p _ hokL hln hw hcl hsm (by omega) fun s _=>ih (p++[s]) (by simp;omega)
def mF (w : AE) (ls:List Fact) (cs:List Int) (g:Bool) (hokL: ∀l∈ls,E0 l) (hln:ls.length<=1000000) (hw:Ig w) (hcl:MC w ls) (hsm:HZ ls) (hsh:NV ls 2) (hcs: ∀c∈cs,1<=c/\c<3+(w.parents.length:Int)) (hc3:cs.length<=3) :
    Pure zP 268 [.a (Ax w),.l (facts ls) false,.l (iL cs) g] (.b (Kx w cs ls)):=by
 have hM:=Mx;have hT:Kx w cs ls=(BE 3).all (bU w ls cs):=rfl;generalize Kx w cs ls=R at *;refine tu kZ ?_;have hs:=Sn;refine zz ?_;(repeat clear U K);repeat intro K U
 refine Ba 3 (fun k (_:Unit)=>[(7,eI (k:Int))]) (fun _ _=>[]) (fun k _=>R=((BE 3).drop k).all (bU w ls cs)) () rfl hT hs ?_;clear hs;rintro k - Z hk hn hs;rcases Nat.lt_or_ge k 3 with hlt|hge
 .rw [drop_cons (QE hlt),Jd]at hn
  have hwk:IntKind.i64.wrap ((k:Int)+1)=((k+1:Nat):Int):=by rw[wrap64 (by omega) (by omega)];omega
  have d1:=fun(_:Nat)=>bF w ls (k:Int) hokL hln hw hcl hsm hsh 2 [] rfl
  have d2:=I2 w ls (k:Int) [] true hokL hln (by simp) hsm;rw[PH]at d2;have d3:=PD w ls (k:Int) [] true hokL hln (by simp);rw[bU]at hn;by_cases hle:(cs.length:Int)<=(k:Int)
  .rw [if_pos (.inl hle)]at hn
   generalize Ox w ls (k:Int) 2 []=B at *;cases B
   all_goals
    conv=>whnf
    repeat'((first|clear U K|apply st|(apply zk;intro K U)|refine zY ?_|refine zs fun Z hs=>?_|refine Pure.LO (d1 k) (.cons (.a (.cons (.refl _) (.cons (.refl _) (.cons (.refl _) (.cons (.refl _) (.cons BS (.cons (.refl _) .nil))))))) .nil) rfl ?_|(refine zb (fun hc=>?_) (fun hc=>?_)<;>try exact⟨⟩)|refine zo fun nn hnn Z hs=>?_|fail)<;>conv=>whnf)
    all_goals try(exfalso;simp at hc;omega)
    all_goals first
     | exact AF (by rw[hn];rfl)
     | exact⟨hlt,(),by rw[hwk];rfl,by rw[hn];rfl,hs.less (Ie _)⟩
  .obtain ⟨x,hx⟩: ∃x,cs[k]? =some x:=⟨_,CQ (by omega)⟩
   have hx2:cs[((k:Nat):Int).toNat]? =some x:=by rw[FZ];exact hx
   have hxd:cs.getD ((k:Nat):Int).toNat 0=x:=by rw[FZ,Co,hx];rfl
   have hxc:=hcs x (BY hx);rw[hxd,if_neg (by omega)]at hn;have d4:=fun h3=>pR w ls (k:Int) [] x (fun s=>Ox w ls (k:Int) 1 [s]) hokL hln hw hcl h3 hxc.2 (by simp) fun s _=>bF w ls (k:Int) hokL hln hw hcl hsm hsh 1 [s] rfl
   by_cases h1:x=1
   .rw [if_pos h1]at hn
    generalize ((F9 ls (k:Int) []).isSome&&DX w.owner.length ls (k:Int) [])=B at *;cases B
    all_goals
     conv=>whnf
     repeat'((first|clear U K|apply st|(apply zk;intro K U)|refine zY ?_|refine zs fun Z hs=>?_|refine Pure.LO d2 (.cons (.a (.cons (.refl _) (.cons (.refl _) (.cons (.refl _) (.cons (.refl _) (.cons BS (.cons (.refl _) .nil))))))) .nil) rfl ?_|(refine zb (fun hc=>?_) (fun hc=>?_)<;>try exact⟨⟩)|refine zo fun nn hnn Z hs=>?_|fail)<;>conv=>whnf)
     all_goals try(exfalso;simp at hc;omega)
     all_goals first
      | exact AF (by rw[hn];rfl)
      | exact⟨hlt,(),by rw[hwk];rfl,by rw[hn];rfl,hs.less (Ie _)⟩
   .rw [if_neg h1]at hn
    by_cases h2:x=2
    .rw [if_pos h2]at hn
     generalize Ey w.owner.length ls (k:Int) []=B at *;cases B
     all_goals
      conv=>whnf
      repeat'((first|clear U K|apply st|(apply zk;intro K U)|refine zY ?_|refine zs fun Z hs=>?_|refine Pure.LO d3 (.cons (.a (.cons (.refl _) (.cons (.refl _) (.cons (.refl _) (.cons (.refl _) (.cons BS (.cons (.refl _) .nil))))))) .nil) rfl ?_|(refine zb (fun hc=>?_) (fun hc=>?_)<;>try exact⟨⟩)|refine zo fun nn hnn Z hs=>?_|fail)<;>conv=>whnf)
      all_goals try(exfalso;simp at hc;omega)
      all_goals first
       | exact AF (by rw[hn];rfl)
       | exact⟨hlt,(),by rw[hwk];rfl,by rw[hn];rfl,hs.less (Ie _)⟩
    .rw [if_neg h2]at hn
     replace d4:=d4 (by omega);generalize ZM w ls (k:Int) [] (fun s=>Ox w ls (k:Int) 1 [s]) x=B at *;cases B
     all_goals
      conv=>whnf
      repeat'((first|clear U K|apply st|(apply zk;intro K U)|refine zY ?_|refine zs fun Z hs=>?_|refine Pure.LO d4 (.cons (.a (.cons (.refl _) (.cons (.refl _) (.cons (.refl _) (.cons (.refl _) (.cons BS (.cons (.refl _) .nil))))))) (.cons (.refl _) .nil)) rfl ?_|(refine zb (fun hc=>?_) (fun hc=>?_)<;>try exact⟨⟩)|refine zo fun nn hnn Z hs=>?_|fail)<;>conv=>whnf)
      all_goals try(exfalso;simp at hc;omega)
      all_goals first
       | exact AF (by rw[hn];rfl)
       | exact⟨hlt,(),by rw[hwk];rfl,by rw[hn];rfl,hs.less (Ie _)⟩
 .rw[List.drop_of_length_le (by rw[Cj];omega)]at hn
  conv=>whnf
  repeat'((first|clear U K|apply st|(apply zk;intro K U)|refine zY ?_|(refine zb (fun hc=>?_) (fun hc=>?_)<;>try exact⟨⟩)|fail)<;>conv=>whnf)
  all_goals try(exfalso;omega)
  all_goals exact AF (by rw[hn];rfl)
end Go.Gl
namespace Go.Gl
open Go.Proofs
def V9 {w:AE} (hw:CS w) {ls:List Fact} (h: ∀x∈ls,C1 w x) (hlen:ls.length<900):EM w (kg ls):=by
 have hadd:=MV (by have:=hw.1.1;omega) h;have hr:=Zu hw h hlen;have hW: ∀x∈ls,Di w x:=fun x hx=>Dr (h x hx)
 refine⟨fun a p=>?_,fun a p=>?_,fun a p hpl=>?_,fun a p s hs=>fG hW hs⟩
 .obtain⟨h1,h2,h3,h4⟩:=gE hadd a p
  exact⟨h1,h2,by omega,by omega⟩
 .rw[(KW (Gf ls a p).core).1]
  exact hr.low a p
 .have h0:=hr.short a p hpl
  refine List.eq_nil_iff_forall_not_mem.2 fun s hs=>?_
  have:=((Gf ls a p).AL s).1 hs;rw[h0]at this;cases this
attribute [local irreducible] As Af AV AQ AI AU AP AR AJ AT AM AN Ag Ar Sat AS Ap AX W
def Vo {kf:Int->List Int->Kn} {L:Nat} (g:FuncId) (fi ca:List V) (can:Int->Bool) (hcan: ∀a:Int,0<=a->a<3-> ∀es,Bp kf es->BL zP g (fi++[CC a []]++ca) (Bm L es) fun r post=>r= .ret (.b (can a))/\G9 kf L es post) {es:List Bx} (h:Bp kf es) :
    BL zP 92 [.f (.func g) fi ca] (Bm L es) fun r post=>r= .ret (.b ((BE 3).all can))/\G9 kf L es post:=by
 intro Z hs;have hM:=Mx;have hT:(BE 3).all can=(BE 3).all can:=rfl;generalize hR:(BE 3).all can=R at hT ⊢;refine yr kZ ?_;refine zz ?_;(repeat clear U K);repeat intro K U
 refine Ba 3 (fun k (_:List Bx)=>[(4,eI (Au k))]) (fun _ x=>Bm L x) (fun k x=>(Bp kf x/\K1 es x)/\R=((BE 3).drop k).all can) es rfl ⟨⟨h,.refl _⟩,hR.symm⟩ hs ?_;clear hs hR hT;rintro k x Z hk ⟨⟨hi,hx⟩,hn⟩ hs;have hck:Au k=k:=AW (by omega);rcases Nat.lt_or_ge k 3 with hlt|hge
 .rw[drop_cons (QE hlt),Jd]at hn
  have hc1:=hcan (Au k) (by omega) (by omega) x hi;have e:can (Au k)=can (k:Int):=by rw[hck]
  rw[e]at hc1;cases hB:can (k:Int)<;>rw[hB]at hn hc1
  all_goals
   conv=>whnf
   repeat'((first|clear U K|apply st|(apply zk;intro K U)|refine zY ?_|(refine zb (fun hc=>?_) (fun hc=>?_)<;>try exact⟨⟩)|fail)<;>conv=>whnf)
   refine A6 (hc1.use (rest:=[]) (by simpa using hs) ?_);clear hs;rintro r post Z ⟨rfl,es2,hx2,hi2,rfl⟩ hs;rw[EU]at hs;refine zz ?_;(repeat clear U K);repeat intro K U
  .exact AH ⟨_,⟨by rw[hn];rfl,es2,hx.trans hx2,hi2,rfl⟩,hs⟩
  .exact⟨hlt,es2,rfl,⟨⟨hi2,hx.trans hx2⟩,by rw[hn];rfl⟩,hs⟩
 .rw[List.drop_of_length_le (by rw[Cj];omega)]at hn
  conv=>whnf
  repeat'((first|clear U K|apply st|(apply zk;intro K U)|refine zY ?_|(refine zb (fun hc=>?_) (fun hc=>?_)<;>try exact⟨⟩)|fail)<;>conv=>whnf)
  all_goals try(exfalso;omega)
  all_goals exact AH ⟨_,⟨by rw[hn];rfl,x,hx,hi,rfl⟩,hs⟩
def St (w:AE) (hw:CS w):Pj 91 [] [.rp [.rp (gW w (BR w.parents))]] w (lQ w):=by
 intro l b hl hlen;refine Pure.of ?_;show As zP 91 [LN l b,.rp [.rp (gW w (BR w.parents))]] _ _;have hr:=V9 hw hl hlen;have hlk:=W0 w (BR w.parents) l b (MV (by have:=hw.1.1;omega) hl) hlen;have hT:lQ w l=(BE 3).all fun a=>R4 w (kg l) a 2 []:=rfl
 rw[hT];refine yu kZ ?_;have hs:=Sn;refine zz ?_;(repeat clear U K);repeat intro K U
 refine hlk.use (rest:=[]) (by simpa using hs) ?_;clear hs;rintro r post Z ⟨L,es,rfl,hinv,rfl⟩ hs;rw[EU]at hs
 conv=>whnf
 refine(Vo 94 [.a (gv w (BR w.parents) L)] [] (fun a=>R4 w (kg l) a 2 []) (fun a _ _ es hi=>oW w hw hr a 2 [] rfl es hi) hinv).use (rest:=[]) (by simpa using hs) ?_;clear hs;rintro r post Z ⟨rfl,es2,hx2,hi2,rfl⟩ hs;refine zz ?_;(repeat clear U K);repeat intro K U
 exact AH rfl
end Go.Gl
namespace Go.Gl
open Go.Proofs
abbrev xT (w:AE) (us:List Nat) (L:Nat) (cs:List Int) (f:Bool):List V:=[.rp (gW w us),.m L,.l (iL cs) f]
attribute [local irreducible] As Af AV AQ AI AU AP AR AJ AT AM AN Ag Ar Sat AS Ap AX W
def TL (w : AE) (hw:CS w) {kf:Int->List Int->Kn} (hr:EM w kf) (cs:List Int) (f:Bool) (hcs:cs.length<=3) {a:Int} (ha:0<=a) {p:List Int} (hp:p.length<=2) (fit:Nat->Bool) (hfit:p= []/\fit=Ii cs a\/p≠[]/\fit=fun _=>true) (can:Int->Bool) {L:Nat}
    (hcan: ∀s∈(kf a p).AL,∀es,Bp kf es->BL zP 96 [.a (xT w (BR w.parents) L cs f),CC a (p++[s])] (Bm L es) fun r post=>r= .ret (.b (can s))/\G9 kf L es post) {es:List Bx} (h:Bp kf es) :
    BL zP 96 [.a (xT w (BR w.parents) L cs f),CC a p] (Bm L es) fun r post=>r= .ret (.b ((List.range (3+w.parents.length)).any fun c=>decide (1<=c)&&(fit c&&VO w kf a p can c)))/\G9 kf L es post:=by
 intro Z hs;have hM:=Mx;have hu:qN (BR w.parents):=Gi _ _ (by have:=hw.1.1;omega);have hul:(BR w.parents).length=3+w.parents.length:=Dc _ _;have hwp:=hw.1.1;have hint:=fun es (h:Bp kf es)=>x2 w hr h (L:=L) (a:=a) hp
 have hnon:=fun es (h:Bp kf es)=>pT w hr h (L:=L) (a:=a) hp
 have hobj:=fun up hup es (hi:Bp kf es)=>Z8 w hw (BR w.parents) hr hp up hup 96 [.a (xT w (BR w.parents) L cs f)] [] can (L:=L) hcan (es:=es) hi
 have hcP: ∀c,VO w kf a p can c=if c=1 then GA kf a p else if c=2 then DV kf a p else Rz w kf a p ((BR w.parents).getD c 0) can:=fun _=>rfl
 generalize VO w kf a p can=cP at *;generalize BR w.parents=us at *;have eul:((us.map fun u=>[eU u]).length:Int)=us.length:=by simp
 have hR0:((List.range (3+w.parents.length)).any fun c=>decide (1<=c)&&(fit c&&cP c))=((List.range us.length).drop 1).any fun c=>decide (1<=c)&&(fit c&&cP c):=by
  rw[hul,show 3+w.parents.length=(2+w.parents.length)+1 by omega,List.range_succ_eq_map];simp
 generalize ((List.range (3+w.parents.length)).any fun c=>decide (1<=c)&&(fit c&&cP c))=R at *;refine yo kZ ?_;refine zz ?_;(repeat clear U K);repeat intro K U
 refine Ba (us.length - 1) (fun k (_:List Bx)=>[(5,eI ((k+1:Nat):Int))]) (fun _ x=>Bm L x) (fun k x=>(Bp kf x/\K1 es x)/\R=((List.range us.length).drop (k+1)).any fun c=>decide (1<=c)&&(fit c&&cP c)) es rfl ⟨⟨h,.refl _⟩,hR0⟩ hs ?_;clear hs hR0;rintro k x Z hk ⟨⟨hi,hx⟩,hn⟩ hs;have hwk:IntKind.i64.wrap (((k+1:Nat):Int)+1)=((k+1+1:Nat):Int):=by rw[wrap64 (by omega) (by omega)];omega
 rcases Nat.lt_or_ge k (us.length - 1)with hlt|hge
 .have hrk : (List.range us.length)[k+1]? =some (k+1):=List.getElem?_range (by omega)
  rw[drop_cons hrk,Oj,decide_eq_true (show 1<=k+1 by omega),Db]at hn;obtain⟨u,hu2⟩: ∃u,us[k+1]? =some u:=⟨_,CQ (by omega)⟩
  have hu3:us[(((k+1:Nat):Int)).toNat]? =some u:=by rw[FZ];exact hu2
  have hug:us.getD (k+1) 0=u:=by rw[Co,hu2];rfl
  have hu64:u<18446744073709551616:=hu u (BY hu2);have hck:=hcP (k+1);rw[hug]at hck
  have d216:k+1<3->BL zP 154 [.a (gv w us L),CC a p,eI ((k+1:Nat):Int)] (Bm L x) fun r post=>r= .ret (.b (cP (k+1)))/\G9 kf L x post:=fun h3=>by
   rcases k with _|_|k
   .rw[hck];exact hint x hi
   .rw[hck];exact hnon x hi
   .omega
  have d217:3<=k+1->BL zP 155 [.a (gv w us L),CC a p,eU u,.f (.func 96) [.a (xT w us L cs f)] []] (Bm L x) fun r post=>r= .ret (.b (cP (k+1)))/\G9 kf L x post:=fun h3=>by
   rw[hck,if_neg (by omega),if_neg (by omega)];exact hobj u hu64 x hi
  clear hck hint hnon hobj hcP;generalize cP (k+1)=B at *;rcases hfit with⟨rfl,rfl⟩|⟨hpn,rfl⟩
  .by_cases hac:a<(cs.length:Int)
   .obtain ⟨y,hy⟩: ∃y,cs[a.toNat]? =some y:=⟨_,CQ (by omega)⟩
    have hfv:Ii cs a (k+1)=(y==((k+1:Nat):Int)):=by
     rw[Ii,decide_eq_false (by omega),Bool.false_or,Co,hy];rfl
    rw[hfv]at hn;by_cases hyk:y=((k+1:Nat):Int)
    .rw [Cd.2 hyk,Db]at hn
     cases B
     all_goals
      conv=>whnf
      repeat'((first|clear U K|apply st|(apply zk;intro K U)|refine zY ?_|(refine zb (fun hc=>?_) (fun hc=>?_)<;>try exact⟨⟩)|fail)<;>conv=>whnf)
      all_goals try(exfalso;omega)
      all_goals try(exfalso;simp at hc;done)
      all_goals
       first
        | refine(d216 (by omega)).use (rest:=[]) (by simpa using hs) ?_
        | refine(d217 (by omega)).use (rest:=[]) (by simpa using hs) ?_
       clear hs;rintro r post Z ⟨rfl,es2,hx2,hi2,rfl⟩ hs;rw[EU]at hs
       conv=>whnf
       repeat'((first|clear U K|apply st|(apply zk;intro K U)|refine zY ?_|(refine zb (fun hc=>?_) (fun hc=>?_)<;>try exact⟨⟩)|fail)<;>conv=>whnf)
       first
        | exact AH ⟨_,⟨by rw[hn];rfl,es2,hx.trans hx2,hi2,rfl⟩,hs⟩
        | exact⟨by omega,es2,by rw[hwk];rfl,⟨⟨hi2,hx.trans hx2⟩,by rw[hn];rfl⟩,hs⟩
    .rw[beq_eq_false_iff_ne.2 hyk,Bool.false_and,Bool.false_or]at hn
     conv=>whnf
     repeat'((first|clear U K|apply st|(apply zk;intro K U)|refine zY ?_|(refine zb (fun hc=>?_) (fun hc=>?_)<;>try exact⟨⟩)|fail)<;>conv=>whnf)
     all_goals try(exfalso;omega)
     all_goals try(exfalso;simp at hc;done)
     all_goals try exact absurd (by assumption) hyk
     all_goals try exact absurd rfl (by assumption)
     all_goals exact⟨by omega,x,by rw[hwk];rfl,⟨⟨hi,hx⟩,hn⟩,hs⟩
   .have hfv:Ii cs a (k+1)=true:=by rw[Ii,decide_eq_true (by omega)];rfl
    rw[hfv,Db]at hn;cases B
    all_goals
     conv=>whnf
     repeat'((first|clear U K|apply st|(apply zk;intro K U)|refine zY ?_|(refine zb (fun hc=>?_) (fun hc=>?_)<;>try exact⟨⟩)|fail)<;>conv=>whnf)
     all_goals try(exfalso;omega)
     all_goals try(exfalso;simp at hc;done)
     all_goals
      first
       | refine(d216 (by omega)).use (rest:=[]) (by simpa using hs) ?_
       | refine(d217 (by omega)).use (rest:=[]) (by simpa using hs) ?_
      clear hs;rintro r post Z ⟨rfl,es2,hx2,hi2,rfl⟩ hs;rw[EU]at hs
      conv=>whnf
      repeat'((first|clear U K|apply st|(apply zk;intro K U)|refine zY ?_|(refine zb (fun hc=>?_) (fun hc=>?_)<;>try exact⟨⟩)|fail)<;>conv=>whnf)
      first
       | exact AH ⟨_,⟨by rw[hn];rfl,es2,hx.trans hx2,hi2,rfl⟩,hs⟩
       | exact⟨by omega,es2,by rw[hwk];rfl,⟨⟨hi2,hx.trans hx2⟩,by rw[hn];rfl⟩,hs⟩
  .rw [Db]at hn
   have hpl:p.length≠0:=fun e=>hpn (VA.1 e)
   cases B
   all_goals
    conv=>whnf
    repeat'((first|clear U K|apply st|(apply zk;intro K U)|refine zY ?_|(refine zb (fun hc=>?_) (fun hc=>?_)<;>try exact⟨⟩)|fail)<;>conv=>whnf)
    all_goals try(exfalso;omega)
    all_goals try(exfalso;simp at hc;done)
    all_goals
     first
      | refine(d216 (by omega)).use (rest:=[]) (by simpa using hs) ?_
      | refine(d217 (by omega)).use (rest:=[]) (by simpa using hs) ?_
     clear hs;rintro r post Z ⟨rfl,es2,hx2,hi2,rfl⟩ hs;rw[EU]at hs
     conv=>whnf
     repeat'((first|clear U K|apply st|(apply zk;intro K U)|refine zY ?_|(refine zb (fun hc=>?_) (fun hc=>?_)<;>try exact⟨⟩)|fail)<;>conv=>whnf)
     first
      | exact AH ⟨_,⟨by rw[hn];rfl,es2,hx.trans hx2,hi2,rfl⟩,hs⟩
      | exact⟨by omega,es2,by rw[hwk];rfl,⟨⟨hi2,hx.trans hx2⟩,by rw[hn];rfl⟩,hs⟩
 .rw[List.drop_of_length_le (by rw[xc];omega),List.any_nil]at hn
  conv=>whnf
  repeat'((first|clear U K|apply st|(apply zk;intro K U)|refine zY ?_|(refine zb (fun hc=>?_) (fun hc=>?_)<;>try exact⟨⟩)|fail)<;>conv=>whnf)
  all_goals try(exfalso;omega)
  all_goals exact AH ⟨_,⟨by rw[hn],x,hx,hi,rfl⟩,hs⟩
def oX (w:AE) (hw:CS w) {kf:Int->List Int->Kn} (hr:EM w kf) (cs:List Int) (f:Bool) (hcs:cs.length<=3) {a:Int} (ha:0<=a) {L:Nat}: ∀(d:Nat) (fit:Nat->Bool) (p:List Int),p.length+d=2->(p= []/\fit=Ii cs a\/p≠[]/\fit=fun _=>true)-> ∀es,Bp kf es->
    BL zP 96 [.a (xT w (BR w.parents) L cs f),CC a p] (Bm L es) fun r post=>r= .ret (.b (R5 w kf a d fit p))/\G9 kf L es post:=by
 intro d
 induction d with
 | zero=>
   intro fit p hp hfit es h;rw[R5];exact TL w hw hr cs f hcs ha (by omega) fit hfit _ (fun s hs=>by rw[hr.short a p (by omega)]at hs;cases hs) h
 | succ d ih=>
   intro fit p hp hfit es h;rw[R5];exact TL w hw hr cs f hcs ha (by omega) fit hfit _ (fun s _ es h=>ih (fun _=>true) (p++[s]) (by simp;omega) (.inr ⟨by simp,rfl⟩) es h) h
def MH (w:AE) (hw:CS w) (cs:List Int) (f:Bool) (hcs:cs.length<=3):Pj 95 [] [.rp [.rp (gW w (BR w.parents))],.rp [.l (iL cs) f]] w (Jg w cs):=by
 intro l b hl hlen;refine Pure.of ?_;show As zP 95 [LN l b,.rp [.rp (gW w (BR w.parents))],.rp [.l (iL cs) f]] _ _;have hr:=V9 hw hl hlen;have hlk:=W0 w (BR w.parents) l b (MV (by have:=hw.1.1;omega) hl) hlen;have hT:Jg w cs l=(BE 3).all fun a=>R5 w (kg l) a 2 (Ii cs a) []:=rfl
 rw[hT];refine yp kZ ?_;have hs:=Sn;refine zz ?_;(repeat clear U K);repeat intro K U
 refine hlk.use (rest:=[]) (by simpa using hs) ?_;clear hs;rintro r post Z ⟨L,es,rfl,hinv,rfl⟩ hs;rw[EU]at hs
 conv=>whnf
 repeat'((first|apply st|refine rk ?_ ?_|exact fun s e=>by cases e;rfl|fail)<;>conv=>whnf)
 refine(Vo 96 [.a (xT w (BR w.parents) L cs f)] [] (fun a=>R5 w (kg l) a 2 (Ii cs a) []) (fun a h0 _ es hi=>oX w hw hr cs f hcs h0 2 (Ii cs a) [] rfl (.inl ⟨rfl,rfl⟩) es hi) hinv).use (rest:=[]) (by simpa using hs) ?_;clear hs;rintro r post Z ⟨rfl,es2,hx2,hi2,rfl⟩ hs;refine zz ?_;(repeat clear U K);repeat intro K U
 exact AH rfl
end Go.Gl
