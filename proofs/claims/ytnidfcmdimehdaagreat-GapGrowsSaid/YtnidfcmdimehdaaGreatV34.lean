import Derived.Test.YtnidfcmdimehdaaGreatV14
import Derived.Test.YtnidfcmdimehdaaGreatV20
import Derived.Test.YtnidfcmdimehdaaGreatV25
import Derived.Test.YtnidfcmdimehdaaGreatV26
import Derived.Test.YtnidfcmdimehdaaGreatV27
import Derived.Test.YtnidfcmdimehdaaGreatV30
import Derived.Test.YtnidfcmdimehdaaGreatV31
import Derived.Test.YtnidfcmdimehdaaGreatV33
set_option linter.all false
set_option linter.defProp false
set_option maxHeartbeats 8000000
noncomputable section
namespace Go.Gl
open Go.Proofs
attribute [local irreducible] Av An Af AQ AL Ac AP AS AK Ab AN AO As A3 Sat AV A0 Ag W
def aI (w : AG) (hw:Cq w) (us:List Nat) {kf:Int->List Int->Kn} (hr:EH w kf) {a:Int} {p:List Int} (hp:p.length<=2) (up:Nat) (hup:up<18446744073709551616) (g:FuncId) (fi ca:List V) (can:Int->Bool) {L:Nat}
    (hcan: ∀s∈(kf a p).AF,∀es,Bv kf es->BO zP g (fi++[CE a (p++[s])]++ca) (Bo L es) fun r post=>r= .ret (.b (can s))/\Gz kf L es post) {es:List B2} (h:Bv kf es) :
    BO zP 155 [.a (gv w us L),CE a p,eU up,.f (.func g) fi ca] (Bo L es) fun r post=>r= .ret (.b (Ru w kf a p up can))/\Gz kf L es post:=by
 intro Z hs;have hM:=Mx;refine wS kZ ?_;refine zz ?_;(repeat clear U K);repeat intro K U
 refine(l8 w us h (a:=a) (p:=p) hp).use (rest:=[]) (by simpa using hs) ?_;clear hs;rintro r post Z ⟨es4,e4,got,rfl,rfl⟩ hs;have hek:=got.k;obtain⟨pre,post,rfl⟩:=List.append_of_mem got.mem;rw[FE]at hs;replace hs:=JY (X:=[]) hs;have hok:=hr.ok a p;have hsl:=(hr.ok a p).2.2.2;have hsh:=hr.short a p;have hsw:=hr.AF a p;rw[<-hek]at hok hsl hsh hsw hcan;have hb1:bits .andNot .u64 (e4.k.BS:Int) (up:Int)=((L3 e4.k.BS up:Nat):Int):=IN;have hb2:bits .and .u64 (e4.k.Dt:Int) (up:Int)=((e4.k.Dt&&&up:Nat):Int):=Fs hok.2.1 hup;have hb3:=Mz (u:=up) hok.1
 have hP:Ru w kf a p up can=(!e4.k.whole&&(Hg e4.k.BS up&&(e4.k.Dt&&&up==0&&e4.k.AF.all fun s=>if up.testBit (Bh w s).toNat then can s else !(kf a (p++[s])).AZ))):=by
  rw[Ru,hek]
 generalize Ru w kf a p up can=R at *;cases hwh:e4.k.whole<;>rw[hwh]at hP hs
 rotate_left
 .refine zz ?_;(repeat clear U K);repeat intro K U
  exact AH ⟨_,⟨by rw[hP];rfl,_,got.ext,got.inv,rfl⟩,by rw[<-hwh]at hs;simpa using Di (X:=[]) (e:=e4) (e':=e4) rfl rfl rfl hs⟩
 have hcl: ∀ {Z:AE},Sat Z (.box e4.b [eU e4.k.BS,eU e4.k.Dt,eI e4.k.low,eI e4.k.high,e4.vn,.b false,.b e4.k.AZ,e4.vs]:: .own e4.vn 1 (iL e4.k.no):: .own e4.vs 1 (iL e4.k.AF)::([]++I2 L (pre++e4::post) pre post))->Sat Z (Bo L (pre++e4::post)):=fun h=>by
  rw[<-hwh]at h;simpa using Di (X:=[]) (e:=e4) (e':=e4) rfl rfl rfl h
 conv=>whnf
 repeat'((first|clear U K|apply st|(apply zk;intro K U)|refine zY ?_|refine za (fun hc=>?_) fun hc=>?_|fail)<;>conv=>whnf)
 .have h2:(e4.k.Dt&&&up==0)=false:=by rw[beq_eq_false_iff_ne];omega
  exact AH ⟨_,⟨by rw[hP,h2];simp,_,got.ext,got.inv,rfl⟩,hcl hs⟩
 .have h1 : Hg e4.k.BS up=true:=hb3.1 (by omega)
  have h2:(e4.k.Dt&&&up==0)=true:=by rw[C1];omega
  rw[h1,h2,Bool.not_false,Du,Du,Du]at hP
  have hs1:Sat Z (.own e4.vs 1 (iL e4.k.AF)::fC L pre post e4 []):=by
   have h2:=HM (X:=[]) (L:=L) (pre:=pre) (post:=post) (e:=e4) (s:=[]) (by simpa using hcl hs);simpa using h2
  clear hb1 hb2 hb3 h1 h2;refine Cn e4.k.AF.length (fun k (x:List B2)=>[(44,eI (BR k))]) (fun k x=> .own e4.vs 1 (iL e4.k.AF)::fC L pre post e4 x) (fun k x=>(Bv kf (pre++e4::(post++x))/\ ∀y∈x,y.k=k0)/\R=(e4.k.AF.drop k).all fun s=>if up.testBit (Bh w s).toNat then can s else !(kf a (p++[s])).AZ) [] rfl ⟨⟨by simpa using got.inv,by simp⟩,hP⟩ hs1 ?_;clear hs hs1 hP hcl;rintro k new Z hk ⟨⟨hinv,hnew⟩,hF⟩ hs;have hck:BR k=k:=Ae (by omega);rcases BK e4.k.AF hk with⟨s,hsk,hlt⟩|hke
  .have hsm:=Cm hsk
   have hp2:p.length<2:=by
    rcases Nat.lt_or_ge p.length 2 with h'|h'
    .exact h'
    .rw[hsh h']at hsm;cases hsm
   obtain⟨hs0,hs1⟩:=hsw s hsm;obtain⟨o,ho⟩: ∃o,w.owner[s.toNat]? =some o:=⟨_,Dp (by omega)⟩
   have hoI:Bh w s=o:=by simp only[Bh,DK,ho];rfl
   obtain⟨ho1,ho2⟩:=hw.2.2 o (Cm ho);have hwp:=hw.1.1;rw[drop_cons hsk,Pg,hoI]at hF;have hcx:=hcan s hsm
   conv=>whnf
   repeat'((first|clear U K|apply st|(apply zk;intro K U)|refine zY ?_|refine ze fun x hx=>?_|refine zs fun Z hs=>?_|refine Pure.use (MV a p _ hp2) ?_|refine zo fun nn hnn Z hs=>?_|fail)<;>conv=>whnf)
   obtain rfl:x=s:=by rw[hck,HX,hsk]at hx;exact(Option.some.inj hx).symm
   generalize nn=n7 at *;have hs2:Sat Z ([.box n7 (Fv a (p++[x]))]++Bo L (pre++e4::(post++new))):=G6 (X:=[.box n7 (Fv a (p++[x]))]) (hs.perm (.swap _ _ _));clear hs;have hs:=hs2;clear hs2;have c2:=Zg up o hup (by omega) (by omega);cases hbo:up.testBit o.toNat<;>rw[hbo]at hF c2
   .rw [if_neg (by decide)]at hF
    conv=>whnf
    repeat'((first|clear U K|apply st|(apply zk;intro K U)|refine zY ?_|refine zC ?_|fail)<;>conv=>whnf)
    refine(l8 w us hinv (a:=a) (p:=p++[x]) (by simp;omega)).use (rest:=[.box n7 (Fv a (p++[x]))]) hs.flip ?_;clear hs;rintro r post' Z ⟨es5,e5,got5,rfl,rfl⟩ hs;have hek5:=congrArg Kn.AZ got5.k;obtain⟨newA,heA,hnA⟩:=got5.ext;obtain⟨pre5,post5,he5⟩:=List.append_of_mem got5.mem;have e7:es5=pre++e4::(post++(new++newA)):=by rw[heA];simp
    have hi7:=got5.inv;rw[e7]at hi7;have hn7: ∀y∈new++newA,y.k=k0:=fun y hy=>(Ds.1 hy).elim (hnew y) (hnA y)
    rw[he5]at hs;replace hs:=JY (X:=[.box n7 (Fv a (p++[x]))]) hs.flip;cases hnx:(kf a (p++[x])).AZ<;>rw[hnx]at hek5 hF<;>rw[hek5]at hs
    all_goals
     refine zz ?_;(repeat clear U K);repeat intro K U
     have hs3:Sat Z (Bo L (pre++e4::(post++(new++newA)))):=by
      rw[<-hek5]at hs;have h3:=Di (X:=[.box n7 (Fv a (p++[x]))]) (e:=e5) (e':=e5) rfl rfl rfl hs;rw[<-he5,e7]at h3;exact h3.less (List.sublist_append_right _ _)
    .exact⟨hlt,new++newA,rfl,⟨⟨hi7,hn7⟩,by rw[hF];rfl⟩,HM (X:=[]) hs3⟩
    .exact AH ⟨_,⟨by rw[hF];rfl,_,got.ext.trans ⟨_,by simp,hn7⟩,hi7,rfl⟩,hs3⟩
   .rw[if_pos rfl]at hF
    cases hcy:can x<;>rw[hcy]at hF hcx
    all_goals
     conv=>whnf
     repeat'((first|clear U K|apply st|(apply zk;intro K U)|refine zY ?_|refine zC ?_|fail)<;>conv=>whnf)
     refine BH ((hcx _ hinv).use (rest:=[.box n7 (Fv a (p++[x]))]) hs.flip ?_);clear hs;rintro r post' Z ⟨rfl,es6,⟨new6,he6,hn6⟩,hi6,rfl⟩ hs;have e7:es6=pre++e4::(post++(new++new6)):=by rw[he6];simp
     rw[e7]at hi6 hs;have hn7: ∀y∈new++new6,y.k=k0:=fun y hy=>(Ds.1 hy).elim (hnew y) (hn6 y)
     have hs3:Sat Z (Bo L (pre++e4::(post++(new++new6)))):=hs.less (List.sublist_append_left _ _);clear hs;have hs:=hs3;refine zz ?_;(repeat clear U K);repeat intro K U
    .exact AH ⟨_,⟨by rw[hF];rfl,_,got.ext.trans ⟨_,by simp,hn7⟩,hi6,rfl⟩,hs3⟩
    .exact⟨hlt,new++new6,rfl,⟨⟨hi6,hn7⟩,by rw[hF];rfl⟩,HM (X:=[]) hs3⟩
  .rw[Au hke,List.all_nil]at hF
   refine zz ?_;(repeat clear U K);repeat intro K U
   exact AH ⟨_,⟨by rw[hF],_,got.ext.trans ⟨_,by simp,hnew⟩,hinv,rfl⟩,G6 (X:=[]) hs⟩
 .have h1:Hg e4.k.BS up=false:=by
   rw[<-Bool.not_eq_true,<-hb3];omega
  exact AH ⟨_,⟨by rw[hP,h1];simp,_,got.ext,got.inv,rfl⟩,hcl hs⟩
end Go.Gl
namespace Go.Gl
open Go.Proofs
def Ko.len {es es':List B2} (h:Ko es es'):es.length<=es'.length:=by
 obtain⟨n,rfl,_⟩:=h;simp
attribute [local irreducible] Av An Af AQ AL Ac AP AS AK Ab AN AO As A3 Sat AV A0 Ag W
def TH (w : AG) (hw:Cq w) {kf:Int->List Int->Kn} (hr:EH w kf) {a:Int} {p:List Int} (hp:p.length<=2) (can:Int->Bool) {L:Nat}
    (hcan: ∀s∈(kf a p).AF,∀es,Bv kf es->BO zP 94 [.a (gv w (BX w.parents) L),CE a (p++[s])] (Bo L es) fun r post=>r= .ret (.b (can s))/\Gz kf L es post) {es:List B2} (h:Bv kf es) :
    BO zP 94 [.a (gv w (BX w.parents) L),CE a p] (Bo L es) fun r post=>r= .ret (.b (Fw kf a p||(DT kf a p||VH w kf a p can)))/\Gz kf L es post:=by
 intro Z hs;have hM:=Mx;have c1:=yD w hr h (L:=L) (a:=a) hp;have c2:=fun {es} (h:Bv kf es)=>qa w hr h (L:=L) (a:=a) hp
 have hu:rP (BX w.parents):=Gb _ _ (by have:=hw.1.1;omega);have hul:(BX w.parents).length=3+w.parents.length:=Db _ _;have hwp:=hw.1.1;have hP:VH w kf a p can=(!(Dw w kf a p).testBit 1&&(!(Dw w kf a p).testBit 2&&Ru w kf a p (Bl (BX w.parents) w.parents.length (Dw w kf a p)) can)):=rfl;have hMu:Dw w kf a p=(kf a p).AF.foldl (fun m s=>if(kf a (p++[s])).AZ then m|||2 ^ (Bh w s).toNat else m) ((kf a p).BS|||2 ^ 0):=rfl;have hobj:=fun up hup es (hi:Bv kf es)=>aI w hw (BX w.parents) hr hp up hup 94 [.a (gv w (BX w.parents) L)] [] can (L:=L) hcan (es:=es) hi
 generalize BX w.parents=us at *;generalize VH w kf a p can=R at *;generalize Dw w kf a p=MU at *;cases hI:Fw kf a p<;>rw[hI]at c1
 rotate_left
 .refine gL kZ ?_
  refine zz ?_;(repeat clear U K);repeat intro K U
  refine c1.use (rest:=[]) (by simpa using hs) ?_;clear hs;rintro r post Z ⟨rfl,es2,hx2,hi2,rfl⟩ hs;rw[FE]at hs;refine zz ?_;(repeat clear U K);repeat intro K U
  exact AH ⟨_,⟨rfl,es2,hx2,hi2,rfl⟩,hs⟩
 cases hN:DT kf a p<;>rw[hN]at c2
 rotate_left
 .refine gL kZ ?_
  refine zz ?_;(repeat clear U K);repeat intro K U
  refine c1.use (rest:=[]) (by simpa using hs) ?_;clear hs;rintro r post Z ⟨rfl,es2,hx2,hi2,rfl⟩ hs;rw[FE]at hs;refine zz ?_;(repeat clear U K);repeat intro K U
  refine(c2 hi2).use (rest:=[]) (by simpa using hs) ?_;clear hs;rintro r post Z ⟨rfl,es3,hx3,hi3,rfl⟩ hs;rw[FE]at hs;refine zz ?_;(repeat clear U K);repeat intro K U
  exact AH ⟨_,⟨rfl,es3,hx2.trans hx3,hi3,rfl⟩,hs⟩
 rw[Bool.false_or,Bool.false_or];refine gL kZ ?_;refine zz ?_;(repeat clear U K);repeat intro K U
 refine c1.use (rest:=[]) (by simpa using hs) ?_;clear hs;rintro r post Z ⟨rfl,es2,hx2,hi2,rfl⟩ hs;rw[FE]at hs;refine zz ?_;(repeat clear U K);repeat intro K U
 refine(c2 hi2).use (rest:=[]) (by simpa using hs) ?_;clear hs;rintro r post Z ⟨rfl,es3,hx3,hi3,rfl⟩ hs;rw[FE]at hs;clear c1 c2;refine zz ?_;(repeat clear U K);repeat intro K U
 refine(l8 w us hi3 (a:=a) (p:=p) hp).use (rest:=[]) (by simpa using hs) ?_;clear hs;rintro r post Z ⟨es4,e4,got,rfl,rfl⟩ hs;have hx4:=(hx2.trans hx3).trans got.ext;have hek:=got.k;obtain⟨pre,post,rfl⟩:=List.append_of_mem got.mem;rw[FE]at hs;replace hs:=HM (X:=[]) (L:=L) (pre:=pre) (post:=post) (e:=e4) (s:=[]) (by simpa using hs);have hok:=hr.ok a p;have hsl:=(hr.ok a p).2.2.2;have hsh:=hr.short a p;have hsw:=hr.AF a p;rw[<-hek]at hok hsl hsh hsw hcan hMu;have hi4:=got.inv;clear got;have c3:=qL e4.k.BS 0 hok.1 (by decide);have hm0:e4.k.BS|||2 ^ 0<18446744073709551616:=Hr hok.1 (GW (by decide))
 conv=>whnf
 repeat'((first|clear U K|apply st|(apply zk;intro K U)|refine zY ?_|refine zC ?_|fail)<;>conv=>whnf)
 refine Cn e4.k.AF.length (fun k (x:Nat×List B2)=>[(34,eI (BR k)),(6,eU x.1)]) (fun k x=> .own e4.vs 1 (iL e4.k.AF)::fC L pre post e4 x.2) (fun k x=>x.1<18446744073709551616/\(Bv kf (pre++e4::(post++x.2))/\ ∀y∈x.2,y.k=k0)/\MU=(e4.k.AF.drop k).foldl (fun m s=>if(kf a (p++[s])).AZ then m|||2 ^ (Bh w s).toNat else m) x.1) (e4.k.BS|||2 ^ 0,[]) rfl ⟨hm0,⟨by simpa using hi4,by simp⟩,hMu⟩ hs ?_;clear hs hMu hm0 c3 hi4;rintro k ⟨m,new⟩ Z hk ⟨hm,⟨hinv,hnew⟩,hF⟩ hs;dsimp only at hm hinv hnew hF hs;have hck:BR k=k:=Ae (by omega);rcases BK e4.k.AF hk with⟨s,hsk,hlt⟩|hke
 .have hsm:=Cm hsk
  have hp2:p.length<2:=by
   rcases Nat.lt_or_ge p.length 2 with h'|h'
   .exact h'
   .rw[hsh h']at hsm;cases hsm
  obtain⟨hs0,hs1⟩:=hsw s hsm;obtain⟨o,ho⟩: ∃o,w.owner[s.toNat]? =some o:=⟨_,Dp (by omega)⟩
  have hoI:Bh w s=o:=by simp only[Bh,DK,ho];rfl
  obtain⟨ho1,ho2⟩:=hw.2.2 o (Cm ho);rw[drop_cons hsk,List.foldl_cons,hoI]at hF;have c3:=Nf m o hm (by omega) (by omega)
  conv=>whnf
  repeat'((first|clear U K|apply st|(apply zk;intro K U)|refine zY ?_|refine rk ?_ ?_|exact fun s e=>by cases e;rfl|refine ze fun x hx=>?_|refine Pure.use (MV a p _ hp2) ?_|fail)<;>conv=>whnf)
  obtain rfl:x=s:=by rw[hck,HX,hsk]at hx;exact(Option.some.inj hx).symm
  refine(l8 w us hinv (a:=a) (p:=p++[x]) (by simp;omega)).use (rest:=[]) (by simpa using G6 (X:=[]) (by simpa using hs)) ?_;clear hs;rintro r post' Z ⟨es5,e5,got5,rfl,rfl⟩ hs;have hek5:=congrArg Kn.AZ got5.k;obtain⟨newA,heA,hnA⟩:=got5.ext;obtain⟨pre5,post5,he5⟩:=List.append_of_mem got5.mem;have e7:es5=pre++e4::(post++(new++newA)):=by rw[heA];simp
  have hi7:=got5.inv;rw[e7]at hi7;have hn7: ∀y∈new++newA,y.k=k0:=fun y hy=>(Ds.1 hy).elim (hnew y) (hnA y)
  rw[FE,he5]at hs;replace hs:=JY (X:=[]) hs;have hob:2 ^ o.toNat<18446744073709551616:=GW (by omega);cases hnx:(kf a (p++[x])).AZ<;>rw[hnx]at hek5 hF<;>rw[hek5]at hs
  all_goals
   conv=>whnf
   repeat'((first|clear U K|apply st|(apply zk;intro K U)|refine zY ?_|refine zC ?_|fail)<;>conv=>whnf)
   have hs3:Sat Z (Bo L (pre++e4::(post++(new++newA)))):=by
    rw[<-hek5]at hs;have h3:=Di (X:=[]) (e:=e5) (e':=e5) rfl rfl rfl hs;rw[<-he5,e7]at h3;exact h3
  .exact⟨hlt,(m,new++newA),rfl,⟨hm,⟨hi7,hn7⟩,by rw[hF];rfl⟩,HM (X:=[]) hs3⟩
  .exact⟨hlt,(m|||2 ^ o.toNat,new++newA),rfl,⟨Hr hm hob,⟨hi7,hn7⟩,by rw[hF];rfl⟩,HM (X:=[]) hs3⟩
 .rw [Au hke,List.foldl_nil]at hF
  subst hF;have d1:=r7 MU 1 hm (by decide);have d2:=r7 MU 2 hm (by decide);have hsc: ∀ {Z:AE},Sat Z (.own e4.vs 1 (iL e4.k.AF)::fC L pre post e4 new)->Sat Z (Bo L (pre++e4::(post++new))):=fun h=>G6 (X:=[]) h
  have hx5:Ko es (pre++e4::(post++new)):=hx4.trans ⟨new,by simp,hnew⟩;cases hb1:MU.testBit 1<;>rw[hb1]at d1 hP
  rotate_left
  .conv=>whnf
   repeat'((first|clear U K|apply st|(apply zk;intro K U)|refine zY ?_|refine d1.use ?_|fail)<;>conv=>whnf)
   all_goals try(exfalso;omega)
   exact AH ⟨_,⟨by rw[hP];rfl,_,hx5,hinv,rfl⟩,hsc hs⟩
  cases hb2:MU.testBit 2<;>rw[hb2]at d2 hP
  rotate_left
  .conv=>whnf
   repeat'((first|clear U K|apply st|(apply zk;intro K U)|refine zY ?_|refine d1.use ?_|refine d2.use ?_|fail)<;>conv=>whnf)
   all_goals try(exfalso;omega)
   exact AH ⟨_,⟨by rw[hP];rfl,_,hx5,hinv,rfl⟩,hsc hs⟩
  conv=>whnf
  repeat'((first|clear U K|apply st|(apply zk;intro K U)|refine zY ?_|refine d1.use ?_|refine d2.use ?_|fail)<;>conv=>whnf)
  all_goals try(exfalso;omega)
  clear hke hck hk d1 d2 k;rw[Bool.not_false,Du,Du]at hP;have eul:((us.map fun u=>[eU u]).length:Int)=us.length:=by simp
  refine Cn us.length (fun k (x:Nat)=>[(73,eI (BR k)),(6,eU x)]) (fun _ _=> .own e4.vs 1 (iL e4.k.AF)::fC L pre post e4 new) (fun k x=>x<18446744073709551616/\x=Bl us (k - 3) MU) MU rfl ⟨hm,rfl⟩ hs ?_;clear hs;rintro k x Z hk ⟨hx64,hxe⟩ hs;have hck:BR k=k:=Ae (by omega);rcases BK us hk with⟨u,huk,hlt⟩|hke
  .have hbt:Bl us (k+1 - 3) MU=if 3<=k/\x.testBit k then x|||u else x:=by
    rcases Nat.lt_or_ge k 3 with h3|h3
    .rw[if_neg (fun h=>by omega),hxe,show k+1 - 3=k - 3 by omega]
    .obtain⟨j,rfl⟩: ∃j,k=3+j:=⟨k - 3,by omega⟩
     have eu:us.getD (3+j) 0=u:=by rw[DK,huk];rfl
     rw[show 3+j+1 - 3=j+1 by omega,Bl,show 3+j - 3=j by omega]at *;rw[<-hxe,eu];by_cases hb:x.testBit (3+j)=true
     .rw[if_pos hb,if_pos ⟨by omega,hb⟩]
     .rw[if_neg hb,if_neg (fun h=>hb h.2)]
   have hu64:u<18446744073709551616:=hu u (Cm huk);have huc:us[(BR k).toNat]? =some u:=by rw[hck,HX];exact huk
   have d1:=Zg x (BR k) hx64 (by omega) (by omega);have ekk:(BR k).toNat=k:=by rw[hck,HX]
   rw[ekk]at d1;cases hbk:x.testBit k<;>rw[hbk]at d1 hbt
   .rw[if_neg (fun h=>by cases h.2)]at hbt
    conv=>whnf
    repeat'((first|clear U K|apply st|(apply zk;intro K U)|refine zY ?_|refine d1.use ?_|(refine zd (fun hc=>?_) (fun hc=>?_)<;>try exact⟨⟩)|fail)<;>conv=>whnf)
    all_goals exact⟨hlt,x,rfl,⟨hx64,hbt.symm⟩,hs⟩
   .by_cases h3:3<=k
    .rw[if_pos ⟨h3,rfl⟩]at hbt
     conv=>whnf
     repeat'((first|clear U K|apply st|(apply zk;intro K U)|refine zY ?_|refine d1.use ?_|(refine zb (fun hc=>?_) (fun hc=>?_)<;>try exact⟨⟩)|fail)<;>conv=>whnf)
     all_goals try(exfalso;omega)
     all_goals exact⟨hlt,x|||u,by rw[G7 hx64 hu64];rfl,⟨Hr hx64 hu64,hbt.symm⟩,hs⟩
    .rw[if_neg (fun h=>h3 h.1)]at hbt
     conv=>whnf
     repeat'((first|clear U K|apply st|(apply zk;intro K U)|refine zY ?_|(refine zb (fun hc=>?_) (fun hc=>?_)<;>try exact⟨⟩)|fail)<;>conv=>whnf)
     all_goals try(exfalso;omega)
     all_goals exact⟨hlt,x,rfl,⟨hx64,hbt.symm⟩,hs⟩
  .have hke3:k - 3=w.parents.length:=by omega
   rw[hke3]at hxe;rw[<-hxe]at hP;refine zz ?_;(repeat clear U K);repeat intro K U
   refine(hobj x hx64 _ hinv).use (rest:=[]) (by simpa using hsc hs) ?_;clear hs;rintro r post' Z ⟨rfl,es6,hx6,hi6,rfl⟩ hs;rw[FE]at hs;refine zz ?_;(repeat clear U K);repeat intro K U
   exact AH ⟨_,⟨by rw[hP],es6,hx5.trans hx6,hi6,rfl⟩,hs⟩
def ph (w:AG) (hw:Cq w) {kf:Int->List Int->Kn} (hr:EH w kf) (a:Int) {L:Nat}: ∀(d:Nat) (p:List Int),p.length+d=2-> ∀es,Bv kf es->
    BO zP 94 [.a (gv w (BX w.parents) L),CE a p] (Bo L es) fun r post=>r= .ret (.b (Rx w kf a d p))/\Gz kf L es post:=by
 intro d
 induction d with
 | zero=>
   intro p hp es h;rw[Rx];exact TH w hw hr (by omega) _ (fun s hs=>by rw[hr.short a p (by omega)]at hs;cases hs) h
 | succ d ih=>
   intro p hp es h;rw[Rx];exact TH w hw hr (by omega) _ (fun s _ es h=>ih (p++[s]) (by simp;omega) es h) h
end Go.Gl
namespace Go.Gl
open Go.Proofs
def ae {Z Z2:AE} {v v':V} (h:FH Z Z2 v v'): ∀fi ca:List V,DD Z Z2 (fi++[v]++ca) (fi++[v']++ca)
 | [],ca=> .cons h (ah ca)
 | x::r,ca=> .cons (.refl _) (ae h r ca)
where ah: ∀ca:List V,DD Z Z2 ca ca
 | []=> .nil
 | x::r=> .cons (.refl _) (ah r)
def zt {Z:AE} {sz:Nat} {es:List (List V)} {f:Bool} (he: ∀e∈es,e.length=sz) {K:V->AE->Prop} (hk:K (.l es true) Z):AP Z sz (.l es f) none (some (.i .i64 (es.length:Int))) (some (.i .i64 (es.length:Int))) K:=by
 refine⟨he,?_⟩;simp only[O2];refine⟨Int.le_refl _,Int.natCast_nonneg _,Int.le_refl _,trivial,?_⟩;simpa using hk
attribute [local irreducible] Av An Af AQ AL Ac AP AS AK Ab AN AO As A3 Sat AV A0 Ag W
def zw (ls:List Fact) (b:Bool) (hl:ls.length<=1000000):Pure zP 203 [.l (Dx ls) b] (.l (Dx ls) true):=by
 have hM:=Mx;refine vZ kZ ?_;have hs:=Sn;refine zz ?_;(repeat clear U K);repeat intro K U
 refine zt (fun x hx=>by obtain⟨y,_,rfl⟩:=Hc.1 hx;rfl) ?_;exact zW
def Zn (g:FuncId) (fi ca:List V) (H:List At) (kf:List Fact->Bool) (D:List Fact->Prop):Prop:= ∀l b,D l-> ∀Z,Sat Z H->Av zP g (fi++[LD l b]++ca) Z fun r Z'=>r= .ret (.b (kf l))/\Sat Z' H
def jT (f:Fact):Prop:= ∀(c:Bool) (g:FuncId) (fi ca:List V) (H:List At) (kf:List Fact->Bool) (D:List Fact->Prop) (l:List Fact) (b:Bool),
 Zn g fi ca H kf D->(∀x∈CS f c,D (l++x))->l.length+lv f<=500000-> ∀Z,Sat Z H->Av zP 147 [.a (xF f),.b c,LD l b,.f (.func g) fi ca] Z fun r Z'=>r= .ret (.b ((CS f c).any fun x=>kf (l++x)))/\Sat Z' H
def lq (A B:List (List Fact)) (kf:List Fact->Bool) (l:List Fact):((Vl A B).any fun x=>kf (l++x))=A.any fun x=>B.any fun y=>kf (l++x++y):=by
 rw[Hb,Gx,Gx];constructor
 .rintro⟨z,hz,h⟩
  obtain⟨x,hx,y,hy,rfl⟩:=FP.1 hz;exact⟨x,hx,Gx.2 ⟨y,hy,by rw[Ph];exact h⟩⟩
 .rintro⟨x,hx,h⟩
  obtain⟨y,hy,h⟩:=Gx.1 h;exact⟨x++y,FP.2 ⟨x,hx,y,hy,rfl⟩,by rw[<-Ph];exact h⟩
def nY {f k0 k1:Fact} (hk:f.kids= [k0,k1]) (hc1:jT k1) {c:Bool} {g:FuncId} {fi ca:List V} {H:List At} {kf:List Fact->Bool} {D:List Fact->Prop} (hT:Zn g fi ca H kf D) :
    Zn 202 [] [.rp (xF f),.rp [.b c],.rp [.f (.func g) fi ca]] H (fun m=>(CS k1 c).any fun y=>kf (m++y)) (fun m=>(∀y∈CS k1 c,D (m++y))/\m.length+lv k1<=500000):=by
 rintro m b ⟨hd,hml⟩ Z hs;have h1:f.kids[(1:Int).toNat]? =some k1:=by rw[hk];rfl
 show Av zP 202 [LD m b,.rp (xF f),.rp [.b c],.rp [.f (.func g) fi ca]] Z _;refine vd kZ ?_;refine zz ?_;(repeat clear U K);repeat intro K U
 refine Av.mono (hc1 c g fi ca H kf D m b hT hd hml Z hs) ?_;clear hs;rintro r Z ⟨rfl,hs⟩;refine zz ?_;(repeat clear U K);repeat intro K U
 exact AH ⟨rfl,hs⟩
def lV {w : AG} (f:Fact):A6 w f=true->lv f<=100->jT f:=by
 have hM:=Mx
 induction f using Fact.ind with
 | h f ih=>
   intro hn hv c g fi ca H kf D l b hT hd hll Z hs;have har:=B5 _ hn
   have hnk: ∀k∈f.kids,A6 w k=true:=by
    rw[CA,A4,Dj]at hn;exact hn.2
   have hop:f.op=1\/f.op=5\/B4 f=true\/f.op=6\/f.op=7:=by
    rw[CA,A4]at hn;have h1:=hn.1;simp only[DB,U9,A4]at h1;rw[Mm];simp only[A4,Cp];have h2:=h1.1;split at h2
    .omega
    .split at h2
     .omega
     .simp only[EP,C1]at h2
      omega
   refine wX kZ ?_;have hcs:=Kg f c;rw[P4]at hcs;rcases hop with h1|h5|hl|h67
   .rw[if_pos h1]at hcs
    rw[hcs]at hd ⊢;cases c
    .rw[if_neg (by decide)]at hd ⊢
     have h0:=hT l b (by simpa using hd [] (.head _)) Z hs
     conv=>whnf
     repeat'((first|clear U K|apply st|(apply zk;intro K U)|refine zY ?_|(refine zb (fun hc=>?_) (fun hc=>?_)<;>try exact⟨⟩)|fail)<;>conv=>whnf)
     all_goals try(exfalso;omega)
     refine BH (Av.mono h0 ?_);clear hs h0;rintro r Z ⟨rfl,hs⟩;refine zz ?_;(repeat clear U K);repeat intro K U
     exact AH ⟨by simp,hs⟩
    .rw[if_pos rfl]at hd ⊢
     conv=>whnf
     repeat'((first|clear U K|apply st|(apply zk;intro K U)|refine zY ?_|(refine zb (fun hc=>?_) (fun hc=>?_)<;>try exact⟨⟩)|fail)<;>conv=>whnf)
     all_goals try(exfalso;omega)
     exact AH ⟨rfl,hs⟩
   .obtain⟨k,hk,-⟩:=Fe har h5
    have hkm:k∈f.kids:=by rw[hk];exact .head _
    have hve:lv f=lv k:=by
     rw[Kt f,bb,if_pos h5,hk];rfl
    have hvk:lv k<=100:=by omega
    rw[if_neg (by omega),if_pos h5,hk]at hcs;have hcs2:CS f c=CS k (!c):=hcs;have h0:f.kids[(0:Int).toNat]? =some k:=by rw[hk];rfl
    rw[hcs2]at hd ⊢
    conv=>whnf
    repeat'((first|clear U K|apply st|(apply zk;intro K U)|refine zY ?_|(refine zb (fun hc=>?_) (fun hc=>?_)<;>try exact⟨⟩)|fail)<;>conv=>whnf)
    all_goals try(exfalso;omega)
    refine Av.mono (ih k hkm (hnk k hkm) hvk (!c) g fi ca H kf D l b hT hd (by omega) Z hs) ?_;clear hs;rintro r Z ⟨rfl,hs⟩;refine zz ?_;(repeat clear U K);repeat intro K U
    exact AH ⟨rfl,hs⟩
   .have hlo:=FZ hl
    rw[if_neg (by omega),if_neg (by omega),if_neg (by omega)]at hcs;have hcs2:CS f c= [[if c then Ey f else f]]:=by rw[hcs];cases c<;>rfl
    rw[hcs2]at hd ⊢;have c1:=zw l b (by omega);have hd2:=hd _ (.head _);have e:JI (if c then Ey f else f)=xF f++[.b c]:=Sp hl c
    conv=>whnf
    repeat'((first|clear U K|apply st|(apply zk;intro K U)|refine zY ?_|refine rk ?_ ?_|exact fun s e=>by cases e;rfl|refine zC ?_|(refine zb (fun hc=>?_) (fun hc=>?_)<;>try exact⟨⟩)|fail)<;>conv=>whnf)
    all_goals try(exfalso;omega)
    have hrow:([xF f++[.b c]]:List (List V))= [if c then Ey f else f].map JI:=by rw[EZ,List.map_nil,e]
    refine(?_:AL 88 Z 7 (.l (Dx l) true) (.l [xF f++[.b c]] true) _);rw[hrow];refine Kx (enc:=JI) (gI hs (es:=Dx l) (sz:=7) (fun x hx=>by obtain⟨y,_,rfl⟩:=Hc.1 hx;rfl)) 0 (xs:=l) (ys:=[if c then Ey f else f]) rfl (b:=88) (by simp;omega) T5 (fun v Z hs=>?_)
    conv=>whnf
    repeat'((first|apply st|refine rk ?_ ?_|exact fun s e=>by cases e;rfl|fail)<;>conv=>whnf)
    obtain⟨Z2,q1,q2,q3⟩:=I6 hs 0 rfl;refine BH (Av.SE (Av.mono (hT (l++[if c then Ey f else f]) false hd2 Z2 q3) ?_) q1 (ae q2 fi ca));clear hs q1 q2 q3;rintro r Z ⟨rfl,hs⟩;refine zz ?_;(repeat clear U K);repeat intro K U
    exact AH ⟨by simp,hs⟩
   .obtain⟨k0,k1,hk,-,-⟩:=Fc har h67
    have hkm0:k0∈f.kids:=by rw[hk];exact .head _
    have hkm1:k1∈f.kids:=by rw[hk];exact .tail _ (.head _)
    have hve:lv f=lv k0+lv k1:=by
     rw[Kt f,bb,if_neg (by omega),if_pos h67,hk];rfl
    have hvk:lv k0+lv k1<=100:=by omega
    rw[if_neg (by omega),if_neg (by omega),if_pos h67,hk]at hcs;have h0:f.kids[(0:Int).toNat]? =some k0:=by rw[hk];rfl
    have h1:f.kids[(1:Int).toNat]? =some k1:=by rw[hk];rfl
    have i0:=ih k0 hkm0 (hnk k0 hkm0) (by omega);have i1:=ih k1 hkm1 (hnk k1 hkm1) (by omega);by_cases hap:(c != (f.op==7))=true
    .rw [if_pos hap]at hcs
     have hcs2:CS f c=CS k0 c++CS k1 c:=hcs;rw[hcs2]at hd ⊢;rw[List.any_append];have hd3:=fun x hx=>hd x (OT _ hx)
     have hd4:=fun x hx=>hd x (NO _ hx)
     clear hcs hcs2 hd
     have h6b:(f.op==6)=c:=by
      rcases h67 with h6|h7
      .rw[h6]at hap ⊢;cases c<;>simp_all
      .rw[h7]at hap ⊢;cases c<;>simp_all
     rcases h67 with h6|h7
     all_goals
      cases c
      all_goals
       conv=>whnf
       repeat'((first|clear U K|apply st|(apply zk;intro K U)|refine zY ?_|(rw[h6b])|(refine zb (fun hc=>?_) (fun hc=>?_)<;>try exact⟨⟩)|fail)<;>conv=>whnf)
       all_goals try(exfalso;simp_all;done)
       all_goals try(exfalso;omega)
     .refine Av.mono (i0 true g fi ca H kf D l b hT hd3 (by omega) Z hs) ?_
      clear hs;rintro r Z ⟨rfl,hs⟩;generalize hB0:((CS k0 true).any fun x=>kf (l++x))=B0;cases B0
      .refine zz ?_;(repeat clear U K);repeat intro K U
       refine Av.mono (i1 true g fi ca H kf D l b hT hd4 (by omega) Z hs) ?_;clear hs;rintro r Z ⟨rfl,hs⟩;refine zz ?_;(repeat clear U K);repeat intro K U
       exact AH ⟨by rw[hB0];rfl,hs⟩
      .refine zz ?_;(repeat clear U K);repeat intro K U
       exact AH ⟨by rw[hB0];rfl,hs⟩
     .refine Av.mono (i0 false g fi ca H kf D l b hT hd3 (by omega) Z hs) ?_
      clear hs;rintro r Z ⟨rfl,hs⟩;generalize hB0:((CS k0 false).any fun x=>kf (l++x))=B0;cases B0
      .refine zz ?_;(repeat clear U K);repeat intro K U
       refine Av.mono (i1 false g fi ca H kf D l b hT hd4 (by omega) Z hs) ?_;clear hs;rintro r Z ⟨rfl,hs⟩;refine zz ?_;(repeat clear U K);repeat intro K U
       exact AH ⟨by rw[hB0];rfl,hs⟩
      .refine zz ?_;(repeat clear U K);repeat intro K U
       exact AH ⟨by rw[hB0];rfl,hs⟩
    .rw [if_neg hap]at hcs
     have hcs2:CS f c=Vl (CS k0 c) (CS k1 c):=hcs;rw[hcs2]at hd ⊢;rw[lq];have hlx:=RT k0 (B5 _ (hnk k0 hkm0)) c;have hT2:=nY hk i1 (c:=c) hT;have hd5: ∀x∈CS k0 c,(∀y∈CS k1 c,D (l++x++y))/\(l++x).length+lv k1<=500000:=fun x hx=>⟨fun y hy=>by rw[Ph];exact hd _ (FP.2 ⟨x,hx,y,hy,rfl⟩),by have:=hlx x hx;rw[Ri];omega⟩
     have h6b:(f.op==6)= !c:=by
      rcases h67 with h6|h7
      .rw[h6]at hap ⊢;cases c<;>simp_all
      .rw[h7]at hap ⊢;cases c<;>simp_all
     have hrun:=fun Z hs=>i0 c 202 [] [.rp (xF f),.rp [.b c],.rp [.f (.func g) fi ca]] H _ _ l b hT2 hd5 (by omega) Z hs
     clear hcs hcs2 hd hd5 hT2;generalize ((CS k0 c).any fun x=>(CS k1 c).any fun y=>kf (l++x++y))=B0 at *;rcases h67 with h6|h7
     all_goals
      cases c
      all_goals
       conv=>whnf
       repeat'((first|clear U K|apply st|(apply zk;intro K U)|refine zY ?_|(rw[h6b])|(refine zb (fun hc=>?_) (fun hc=>?_)<;>try exact⟨⟩)|fail)<;>conv=>whnf)
       all_goals try(exfalso;simp_all;done)
       all_goals try(exfalso;omega)
     all_goals
      refine Av.mono (hrun Z hs) ?_;clear hs;rintro r Z ⟨rfl,hs⟩;refine zz ?_;(repeat clear U K);repeat intro K U
      exact AH ⟨rfl,hs⟩
end Go.Gl
namespace Go.Gl
open Go.Proofs
abbrev X0 (p:Prog) (gen:Int) (ms:List Int):List V:=BT p++[eI gen,.l (iL ms) false]
structure VR (p:Prog) (ms:List Int):Prop where
 ok:Cg p
 I4: ∀m∈ms,Ba p m=true
 few:ms.length<=8
def Ce (s n:Nat):List Bool:=(List.range n).map s.testBit
def TJ (s n:Nat):(Ce s n).length=n:=by simp[Ce]
def XA {s n i:Nat} (h:i<n):(Ce s n)[i]? =some (s.testBit i):=by
 rw[Ce,OU,List.getElem?_range h];rfl
abbrev JT (p:Prog) (ms:List Int):List Fact:=ms.map fun m=>(B3 p m).fact
def Vc (g:FuncId) (fi ca:List V) (w:AG) (tog:List Fact->Bool):Prop:= ∀l b,(∀x∈l,Dq w x)->l.length<900->Pure zP g (fi++[LD l b]++ca) (.b (tog l))
abbrev gD (g:FuncId) (fi ca:List V) (p:Prog) (gen:Int) (ms:List Int) (s many nN:Nat):V:= .f (.func 146) [] [.rp [.f (.func g) fi ca],.rp [eI many],.rp (X0 p gen ms),.rp [eU s],.p nN 0]
section
variable {g:FuncId} {fi ca:List V} {p:Prog} {gen:Int} {ms:List Int} {tog:List Fact->Bool}
def Vi (p:Prog) (ms:List Int) (s many i:Nat):List (List (List Fact)):=(cA ((JT p ms).zip (Ce s many))).drop i
def cW {s many i:Nat} (h:many<=i):Vi p ms s many i= []:=List.drop_of_length_le (by simp[cA,TJ];omega)
def jr {s many i:Nat} {m:Int} (h:i<many) (hm:ms[i]? =some m):Vi p ms s many i=CS (B3 p m).fact (!s.testBit i)::Vi p ms s many (i+1):=by
 refine drop_cons ?_;have hz:((JT p ms).zip (Ce s many))[i]? =some ((B3 p m).fact,s.testBit i):=List.getElem?_zip_eq_some.2 ⟨by rw[OU,hm];rfl,XA h⟩;rw[cA,OU,hz];rfl
attribute [local irreducible] Av An Af AQ AL Ac AP AS AK Ab AN AO As A3 Sat AV A0 Ag W
def nu (h:VR p ms) (hcan:Vc g fi ca (AI p) tog) {s many nN:Nat} (hs64:s<18446744073709551616) (hmn:many<=ms.length): ∀(d i:Nat) (l:List Fact) (b:Bool),i+d=many->(∀x∈l,Dq (AI p) x)->l.length<=12*i-> ∀Z,Sat Z [.box nN [gD g fi ca p gen ms s many nN]]->
    Av zP 146 [eI i,LD l b,.rp [.f (.func g) fi ca],.rp [eI many],.rp (X0 p gen ms),.rp [eU s],.p nN 0] Z fun r Z'=>r= .ret (.b (O3 tog (Vi p ms s many i) l))/\Sat Z' [.box nN [gD g fi ca p gen ms s many nN]]:=by
 have hM:=Mx;have hfew:=h.few;intro d
 induction d with
 | zero=>
   intro i l b hid hl hln Z hs;have c1:=hcan l b hl (by omega);rw[cW (by omega),O3];cases ht:tog l<;>rw[ht]at c1
   all_goals
    refine YW kZ ?_
    conv=>whnf
    repeat'((first|clear U K|apply st|(apply zk;intro K U)|refine zY ?_|refine rk ?_ ?_|exact fun s e=>by cases e;rfl|refine BH (c1.use ?_)|(refine zb (fun hc=>?_) (fun hc=>?_)<;>try exact⟨⟩)|fail)<;>conv=>whnf)
    all_goals try(exfalso;simp at hc;omega)
    all_goals exact AH ⟨rfl,hs⟩
 | succ d ih=>
   intro i l b hid hl hln Z hs;have c1:=hcan l b hl (by omega);obtain⟨m,hm⟩: ∃m,ms[i]? =some m:=⟨_,Dp (by omega)⟩
   have hmm:=h.I4 m (Cm hm);have hmP:=Cu hmm;have hfa:=h.ok.facts _ (Cm hmP);rw[jr (by omega) hm,O3];cases ht:tog l<;>rw[ht]at c1
   .refine YW kZ ?_
    conv=>whnf
    repeat'((first|clear U K|apply st|(apply zk;intro K U)|refine zY ?_|refine BH (c1.use ?_)|fail)<;>conv=>whnf)
    all_goals exact AH ⟨rfl,hs⟩
   rw[Du];have c2:=Zg s (i:Int) hs64 (by omega) (by omega);have hlits:=Oy _ hfa.1;have hcl:=RT _ (B5 _ hfa.1);have hcas:=lV (B3 p m).fact hfa.1 (by have:=hfa.2;omega);have hlv:=hfa.2;simp only[Ba,A4,Cp]at hmm;have hm2:ms[((i:Nat):Int).toNat]? =some m:=by rw[HX];exact hm
   rw[HX]at c2;clear hfa;generalize B3 p m=x at *
   have hT:Zn 148 [] [.p nN 0,.rp [eI i]] [.box nN [gD g fi ca p gen ms s many nN]] (O3 tog (Vi p ms s many (i+1))) (fun y=>(∀z∈y,Dq (AI p) z)/\y.length<=12*(i+1)):=by
    rintro y b' ⟨hy1,hy2⟩ Z hs;have hi:=ih (i+1) y b' (by omega) hy1 hy2;have hwi:IntKind.i64.wrap ((i:Int)+1)=((i+1:Nat):Int):=by rw[wrap64 (by omega) (by omega)];omega
    show Av zP 148 [LD y b',.p nN 0,.rp [eI i]] Z _;refine wW kZ ?_;refine zz ?_;(repeat clear U K);repeat intro K U
    rw[hwi];refine BH (Av.mono (hi Z hs) ?_);clear hs;rintro r Z ⟨rfl,hs⟩;refine zz ?_;(repeat clear U K);repeat intro K U
    exact AH ⟨rfl,hs⟩
   refine YW kZ ?_
   conv=>whnf
   repeat'((first|clear U K|apply st|(apply zk;intro K U)|refine zY ?_|refine rk ?_ ?_|exact fun s e=>by cases e;rfl|refine BH (c1.use ?_)|refine c2.use ?_|(refine zb (fun hc=>?_) (fun hc=>?_)<;>try exact⟨⟩)|fail)<;>conv=>whnf)
   all_goals try(exfalso;simp at hc;omega)
   refine Av.mono (hcas (!s.testBit i) 148 [] [.p nN 0,.rp [eI i]] _ _ _ l b hT (fun c hc=>⟨fun z hz=>(Ds.1 hz).elim (hl z) (hlits _ c hc z),?_⟩) (by omega) Z hs) ?_
   .have:=hcl _ c hc
    rw[Ri];omega
   clear hs;rintro r Z ⟨rfl,hs⟩;refine zz ?_;(repeat clear U K);repeat intro K U
   all_goals exact AH ⟨rfl,hs⟩
def qO (h:VR p ms) (hcan:Vc g fi ca (AI p) tog) {s many:Nat} (hs64:s<18446744073709551616) (hmn:many<=ms.length):Pure zP 145 [eU s,eI many,.rp [.f (.func g) fi ca],.rp (X0 p gen ms)] (.b (F8 tog (JT p ms) (Ce s many))):=by
 refine Pure.of ?_;refine wY kZ ?_;have hs:=Sn
 conv=>whnf
 repeat'((first|clear U K|apply st|(apply zk;intro K U)|refine zY ?_|refine zs fun Z hs=>?_|refine zo fun nn hnn Z hs=>?_|fail)<;>conv=>whnf)
 refine BH (Av.mono (nu h hcan hs64 hmn many 0 [] true (by omega) (fun x hx=>by cases hx) (by simp) _ hs) ?_);clear hs;rintro r Z ⟨rfl,hs⟩;refine zz ?_;(repeat clear U K);repeat intro K U
 exact AH rfl
end
end Go.Gl
namespace Go.Gl
open Go.Proofs
attribute [local irreducible] Av An Af AQ AL Ac AP AS AK Ab AN AO As A3 Sat AV A0 Ag W
def jt {n k:Nat} (h:k<n):(Bi n)[k]? =some (k:Int):=by
 rw[Bi,OU,List.getElem?_range h];rfl
end Go.Gl
namespace Go.Gl
open Go.Proofs
def WW {w:AG} (hw:Cq w) {ls:List Fact} (h: ∀x∈ls,Dq w x) (hlen:ls.length<900):EH w (kg ls):=by
 have hadd:=MW (by have:=hw.1.1;omega) h;have hr:=Z4 hw h hlen;have hW: ∀x∈ls,Df w x:=fun x hx=>G5 (h x hx)
 refine⟨fun a p=>?_,fun a p=>?_,fun a p hpl=>?_,fun a p s hs=>gG hW hs⟩
 .obtain⟨h1,h2,h3,h4⟩:=iC hadd a p
  exact⟨h1,h2,by omega,by omega⟩
 .rw[(KC (GX ls a p).core).1]
  exact hr.low a p
 .have h0:=hr.short a p hpl
  refine List.eq_nil_iff_forall_not_mem.2 fun s hs=>?_
  have:=((GX ls a p).AF s).1 hs;rw[h0]at this;cases this
attribute [local irreducible] Av An Af AQ AL Ac AP AS AK Ab AN AO As A3 Sat AV A0 Ag W
def V5 {kf:Int->List Int->Kn} {L:Nat} (g:FuncId) (fi ca:List V) (can:Int->Bool) (hcan: ∀a:Int,0<=a->a<3-> ∀es,Bv kf es->BO zP g (fi++[CE a []]++ca) (Bo L es) fun r post=>r= .ret (.b (can a))/\Gz kf L es post) {es:List B2} (h:Bv kf es) :
    BO zP 92 [.f (.func g) fi ca] (Bo L es) fun r post=>r= .ret (.b ((Bi 3).all can))/\Gz kf L es post:=by
 intro Z hs;have hM:=Mx;have hT:(Bi 3).all can=(Bi 3).all can:=rfl;generalize hR:(Bi 3).all can=R at hT ⊢;refine y7 kZ ?_;refine zz ?_;(repeat clear U K);repeat intro K U
 refine Cn 3 (fun k (_:List B2)=>[(4,eI (BR k))]) (fun _ x=>Bo L x) (fun k x=>(Bv kf x/\Ko es x)/\R=((Bi 3).drop k).all can) es rfl ⟨⟨h,.refl _⟩,hR.symm⟩ hs ?_;clear hs hR hT;rintro k x Z hk ⟨⟨hi,hx⟩,hn⟩ hs;have hck:BR k=k:=Ae (by omega);rcases Nat.lt_or_ge k 3 with hlt|hge
 .rw[drop_cons (jt hlt),Pg]at hn
  have hc1:=hcan (BR k) (by omega) (by omega) x hi;have e:can (BR k)=can (k:Int):=by rw[hck]
  rw[e]at hc1;cases hB:can (k:Int)<;>rw[hB]at hn hc1
  all_goals
   conv=>whnf
   repeat'((first|clear U K|apply st|(apply zk;intro K U)|refine zY ?_|(refine zb (fun hc=>?_) (fun hc=>?_)<;>try exact⟨⟩)|fail)<;>conv=>whnf)
   refine BH (hc1.use (rest:=[]) (by simpa using hs) ?_);clear hs;rintro r post Z ⟨rfl,es2,hx2,hi2,rfl⟩ hs;rw[FE]at hs;refine zz ?_;(repeat clear U K);repeat intro K U
  .exact AH ⟨_,⟨by rw[hn];rfl,es2,hx.trans hx2,hi2,rfl⟩,hs⟩
  .exact⟨hlt,es2,rfl,⟨⟨hi2,hx.trans hx2⟩,by rw[hn];rfl⟩,hs⟩
 .rw[List.drop_of_length_le (by rw[Qw];omega)]at hn
  conv=>whnf
  repeat'((first|clear U K|apply st|(apply zk;intro K U)|refine zY ?_|(refine zb (fun hc=>?_) (fun hc=>?_)<;>try exact⟨⟩)|fail)<;>conv=>whnf)
  all_goals try(exfalso;omega)
  all_goals exact AH ⟨_,⟨by rw[hn];rfl,x,hx,hi,rfl⟩,hs⟩
def c8 (w:AG) (hw:Cq w):Vc 91 [] [.rp [.rp (gW w (BX w.parents))]] w (mM w):=by
 intro l b hl hlen;refine Pure.of ?_;show Av zP 91 [LD l b,.rp [.rp (gW w (BX w.parents))]] _ _;have hr:=WW hw hl hlen;have hlk:=XI w (BX w.parents) l b (MW (by have:=hw.1.1;omega) hl) hlen;have hT:mM w l=(Bi 3).all fun a=>Rx w (kg l) a 2 []:=rfl
 rw[hT];refine y8 kZ ?_;have hs:=Sn;refine zz ?_;(repeat clear U K);repeat intro K U
 refine hlk.use (rest:=[]) (by simpa using hs) ?_;clear hs;rintro r post Z ⟨L,es,rfl,hinv,rfl⟩ hs;rw[FE]at hs
 conv=>whnf
 refine(V5 94 [.a (gv w (BX w.parents) L)] [] (fun a=>Rx w (kg l) a 2 []) (fun a _ _ es hi=>ph w hw hr a 2 [] rfl es hi) hinv).use (rest:=[]) (by simpa using hs) ?_;clear hs;rintro r post Z ⟨rfl,es2,hx2,hi2,rfl⟩ hs;refine zz ?_;(repeat clear U K);repeat intro K U
 exact AH rfl
end Go.Gl
