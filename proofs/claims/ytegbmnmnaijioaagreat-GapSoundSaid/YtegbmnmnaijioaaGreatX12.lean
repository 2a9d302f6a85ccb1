import Derived.Test.YtegbmnmnaijioaaGreatRows
import Derived.HandedShaped
import Derived.Test.YtegbmnmnaijioaaGreatX6
import Derived.Test.YtegbmnmnaijioaaGreatX11
set_option linter.all false
set_option linter.defProp false
set_option maxHeartbeats 8000000
noncomputable section
namespace Go.Gl
open Go.Proofs
attribute [local irreducible] Ar Aj AZ AQ AL AX AP AR AJ AW AM AN Am Av Sat AT As Aa W
def UO {Z:AE} {X:List At} {L:Nat} {pre post:List B6} {e:B6} {s:List B6} (h:Sat Z (X++CI L (pre++e::(post++s)))):Sat Z (.own e.vs 1 (iL e.k.AH)::(X++Hx L pre post e s)):=by
 have h2:=H4 h;refine h2.perm ((I9 _ _ _ _).symm.trans (.cons _ ?_));exact(List.perm_middle.trans (.cons _ List.perm_middle)).symm
def rA {Z:AE} {X:List At} {L:Nat} {pre post:List B6} {e:B6} {s:List B6} (h:Sat Z (.own e.vs 1 (iL e.k.AH)::(X++Hx L pre post e s))):Sat Z (X++CI L (pre++e::(post++s))):=by
 refine Eg (X:=X) (e:=e) (e':=e) rfl rfl rfl ?_;refine h.perm ?_;refine List.Perm.trans (.cons _ (List.perm_middle.trans (.cons _ List.perm_middle))) ?_;exact I9 _ _ _ _
def ba (s:Nat) (c:Int) (hs0:s<18446744073709551616) (h0:0<=c) (hc:c<64):Pure zP 182 [eU s,eI c] (.b (s.testBit c.toNat)):=by
 have:=QO s c.toNat hs0 (by omega);rw[Int.toNat_of_nonneg h0]at this;exact this
def nJ {m:Nat} (hm:m<18446744073709551616):L0 m 1=Hv m:=by
 refine Nat.eq_of_testBit_eq fun i=>?_
 rw[XW];rcases Nat.lt_or_ge i 64 with hlt|hge
 .rw[Q5 hlt,show(1:Nat)=2 ^ 0 from rfl,Nat.testBit_two_pow]
  congr 2;rw[G3,CC,Cd];omega
 .have h64:18446744073709551616<=2 ^ i:=by simpa using Nat.pow_le_pow_right (n:=2) (by decide) hge
  rw[Nat.testBit_lt_two_pow (Nat.lt_of_lt_of_le (VF _ _) h64),Nat.testBit_lt_two_pow (Nat.lt_of_lt_of_le hm h64)];rfl
def TH (w : AF) (hw:B3 w) {kf:Int->List Int->Kn} (hr:EK w kf) {a:Int} {p:List Int} (hp:p.length<=2) (can:Int->Bool)
    (hcan: ∀s∈(kf a p).AH,∀L es,Bx kf es->BS zP 267 [Vb w (A5 w.parents) L,CG a (p++[s])] (CI L es) fun r post=>r= .ret (.b (can s))/\P9 kf L es post) {L:Nat} {es:List B6} (h:Bx kf es) :
    BS zP 196 [Vb w (A5 w.parents) L,CG a p] (CI L es) fun r post=>r= .ret (.t [eU (PA w (kf a p) (fun s=>(kf a (p++[s])).Ac) can).1,.b (PA w (kf a p) (fun s=>(kf a (p++[s])).Ac) can).2])/\P9 kf L es post:=by
 intro Z hs;have hM:=Mx;generalize hus:A5 w.parents=us at *;refine xr kZ ?_;refine zz ?_;(repeat clear U K);repeat intro K U
 refine(L9 w us h (a:=a) (p:=p) hp).use (rest:=[]) (by simpa using hs) ?_;clear hs;rintro r post Z ⟨es4,e4,got,rfl,rfl⟩ hs;have hek:=got.k;obtain⟨pre,post,rfl⟩:=List.append_of_mem got.mem;rw[FE]at hs;have hsc:=hs;replace hs:=H4 (X:=[]) hs;have hok:=hr.ok a p;have hsl:=(hr.ok a p).2.2.2;have hsh:=hr.short a p;have hsw:=hr.AH a p;rw[<-hek]at hok hsl hsh hsw hcan;have hO:PA w (kf a p) (fun s=>(kf a (p++[s])).Ac) can=PA w e4.k (fun s=>(kf a (p++[s])).Ac) can:=by rw[hek]
 have hOn:(e4.k.whole=true\/e4.k.BW.testBit 1=true\/e4.k.BW.testBit 2=true\/e4.k.Dt.testBit 0=true)->PA w (kf a p) (fun s=>(kf a (p++[s])).Ac) can=(0,false):=fun h=>by
  rw[hO,PA,if_pos];rcases h with h|h|h|h<;>rw[h]<;>simp
 have hOy:e4.k.whole=false->e4.k.BW.testBit 1=false->e4.k.BW.testBit 2=false->e4.k.Dt.testBit 0=false->PA w (kf a p) (fun s=>(kf a (p++[s])).Ac) can=match JE w (fun s=>(kf a (p++[s])).Ac) can e4.k.AH (e4.k.BW,e4.k.Dt)with
  | none=>(0,false)
  | some u=>(Hv (Bp (A5 w.parents) w.parents.length u.1),Hv (Bp (A5 w.parents) w.parents.length u.1)&&&u.2==0):=fun h1 h2 h3 h4=>by
  rw[hO,PA,h1,h2,h3,h4];rfl
 clear hO;cases hb0:e4.k.whole<;>rw[hb0]at hs
 rotate_left
 .refine zz ?_;(repeat clear U K);repeat intro K U
  exact AI ⟨_,⟨by rw[hOn (.inl hb0)];rfl,_,got.ext,got.inv,rfl⟩,hsc⟩
 .conv => whnf
  repeat'((first|clear U K|apply st|(apply zk;intro K U)|refine zY ?_|refine Pure.use (QO e4.k.BW 1 hok.1 (by decide)) ?_|refine Pure.use (QO e4.k.BW 2 hok.1 (by decide)) ?_|refine Pure.use (QO e4.k.Dt 0 hok.2.1 (by decide)) ?_|refine za (fun hc=>?_) fun hc=>?_|fail)<;>conv=>whnf)
  all_goals first
   | exact AI ⟨_,⟨by rw[hOn (by first|exact .inl (by assumption)|exact .inr (.inl (by assumption))|exact .inr (.inr (.inl (by assumption)))|exact .inr (.inr (.inr (by assumption))))];rfl,_,got.ext,got.inv,rfl⟩,hsc⟩
   | skip
  replace hOy:=hOy hb0 (by assumption) (by assumption) (by assumption);clear hOn;generalize hnf:(fun s=>(kf a (p++[s])).Ac)=Ac at *
  have hs1:Sat Z (.own e4.vs 1 (iL e4.k.AH)::Hx L pre post e4 []):=by
   have h2:=UO (X:=[]) (L:=L) (pre:=pre) (post:=post) (e:=e4) (s:=[]) (by simpa using hsc);simpa using h2
  refine CZ e4.k.AH.length (fun k (x:(Nat×Nat)×List B6)=>[(47,eI (BL k)),(7,eU x.1.1),(8,eU x.1.2)]) (fun k x=> .own e4.vs 1 (iL e4.k.AH)::Hx L pre post e4 x.2) (fun k x=>(x.1.1<18446744073709551616/\x.1.2<18446744073709551616)/\(Bx kf (pre++e4::(post++x.2))/\ ∀y∈x.2,y.k=k0)/\JE w Ac can e4.k.AH (e4.k.BW,e4.k.Dt)=JE w Ac can (e4.k.AH.drop k) x.1) ((e4.k.BW,e4.k.Dt),[]) rfl ⟨⟨hok.1,hok.2.1⟩,⟨by simpa using got.inv,by simp⟩,rfl⟩ hs1 ?_;clear hs hs1 hsc;rintro k ⟨⟨m,no⟩,new⟩ Z hk ⟨⟨hm,hno⟩,⟨hinv,hnew⟩,hF⟩ hs;simp only at hm hno hinv hnew hF hs;have hck:BL k=k:=Ag (by have:=hok.2.2.2;omega);rcases BF e4.k.AH hk with⟨s,hsk,hlt⟩|hke
  .have hsm:=CY hsk
   have hp2:p.length<2:=by
    rcases Nat.lt_or_ge p.length 2 with h'|h'
    .exact h'
    .rw[hsh h']at hsm;cases hsm
   obtain⟨hs0,hs1⟩:=hsw s hsm;rw[drop_cons hsk,JE]at hF
   conv=>whnf
   repeat'((first|clear U K|apply st|(apply zk;intro K U)|refine zY ?_|refine ze fun x hx=>?_|refine zs fun Z hs=>?_|refine Pure.use (PY a p _ hp2) ?_|refine zo fun nn hnn Z hs=>?_|fail)<;>conv=>whnf)
   obtain rfl:x=s:=by rw[hck,HP,hsk]at hx;exact(Option.some.inj hx).symm
   generalize nn=n7 at *;have hs2:Sat Z ([.box n7 (F0 a (p++[x]))]++CI L (pre++e4::(post++new))):=rA (X:=[.box n7 (F0 a (p++[x]))]) (hs.perm (.swap _ _ _));clear hs;obtain⟨o,ho⟩: ∃o,w.owner[x.toNat]? =some o:=⟨_,DC (by omega)⟩
   have hoI:Bc w x=o:=by simp only[Bc,C6,ho];rfl
   obtain⟨ho1,ho2⟩:=hw.2.2 o (CY ho);have hwp:=hw.1.1;have hcx:=hcan x hsm L;cases hnx:Ac x<;>cases hcy:can x
   all_goals
    rw[hcy]at hcx;rw[aF,hnx,hcy,hoI]at hF;refine(L9 w us hinv (a:=a) (p:=p++[x]) (by simp;omega)).use (rest:=[.box n7 (F0 a (p++[x]))]) (hs2.perm PL) ?_;clear hs2;rintro r post' Z ⟨es5,e5,got5,rfl,rfl⟩ hs;have hek5:e5.k.Ac=Ac x:=by rw[got5.k,<-hnf]
    rw[hnx]at hek5;obtain⟨newA,heA,hnA⟩:=got5.ext;obtain⟨pre5,post5,he5⟩:=List.append_of_mem got5.mem;rw[he5]at hs;replace hs:=H4 (X:=[.box n7 (F0 a (p++[x]))]) (hs.perm PL);rw[hek5]at hs
    conv=>whnf
    repeat'((first|apply st|refine zY ?_|refine rk ?_ ?_|exact fun s e=>by cases e;rfl|fail)<;>conv=>whnf)
    have hs2:Sat Z ([.box n7 (F0 a (p++[x]))]++CI L (pre5++e5::post5)):=Eg (X:=[.box n7 (F0 a (p++[x]))]) (e:=e5) (e':=e5) rfl rfl rfl (by rw[<-hek5]at hs;exact hs);clear hs;refine(hcx es5 got5.inv).use (rest:=[.box n7 (F0 a (p++[x]))]) (by rw[he5];exact hs2.perm PL) ?_;clear hs2;rintro r post' Z ⟨rfl,es6,⟨new6,he6,hn6⟩,hi6,rfl⟩ hs;have he7:es6=pre5++e5::(post5++new6):=by rw[he6,he5];simp
    rw[he7]at hs;replace hs:=H4 (X:=[.box n7 (F0 a (p++[x]))]) (hs.perm PL);rw[hek5]at hs
    conv=>whnf
    repeat'((first|clear U K|apply st|(apply zk;intro K U)|refine zY ?_|refine rk ?_ ?_|exact fun s e=>by cases e;rfl|refine Pure.use (IA m o hm (by omega) (by omega)) ?_|refine Pure.use (IA no o hno (by omega) (by omega)) ?_|fail)<;>conv=>whnf)
    simp only[Bool.not_false,Bool.not_true,Bool.and_true,Bool.and_false,NM,if_false,if_true,Option.bind_some,Option.bind_none]at hF;have e7:es6=pre++e4::(post++(new++newA++new6)):=by rw[he6,heA];simp
    have hs2:Sat Z ([.box n7 (F0 a (p++[x]))]++CI L (pre5++e5::(post5++new6))):=Eg (X:=[.box n7 (F0 a (p++[x]))]) (e:=e5) (e':=e5) rfl rfl rfl (by rw[<-hek5]at hs;exact hs)
    have hs3:Sat Z (CI L (pre++e4::(post++(new++newA++new6)))):=by
     rw[<-he7,e7]at hs2;exact hs2.less (List.sublist_append_right _ _)
    have hi7:Bx kf (pre++e4::(post++(new++newA++new6))):=by rw[<-e7];exact hi6
    have hn7: ∀y∈new++newA++new6,y.k=k0:=fun y hy=>by
     rcases D9.1 hy with hy|hy
     .rcases D9.1 hy with hy|hy
      .exact hnew y hy
      .exact hnA y hy
     .exact hn6 y hy
    have hob:2 ^ o.toNat<18446744073709551616:=Gc (by omega)
   .exact⟨hlt,((m,no|||2 ^ o.toNat),new++newA++new6),rfl,⟨⟨hm,H2 hno hob⟩,⟨hi7,hn7⟩,hF⟩,UO (X:=[]) hs3⟩
   .exact⟨hlt,((m,no),new++newA++new6),rfl,⟨⟨hm,hno⟩,⟨hi7,hn7⟩,hF⟩,UO (X:=[]) hs3⟩
   .rw[hF]at hOy
    exact AI ⟨_,⟨by rw[hOy];rfl,_,got.ext.trans ⟨_,by simp,hn7⟩,hi7,rfl⟩,hs3⟩
   .exact⟨hlt,((m|||2 ^ o.toNat,no),new++newA++new6),rfl,⟨⟨H2 hm hob,hno⟩,⟨hi7,hn7⟩,hF⟩,UO (X:=[]) hs3⟩
  .rw [Ao hke,JE]at hF
   rw[hF]at hOy;simp only at hOy;refine zz ?_;(repeat clear U K);repeat intro K U
   have hu:ra us:=by rw[<-hus];exact E9 _ _ (by have:=hw.1.1;omega)
   have hul:us.length=3+w.parents.length:=by rw[<-hus];exact C5 _ _
   have hwp:=hw.1.1;have hwl:IntKind.i64.wrap (3+((En w.parents).length:Nat))=3+(w.parents.length:Int):=by rw[Ca,wrap64 (by omega) (by omega)]
   refine CZ w.parents.length (fun k (x:Nat)=>[(14,eI (Lz 3 k)),(7,eU x)]) (fun _ _=> .own e4.vs 1 (iL e4.k.AH)::Hx L pre post e4 new) (fun k x=>x<18446744073709551616/\x=Bp us k m) m rfl ⟨hm,rfl⟩ hs ?_;clear hs;clear hke hck hk k;rintro k x Z hk ⟨hx64,hxe⟩ hs;have hc3:Lz 3 k=3+k:=Pj (by omega) (by omega);by_cases hlt:k<w.parents.length
   .have hbt:Bp us (k+1) m=if x.testBit (Lz 3 k).toNat then x|||us.getD (3+k) 0 else x:=by
     rw[Bp,<-hxe,hc3,show(3+(k:Int)).toNat=3+k by omega]
    have hup:(List.drop ((Lz 3 k).toNat*1) (List.drop 2 (wC w us)))[0]? =some (eU (us.getD (3+k) 0)):=by
     rw[nU,nU,<-aB w us (i:=3+k) (by omega)];congr 1;omega
    conv=>whnf
    repeat'((first|clear U K|apply st|(apply zk;intro K U)|refine zY ?_|(rw[hup])|refine Pure.use (ba x (Lz 3 k) hx64 (by omega) (by omega)) ?_|(refine zb (fun hc=>?_) (fun hc=>?_)<;>try exact⟨⟩)|fail)<;>conv=>whnf)
    .refine⟨hlt,x|||us.getD (3+k) 0,?_,⟨H2 hx64 (Nh hu _),by rw[hbt,if_pos (by assumption)]⟩,hs⟩
     rw[HG hx64 (Nh hu _)];rfl
    .exact⟨hlt,x,rfl,⟨hx64,by rw[hbt,if_neg (by rw[‹x.testBit _=false›];decide)]⟩,hs⟩
   .have hke:k=w.parents.length:=by omega
    rw[hus,<-hke,<-hxe]at hOy
    have hA:bits .andNot .u64 (x:Int) 1=((Hv x:Nat):Int):=by
     have:=IY (a:=x) (b:=1);rw[nJ hx64]at this;exact this
    have hcl:Hv x<18446744073709551616:=by unfold Hv;omega
    have hB:bits .and .u64 ((Hv x:Nat):Int) (no:Int)=((Hv x&&&no:Nat):Int):=Fw hcl hno
    conv=>whnf
    repeat'((first|clear U K|apply st|(apply zk;intro K U)|refine zY ?_|(refine zb (fun hc=>?_) (fun hc=>?_)<;>try exact⟨⟩)|fail)<;>conv=>whnf)
    rw[hA,hB];refine AI ⟨_,⟨?_,_,got.ext.trans ⟨new,by simp,hnew⟩,hinv,rfl⟩,tF hs⟩;rw[hOy]
    have hz:(((Hv x&&&no:Nat):Int)==0)=(Hv x&&&no==0):=by
     rw[G3,Cd,Cd];omega
    rw[<-hz]
def y3 (w:AF) (hw:B3 w) {kf:Int->List Int->Kn} (hr:EK w kf) (a:Int): ∀(d:Nat) (p:List Int),p.length+d=2-> ∀(L:Nat) (es:List B6),Bx kf es->
    BS zP 267 [Vb w (A5 w.parents) L,CG a p] (CI L es) fun r post=>r= .ret (.b (PE w kf a d p))/\P9 kf L es post:=by
 intro d
 induction d with
 | zero=>
   intro p hp L es h Z hs;have hint:=Rk w (A5 w.parents) hr h (L:=L) (a:=a) (p:=p) (by omega);have hnone:=fun es h=>bP w (A5 w.parents) hr (es:=es) h (L:=L) (a:=a) (p:=p) (by omega)
   have hobj:=fun es h=>TH w hw hr (a:=a) (p:=p) (by omega) (fun _=>false) (by rw[hr.short a p (by omega)];intro s hs;cases hs) (L:=L) (es:=es) h
   rw[PE];cases hI:F1 kf a p<;>cases hN:DZ kf a p<;>rw[hI]at hint<;>rw[hN]at hnone
   all_goals
    refine js kZ ?_;refine zz ?_;(repeat clear U K);repeat intro K U
    refine hint.use (rest:=[]) (by simpa using hs) ?_;clear hs;rintro r post Z ⟨rfl,es2,hx2,hi2,rfl⟩ hs;rw[FE]at hs;refine zz ?_;(repeat clear U K);repeat intro K U
   rotate_left 2
   .exact AI ⟨_,⟨rfl,es2,hx2,hi2,rfl⟩,hs⟩
   .exact AI ⟨_,⟨rfl,es2,hx2,hi2,rfl⟩,hs⟩
   all_goals
    refine(hnone es2 hi2).use (rest:=[]) (by simpa using hs) ?_;clear hs;rintro r post Z ⟨rfl,es3,hx3,hi3,rfl⟩ hs;rw[FE]at hs;refine zz ?_;(repeat clear U K);repeat intro K U
   rotate_left 1
   .exact AI ⟨_,⟨rfl,es3,hx2.trans hx3,hi3,rfl⟩,hs⟩
   .refine(hobj es3 hi3).use (rest:=[]) (by simpa using hs) ?_
    clear hs;rintro r post Z ⟨rfl,es4,hx4,hi4,rfl⟩ hs;rw[FE]at hs;refine zz ?_;(repeat clear U K);repeat intro K U
    exact AI ⟨_,⟨rfl,es4,(hx2.trans hx3).trans hx4,hi4,rfl⟩,hs⟩
 | succ d ih=>
   intro p hp L es h Z hs;have hint:=Rk w (A5 w.parents) hr h (L:=L) (a:=a) (p:=p) (by omega);have hnone:=fun es h=>bP w (A5 w.parents) hr (es:=es) h (L:=L) (a:=a) (p:=p) (by omega)
   have hobj:=fun es h=>TH w hw hr (a:=a) (p:=p) (by omega) (fun s=>PE w kf a d (p++[s])) (fun s hs L es h=>ih (p++[s]) (by simp;omega) L es h) (L:=L) (es:=es) h
   rw[PE];cases hI:F1 kf a p<;>cases hN:DZ kf a p<;>rw[hI]at hint<;>rw[hN]at hnone
   all_goals
    refine js kZ ?_;refine zz ?_;(repeat clear U K);repeat intro K U
    refine hint.use (rest:=[]) (by simpa using hs) ?_;clear hs;rintro r post Z ⟨rfl,es2,hx2,hi2,rfl⟩ hs;rw[FE]at hs;refine zz ?_;(repeat clear U K);repeat intro K U
   rotate_left 2
   .exact AI ⟨_,⟨rfl,es2,hx2,hi2,rfl⟩,hs⟩
   .exact AI ⟨_,⟨rfl,es2,hx2,hi2,rfl⟩,hs⟩
   all_goals
    refine(hnone es2 hi2).use (rest:=[]) (by simpa using hs) ?_;clear hs;rintro r post Z ⟨rfl,es3,hx3,hi3,rfl⟩ hs;rw[FE]at hs;refine zz ?_;(repeat clear U K);repeat intro K U
   rotate_left 1
   .exact AI ⟨_,⟨rfl,es3,hx2.trans hx3,hi3,rfl⟩,hs⟩
   .refine(hobj es3 hi3).use (rest:=[]) (by simpa using hs) ?_
    clear hs;rintro r post Z ⟨rfl,es4,hx4,hi4,rfl⟩ hs;rw[FE]at hs;refine zz ?_;(repeat clear U K);repeat intro K U
    exact AI ⟨_,⟨rfl,es4,(hx2.trans hx3).trans hx4,hi4,rfl⟩,hs⟩
abbrev sU:V:= .FF 260 (.a [])
def lD (w:AF) (hw:B3 w) {kf:Int->List Int->Kn} (hr:EK w kf) {L:Nat} {es:List B6} (h:Bx kf es) :
    BS zP 192 [Vb w (A5 w.parents) L] (CI L es) fun r post=>r=(if gZ w kf then .ret (.t [])else .Bh sU)/\post= []:=by
 intro Z hs;refine xx kZ ?_;refine zz ?_;(repeat clear U K);repeat intro K U
 refine CZ 3 (fun k (x:List B6)=>[(3,eI (BL k))]) (fun k x=>CI L x) (fun k x=>Bx kf x/\gZ w kf=((BD 3).drop k).all fun a=>PE w kf a 2 []) es rfl ⟨h,rfl⟩ hs ?_;clear hs h;rintro k es Z hk ⟨h,hn⟩ hs;have hck:BL k=k:=Ag (by simp only[Ae];omega);have hl3:(BD 3).length=3:=rfl;rcases BF (BD 3) hk with⟨a,ha,hlt⟩|hke
 .rw[drop_cons ha,R8]at hn
  have hak:a=BL k:=by
   rw[hck];simp only[BD,OR,List.getElem?_range (show k<3 from hlt),gG]at ha;exact(Option.some.inj ha).symm
  subst hak;have hcan:=y3 w hw hr (BL k) 2 [] rfl L es h;cases hC:PE w kf (BL k) 2 []<;>rw[hC]at hcan hn
  all_goals
   conv=>whnf
   repeat'((first|clear U K|apply st|(apply zk;intro K U)|refine zY ?_|(refine zb (fun hc=>?_) (fun hc=>?_)<;>try exact⟨⟩)|fail)<;>conv=>whnf)
   refine hcan.use (rest:=[]) (by simpa using hs) ?_;clear hs;rintro r post Z ⟨rfl,es2,hx2,hi2,rfl⟩ hs;rw[FE]at hs;refine zz ?_;(repeat clear U K);repeat intro K U
  .exact DV ⟨_,⟨by rw[hn];rfl,rfl⟩,hs.less (O4 _)⟩
  .exact⟨by omega,es2,rfl,⟨hi2,by simpa using hn⟩,hs⟩
 .rw[Ao hke]at hn
  conv=>whnf
  repeat'((first|clear U K|apply st|(apply zk;intro K U)|refine zY ?_|(refine zb (fun hc=>?_) (fun hc=>?_)<;>try exact⟨⟩)|fail)<;>conv=>whnf)
  exact AI ⟨_,⟨by rw[hn];rfl,rfl⟩,hs.less (O4 _)⟩
def MV {w:AF} {ls:List Fact} (hw:w.parents.length<=60) (h: ∀x∈ls,DY w x):Nu ls:=by
 intro l hl;obtain⟨-,hc,hsm,hsh⟩:=Mk h;obtain⟨-,hn,hlf⟩:=IF (h l hl);exact⟨Ff hlf,hsh l hl,fun ho=>by have:=hc l hl ho;omega,hsm l hl⟩
def ui {ls:List Fact} (h:Yk ls) (a:Int) (p:List Int): -1000000000<=(kn ls a p).low/\(kn ls a p).low<=1000000000:=by
 have key: ∀(ls:List Fact) (k:Kn),Yk ls->(-1000000000<=k.low/\k.low<=1000000000)-> -1000000000<=(ls.foldl (C7 a p) k).low/\(ls.foldl (C7 a p) k).low<=1000000000:=by
  intro ls
  induction ls with
  | nil=>intro k _ h;exact h
  | cons l r ih=>
    intro k hs hk;refine ih _ (fun x hx=>hs x (.tail _ hx)) ?_;have hn:=hs l (.head _);unfold C7 B1 B2 gV
    repeat' split
    all_goals first
     | exact hk
     | exact hn
     | (simp only;exact hk)
     | (simp only;exact hn)
 exact key ls k0 h ⟨by decide,by decide⟩
def bH {w:AF} {ls:List Fact} (h: ∀x∈ls,DY w x):HY w.owner.length ls:=by
 intro l hl s hs;obtain⟨-,hn,-⟩:=IF (h l hl);rw[By,A0]at hn;have:=hn.1;simp only[C8,Eo,A0,DJ,Hy,CC]at this;exact this.2.2.2.2.1.1 s hs
def bB {w:AF} (hw:B3 w) {ls:List Fact} (h: ∀x∈ls,DY w x) (hlen:ls.length<900):EK w (kn ls):=by
 have hadd:=MV (by have:=hw.1.1;omega) h;obtain⟨-,-,hsm,hsh⟩:=Mk h;have hp:=bH h;refine⟨fun a p=>?_,ui hsm,fun a p hpl=>?_,fun a p s hs=>?_⟩
 .obtain⟨h1,h2,h3,h4⟩:=jW hadd a p
  exact⟨h1,h2,by omega,by omega⟩
 .rw[Jv hp]
  exact N2 hsh hpl
 .rw[Jv hp]at hs
  exact IN hs
def tb {w:AF} (hw:B3 w) {ls:List Fact} (h: ∀x∈ls,DY w x):gZ w (kn ls)=HR w ls:=by
 obtain⟨-,hc,-,-⟩:=Mk h;refine tc ?_ (fun s h0 h1=>?_) (by have:=hw.1.1;omega) (fun l hl ho=>by have:=hc l hl ho;omega) (bH h)
 .exact KY hw.1
 .obtain⟨o,ho⟩: ∃o,w.owner[s.toNat]? =some o:=⟨_,DC (by omega)⟩
  have hoI:Bc w s=o:=by simp only[Bc,C6,ho];rfl
  rw[hoI];exact hw.2.2 o (CY ho)
def qt {Z:AE} {n:Nat} {x:V} {rest:List At} (hs:Sat Z (.box n [x]::rest)) {Q:AE->Prop} (hq: ∀Z',Sat Z' (.box n [.b false]::rest)->Q Z'):Hw zP 191 [.p n 0] (some sU) Z Q:=by
 refine cE kZ ?_
 conv=>whnf
 repeat'((first|clear U K|apply st|(apply zk;intro K U)|refine zs fun Z hs=>?_|refine sy rfl ?_|refine zo fun nn hnn Z hs=>?_|fail)<;>conv=>whnf)
 exact hq _ (hs.less (K7 _ _))
def qu {Z:AE} {n:Nat} {x:V} {rest:List At} (hs:Sat Z (.box n [x]::rest)) {Q:AE->Prop} (hq: ∀Z',Sat Z' (.box n [x]::rest)->Q Z'):Hw zP 191 [.p n 0] none Z Q:=by
 refine cE kZ ?_
 conv=>whnf
 repeat'((first|clear U K|apply st|(apply zk;intro K U)|refine zY ?_|refine zs fun Z hs=>?_|refine zo fun nn hnn Z hs=>?_|fail)<;>conv=>whnf)
 exact hq _ (hs.less (K7 _ _))
attribute [local irreducible] Hw
def Xp (w:AF) (hw:B3 w) (ls:List Fact) (b:Bool) (hl: ∀x∈ls,DY w x) (hlen:ls.length<900):Pure zP 127 [.rp (wC w (A5 w.parents)),.l (Dx ls) b] (.b (HR w ls)):=by
 refine Pure.of ?_;refine yk kZ ?_;have hs:=Sn
 conv=>whnf
 repeat'((first|clear U K|apply st|(apply zk;intro K U)|refine zo fun nn hnn Z hs=>?_|fail)<;>conv=>whnf)
 refine(lL w (A5 w.parents) ls b (MV (by have:=hw.1.1;omega) hl) hlen).use (rest:=[.box nn [.b false]]) (by simpa using hs) ?_;clear hs;rintro r post Z ⟨L,es,rfl,hinv,rfl⟩ hs;have hwh:=lD w hw (bB hw hl hlen) hinv (L:=L);rw[tb hw hl]at hwh;cases ht:HR w ls<;>rw[ht]at hwh
 all_goals
  conv=>whnf
  refine hwh.use (rest:=[.box nn [.b false]]) hs ?_;clear hs;rintro r post Z ⟨rfl,rfl⟩ hs
  conv=>whnf
  repeat'((first|clear U K|apply st|(apply zk;intro K U)|refine zs fun Z hs=>?_|fail)<;>conv=>whnf)
 .refine qt (rest:=[]) hs fun Z hs=>?_
  refine zz ?_;(repeat clear U K);repeat intro K U
  exact AI (by rw[ht];rfl)
 .refine qu (rest:=[]) (x:= .b true) hs fun Z hs=>?_
  refine zz ?_;(repeat clear U K);repeat intro K U
  exact AI (by rw[ht];rfl)
end Go.Gl
namespace Go.Gl
open Go.Proofs
attribute [local irreducible] Ar Aj AZ AQ AL AX AP AR AJ AW AM AN Am Av Sat AT As Aa W
def SC {α S:Type} (stp:α->S->Bool×S) (D:α->S->Prop):List α->S->Prop
 | [],_=>True
 | y::r,s=>D y s/\((stp y s).1=true->SC stp D r (stp y s).2)
section
variable {α β S:Type} {stp:α->S->Bool×S} {D:α->S->Prop}
def M4: ∀(A B:List α) (s:S),CL stp (A++B) s=if(CL stp A s).1 then CL stp B (CL stp A s).2 else(false,(CL stp A s).2)
 | [],B,s=>by simp[CL]
 | y::r,B,s=>by
   rw[List.cons_append,CL,CL];cases(stp y s).1
   .rfl
   .simpa using M4 r B (stp y s).2
def Q6 (l:α) (s:S):CL stp [l] s=stp l s:=by
 rw[CL,CL];rcases stp l s with⟨b,s'⟩;cases b<;>rfl
def PX: ∀ {A B:List α} {s:S},SC stp D (A++B) s->SC stp D A s/\((CL stp A s).1=true->SC stp D B (CL stp A s).2)
 | [],B,s,h=>⟨trivial,fun _=>h⟩
 | y ::r,B,s,h=>by
   obtain⟨h1,h2⟩:=h;rw[SC,CL];cases hy:(stp y s).1
   .exact⟨⟨h1,fun h=>(by cases h)⟩,fun h=>(by simp at h)⟩
   .obtain⟨h3,h4⟩:=PX (h2 hy)
    exact⟨⟨h1,fun _=>h3⟩,by simpa using h4⟩
def PW {A:List α}: ∀ {B:List α} {s:S},(∀y∈B,y∈A)->SC stp D B s->SC stp (fun y s=>y∈A/\D y s) B s
 | [],_,_,_=>trivial
 | y::r,_,hm,h=>⟨⟨hm y (.head _),h.1⟩,fun hy=>PW (fun z hz=>hm z (.tail _ hz)) (h.2 hy)⟩
def bM {g:β->α}: ∀ {B:List β} {s:S},SC stp D (B.map g) s->SC (fun b s=>stp (g b) s) (fun b s=>D (g b) s) B s
 | [],_,_=>trivial
 | y::r,_,h=>⟨h.1,fun hy=>bM (h.2 hy)⟩
end
section
variable {S:Type} {stp:List Fact->S->Bool×S} {D:List Fact->S->Prop}
def Tv (B:List (List Fact)): ∀(A:List (List Fact)) (s:S),CL stp (Fo A B) s=CL (fun x s=>CL (fun y s=>stp (C1 x y) s) B s) A s
 | [],s=>rfl
 | x::r,s=>by
   have ih:=Tv B r;rw[Fo,List.flatMap_cons,M4,M3,CL];simp only[Fo]at ih;rw[ih]
def W4 (B:List (List Fact)): ∀ {A:List (List Fact)} {s:S},SC stp D (Fo A B) s->SC (fun x s=>CL (fun y s=>stp (C1 x y) s) B s) (fun x s=>SC (fun y s=>stp (C1 x y) s) (fun y s=>D (C1 x y) s) B s) A s
 | [],_,_=>trivial
 | x::r,s,h=>by
   rw[Fo,List.flatMap_cons]at h;obtain⟨h1,h2⟩:=PX h;refine⟨bM h1,fun hy=>?_⟩;rw[M3]at h2;exact W4 B (h2 hy)
end
abbrev LB (l:List Fact) (b:Bool):V:= .l (Dx l) b
def Sr {S:Type} (x:V) (H:S->List At) (stp:List Fact->S->Bool×S) (D:List Fact->S->Prop):Prop:= ∀b,DL zP x (fun l=>LB l b) H stp D
abbrev Vx (n:Nat):V:= .f (.func 187) [] [.p n 0]
def TK {f:Fact} (hl:Bl f=true) (c:Bool):JQ (if c then Ez f else f)=xF f++[.b c]:=by
 have:=Ff hl;cases c with
 | true=>rfl
 | false=>
   have h5: ¬f.op=5:=by omega
   simp only[JQ,NM,if_false,Ah,if_neg h5]
def WalkC (f:Fact):Prop:= ∀(c:Bool) (S:Type) (fn:Fn) (fi ca:List V) (H:S->List At) (stp:List Fact->S->Bool×S) (D:List Fact->S->Prop) (nW:Nat) (s:S),
 Sr (.f fn fi ca) (fun s=> .box nW [Vx nW]::H s) stp D->SC stp D (Be f c) s-> ∀Z,Sat Z (.box nW [Vx nW]::H s)->
  Am zP (Vx nW) [.a (xF f),.b c,.f fn fi ca] Z fun r Z'=>r= .ret (.b (CL stp (Be f c) s).1)/\Sat Z' (.box nW [Vx nW]::H (CL stp (Be f c) s).2)
def mz {w:AF} {S:Type} {fn:Fn} {fi ca:List V} {H:S->List At} {stp:List Fact->S->Bool×S} {D:List Fact->S->Prop} (hT:Sr (.f fn fi ca) H stp D) {k0 k1:Fact} {c:Bool} (hn0:BN w k0=true) (hn1:BN w k1=true) (hv0:lv k0<=100) (hv1:lv k1<=100) {a:List Fact} (ha:a∈Be k0 c) (fa:Bool) :
    Sr (.f (.func 189) [] [.rp [.f fn fi ca],.rp [LB a fa]]) H (fun y s=>stp (C1 a y) s) (fun y s=>y∈Be k1 c/\D (C1 a y) s):=by
 rintro b y s ⟨hy,hd⟩ Z hs;refine BA ?_;show Ar zP 189 ([]++[LB y b]++[.rp [.f fn fi ca],.rp [LB a fa]]) Z _;have hla:=(Lj k0 (B7 _ hn0) c).2 a ha;have hly:=(Lj k1 (B7 _ hn1) c).2 y hy;have hM:=Mx;refine xz kZ ?_
 conv=>whnf
 repeat'((first|clear U K|apply st|(apply zk;intro K U)|refine rk ?_ ?_|exact fun s e=>by cases e;rfl|refine Pure.use (ee (w:=w) a y fa b (D7 k0 hn0 c a ha) (D7 k1 hn1 c y hy) (by omega)) ?_|fail)<;>conv=>whnf)
 refine(hT false).use hd hs ?_;clear hs;intro Z hs;refine zz ?_;(repeat clear U K);repeat intro K U
 exact AI ⟨rfl,hs⟩
def m4 {w:AF} {S:Type} {fn:Fn} {fi ca:List V} {H:S->List At} {stp:List Fact->S->Bool×S} {D:List Fact->S->Prop} {nW:Nat} (hT:Sr (.f fn fi ca) (fun s=> .box nW [Vx nW]::H s) stp D) {f k0 k1:Fact} (hk:f.kids= [k0,k1]) {c:Bool} (hn0:BN w k0=true) (hn1:BN w k1=true) (hv0:lv k0<=100) (hv1:lv k1<=100) (hw1:WalkC k1) :
    Sr (.f (.func 188) [] [.p nW 0,.rp (xF f),.rp [.b c],.rp [.f fn fi ca]]) (fun s=> .box nW [Vx nW]::H s) (fun a s=>CL (fun y s=>stp (C1 a y) s) (Be k1 c) s) (fun a s=>a∈Be k0 c/\SC (fun y s=>stp (C1 a y) s) (fun y s=>D (C1 a y) s) (Be k1 c) s):=by
 rintro fa a s ⟨ha,hd⟩ Z hs;refine BA ?_;show Ar zP 188 ([]++[LB a fa]++[.p nW 0,.rp (xF f),.rp [.b c],.rp [.f fn fi ca]]) Z _;have h1:f.kids[(1:Int).toNat]? =some k1:=by rw[hk];rfl
 refine x3 kZ ?_;refine zz ?_;(repeat clear U K);repeat intro K U
 refine(hw1 c S _ _ _ H _ _ nW s (mz hT hn0 hn1 hv0 hv1 ha fa) (PW (fun y hy=>hy) hd) Z hs).mono ?_;clear hs;rintro r Z ⟨rfl,hs⟩;refine zz ?_;(repeat clear U K);repeat intro K U
 exact AI ⟨rfl,hs⟩
def oS {w : AF} (f:Fact):BN w f=true->lv f<=100->WalkC f:=by
 induction f using Fact.ind with
 | h f ih=>
   intro hn hv c S fn fi ca H stp D nW s hT hd Z hs;have har:=B7 _ hn
   have hnk: ∀k∈f.kids,BN w k=true:=by
    rw[By,A0,DJ]at hn;exact hn.2
   have hop:f.op=1\/f.op=5\/Bl f=true\/f.op=6\/f.op=7:=by
    rw[By,A0]at hn;have h1:=hn.1;simp only[C8,VY,A0]at h1;rw[Ml];simp only[A0,CC];have h2:=h1.1;split at h2
    .omega
    .split at h2
     .omega
     .simp only[Ea,Cd]at h2
      omega
   refine BA ?_;show Ar zP 187 ([]++[.a (xF f),.b c,.f fn fi ca]++[.p nW 0]) Z _;refine x4 kZ ?_;rw[FW,Hf]at hd;have hcs:=FW f c;rw[Hf]at hcs;rcases hop with h1|h5|hl|h67
   .rw[if_pos h1]at hd hcs
    rw[hcs];cases c
    .rw[if_neg (by decide)]at hd ⊢
     rw[Q6]
     conv=>whnf
     repeat'((first|clear U K|apply st|(apply zk;intro K U)|refine zY ?_|(refine zb (fun hc=>?_) (fun hc=>?_)<;>try exact⟨⟩)|fail)<;>conv=>whnf)
     refine(hT true).use (y:=[]) hd.1 hs ?_;clear hs;intro Z hs;refine zz ?_;(repeat clear U K);repeat intro K U
     exact AI ⟨rfl,hs⟩
    .rw[if_pos rfl]at hd ⊢
     conv=>whnf
     repeat'((first|clear U K|apply st|(apply zk;intro K U)|refine zY ?_|(refine zb (fun hc=>?_) (fun hc=>?_)<;>try exact⟨⟩)|fail)<;>conv=>whnf)
     exact AI ⟨rfl,hs⟩
   .obtain⟨k,hk,-⟩:=Fi har h5
    have hkm:k∈f.kids:=by rw[hk];exact .head _
    have hvk:lv k<=100:=by
     rw[Kt,ct,if_pos h5,hk]at hv;exact hv
    rw[if_neg (by omega),if_pos h5,hk]at hd hcs;have hcs2:Be f c=Be k (!c):=hcs;have h0:f.kids[(0:Int).toNat]? =some k:=by rw[hk];rfl
    rw[hcs2]
    conv=>whnf
    repeat'((first|clear U K|apply st|(apply zk;intro K U)|refine zY ?_|(refine zb (fun hc=>?_) (fun hc=>?_)<;>try exact⟨⟩)|fail)<;>conv=>whnf)
    refine(ih k hkm (hnk k hkm) hvk (!c) S _ _ _ H stp D nW s hT hd Z hs).mono ?_;clear hs;rintro r Z ⟨rfl,hs⟩;refine zz ?_;(repeat clear U K);repeat intro K U
    exact AI ⟨rfl,hs⟩
   .have hlo:=Ff hl
    have hlB:=Pa f;rw[hl]at hlB;rw[if_neg (by omega),if_neg (by omega),if_neg (by omega)]at hd hcs;have hcs2:Be f c= [[if c then Ez f else f]]:=by rw[hcs];cases c<;>rfl
    rw[<-hcs,hcs2]at hd;rw[hcs2,Q6]
    have e:LB [if c then Ez f else f] true= .l [xF f++[.b c]] true:=by
     show V.l [JQ (if c then Ez f else f)] true=_;rw[TK hl]
    have hst:=(hT true) [if c then Ez f else f] s hd.1;simp only[e]at hst
    conv=>whnf
    repeat'((first|clear U K|apply st|(apply zk;intro K U)|refine zY ?_|refine hlB.use ?_|(refine zb (fun hc=>?_) (fun hc=>?_)<;>try exact⟨⟩)|fail)<;>conv=>whnf)
    refine(hst Z hs).mono ?_;clear hs;rintro r Z ⟨rfl,hs⟩;refine zz ?_;(repeat clear U K);repeat intro K U
    exact AI ⟨rfl,hs⟩
   .obtain⟨k0,k1,hk,-,-⟩:=Fh har h67
    have hkm0:k0∈f.kids:=by rw[hk];exact .head _
    have hkm1:k1∈f.kids:=by rw[hk];exact .tail _ (.head _)
    have hlf:Bl f=false:=by rw[Ml,decide_eq_false (show¬f.op<=4 by omega),Bool.and_false]
    have hlB:=Pa f;rw[hlf]at hlB
    have hvk:lv k0+lv k1<=100:=by
     rw[Kt,ct,if_neg (by omega),if_pos h67,hk]at hv;exact hv
    rw[if_neg (by omega),if_neg (by omega),if_pos h67,hk]at hd hcs;have h0:f.kids[(0:Int).toNat]? =some k0:=by rw[hk];rfl
    have h1:f.kids[(1:Int).toNat]? =some k1:=by rw[hk];rfl
    have i0:=ih k0 hkm0 (hnk k0 hkm0) (by omega);have i1:=ih k1 hkm1 (hnk k1 hkm1) (by omega);by_cases hap:(c != (f.op==7))=true
    .rw [if_pos hap]at hd hcs
     have hcs2:Be f c=Be k0 c++Be k1 c:=hcs;have hd2:SC stp D (Be k0 c++Be k1 c) s:=hd;obtain⟨hd3,hd4⟩:=PX hd2;rw[hcs2,M4];clear hcs hcs2 hd hd2;rcases h67 with h6|h7
     .have h6b:(f.op==6)=true:=by rw[h6];rfl
      have hct:c=true:=by rw[h6]at hap;cases c<;>simp_all
      subst hct
      conv=>whnf
      repeat'((first|clear U K|apply st|(apply zk;intro K U)|refine zY ?_|refine hlB.use ?_|(rw[h6b])|(refine zb (fun hc=>?_) (fun hc=>?_)<;>try exact⟨⟩)|fail)<;>conv=>whnf)
      refine(i0 true S _ _ _ H stp D nW s hT hd3 Z hs).mono ?_;clear hs;rintro r Z ⟨rfl,hs⟩;generalize CL stp (Be k0 true) s=x at *;obtain⟨b1,s1⟩:=x;cases b1
      .refine zz ?_;(repeat clear U K);repeat intro K U
       exact AI ⟨rfl,hs⟩
      .refine zz ?_;(repeat clear U K);repeat intro K U
       refine(i1 true S _ _ _ H stp D nW s1 hT (hd4 rfl) Z hs).mono ?_;clear hs;rintro r Z ⟨rfl,hs⟩;refine zz ?_;(repeat clear U K);repeat intro K U
       exact AI ⟨rfl,hs⟩
     .have h6b:(f.op==6)=false:=by rw[h7];rfl
      have hct:c=false:=by rw[h7]at hap;cases c<;>simp_all
      subst hct
      conv=>whnf
      repeat'((first|clear U K|apply st|(apply zk;intro K U)|refine zY ?_|refine hlB.use ?_|(rw[h6b])|(refine zb (fun hc=>?_) (fun hc=>?_)<;>try exact⟨⟩)|fail)<;>conv=>whnf)
      refine(i0 false S _ _ _ H stp D nW s hT hd3 Z hs).mono ?_;clear hs;rintro r Z ⟨rfl,hs⟩;generalize CL stp (Be k0 false) s=x at *;obtain⟨b1,s1⟩:=x;cases b1
      .refine zz ?_;(repeat clear U K);repeat intro K U
       exact AI ⟨rfl,hs⟩
      .refine zz ?_;(repeat clear U K);repeat intro K U
       refine(i1 false S _ _ _ H stp D nW s1 hT (hd4 rfl) Z hs).mono ?_;clear hs;rintro r Z ⟨rfl,hs⟩;refine zz ?_;(repeat clear U K);repeat intro K U
       exact AI ⟨rfl,hs⟩
    .rw[if_neg hap]at hd hcs
     have hcs2:Be f c=Fo (Be k0 c) (Be k1 c):=hcs;have hd2:SC stp D (Fo (Be k0 c) (Be k1 c)) s:=hd;have hd3:=W4 _ hd2;have hT2:=m4 hT hk (c:=c) (hnk k0 hkm0) (hnk k1 hkm1) (by omega) (by omega) i1;rw[hcs2,Tv];clear hcs hcs2 hd hd2;rcases h67 with h6|h7
     .have h6b:(f.op==6)=true:=by rw[h6];rfl
      have hct:c=false:=by rw[h6]at hap;cases c<;>simp_all
      subst hct
      conv=>whnf
      repeat'((first|clear U K|apply st|(apply zk;intro K U)|refine zY ?_|refine hlB.use ?_|(rw[h6b])|(refine zb (fun hc=>?_) (fun hc=>?_)<;>try exact⟨⟩)|fail)<;>conv=>whnf)
      refine(i0 false S _ _ _ H _ _ nW s hT2 (PW (fun y hy=>hy) hd3) Z hs).mono ?_;clear hs;rintro r Z ⟨rfl,hs⟩;refine zz ?_;(repeat clear U K);repeat intro K U
      exact AI ⟨rfl,hs⟩
     .have h6b:(f.op==6)=false:=by rw[h7];rfl
      have hct:c=true:=by rw[h7]at hap;cases c<;>simp_all
      subst hct
      conv=>whnf
      repeat'((first|clear U K|apply st|(apply zk;intro K U)|refine zY ?_|refine hlB.use ?_|(rw[h6b])|(refine zb (fun hc=>?_) (fun hc=>?_)<;>try exact⟨⟩)|fail)<;>conv=>whnf)
      refine(i0 true S _ _ _ H _ _ nW s hT2 (PW (fun y hy=>hy) hd3) Z hs).mono ?_;clear hs;rintro r Z ⟨rfl,hs⟩;refine zz ?_;(repeat clear U K);repeat intro K U
      exact AI ⟨rfl,hs⟩
def u6 {w:AF} (f:Fact) (hn:BN w f=true) (hv:lv f<=100) (c:Bool) {S:Type} {fn:Fn} {fi ca:List V} {H:S->List At} {stp:List Fact->S->Bool×S} {D:List Fact->S->Prop} {s:S} (hT: ∀nW,Sr (.f fn fi ca) (fun s=> .box nW [Vx nW]::H s) stp D) (hd:SC stp D (Be f c) s) (Z:AE) (hs:Sat Z (H s)) :
    Ar zP 186 [.f fn fi ca,.rp (xF f),.rp [.b c]] Z fun r Z'=>r= .ret (.t [])/\Sat Z' (H (CL stp (Be f c) s).2):=by
 refine x5 kZ ?_
 conv=>whnf
 repeat'((first|clear U K|apply st|(apply zk;intro K U)|refine zY ?_|refine zs fun Z hs=>?_|refine zo fun nn hnn Z hs=>?_|fail)<;>conv=>whnf)
 refine(oS f hn hv c S fn fi ca H stp D nn s (hT nn) hd Z hs).mono ?_;clear hs;rintro r Z ⟨rfl,hs⟩
 conv=>whnf
 repeat'((first|clear U K|apply st|fail)<;>conv=>whnf)
 exact AI ⟨rfl,hs.less (K7 _ _)⟩
def m6 (f:Fact) (c:Bool):Pure zP 126 [.a (xF f),.b c] (.f (.func 186) [] [.rp (xF f),.rp [.b c]]):=by
 refine yl kZ ?_;have hs:=Sn;exact zW
abbrev Pw (w:AF) (l:List Fact) (s:Bool):Bool×Bool:=if HR w l then(false,true)else(true,s)
def Xe {w:AF}: ∀(cs:List (List Fact)),CL (Pw w) cs false=(!cs.any (HR w),cs.any (HR w))
 | []=>rfl
 | l::r=>by
   rw[CL,SA];simp only[Pw];cases h:HR w l
   .simpa using Xe r
   .rfl
def bN {w:AF} {G:List Fact->Prop}: ∀ {cs:List (List Fact)},(∀l∈cs,G l)->SC (Pw w) (fun l s=>s=false/\G l) cs false
 | [],_=>trivial
 | l ::r,h=>⟨⟨rfl,h l (.head _)⟩,fun hy=>by
     cases ht:HR w l
     .have e:(Pw w l false).2=false:=by simp[Pw,ht]
      rw[e];exact bN fun x hx=>h x (.tail _ hx)
     .simp[Pw,ht]at hy⟩
abbrev zB (w:AF) (L:Nat) (E:Env) (ok:FuncId->Array Tmp->Code->Code->Nat->Prop) (nF:Nat):Prop:=
 Nv zP L E ok (fun(x:List Fact×Bool)=>[LB x.1 x.2]) (fun s:Bool=>[.box nF [.b s]]) (fun _=>True) (fun x s=>if HR w x.1 then .stop (.exit 0) true else .go s) (fun x s=>s=false/\(∀y∈x.1,DY w y)/\x.1.length<900)
def qP {w:AF} (f:Fact) (hn:BN w f=true) (hv:lv f<=100) {L:Nat} {E:Env} {ok:FuncId->Array Tmp->Code->Code->Nat->Prop} {nF:Nat} (hY:zB w L E ok nF) (Z:AE) (hs:Sat Z [.obj L (.loop .ready E ok),.box nF [.b false]]) :
    Ar zP 186 [.f (.yield L) [] [],.rp (xF f),.rp [.b false]] Z fun r Z'=>r= .ret (.t [])/\Sat Z' [.obj L (.loop (if YU w f then .exit 0 else .ready) E ok),.box nF [.b (YU w f)]]:=by
 have hg:=u6 f hn hv false (fn:= .yield L) (fi:=[]) (ca:=[]) (H:=fun s:Bool=>[.obj L (.loop (if s then .exit 0 else .ready) E ok),.box nF [.b s]]) (stp:=Pw w) (D:=fun l s=>s=false/\(∀y∈l,DY w y)/\l.length<900) (s:=false) (by
  rintro nW b l s ⟨rfl,hl,hlen⟩ Z hs;refine hY.use (y:=(l,b)) (s:=false) ⟨rfl,hl,hlen⟩ (rest:=[.box nW [Vx nW]]) (hs.perm (I9 _ _ _ _)) ?_;intro r Z' hq;cases ht:HR w l
  .simp only[ht,NM,if_false]at hq
   obtain⟨rfl,hs'⟩:=hq;have e:Pw w l false=(true,false):=by simp[Pw,ht]
   rw[e];exact⟨rfl,hs'.perm (I9 _ _ _ _).symm⟩
  .simp only[ht,if_true]at hq
   obtain⟨rfl,hs'⟩:=hq;have e:Pw w l false=(false,true):=by simp[Pw,ht]
   rw[e]
   exact⟨rfl,hs'.perm (I9 _ _ _ _).symm⟩) (bN fun l hl=>⟨D7 f hn false l hl,by have:=(Lj f (B7 _ hn) false).2 l hl;omega⟩) Z hs
 rw[Xe]at hg;exact hg
def y4 (w:AF) (hw:B3 w) (f:Fact) (hn:BN w f=true) (hv:lv f<=100):Pure zP 125 [.rp (wC w (A5 w.parents)),.a (xF f)] (.b (YU w f)):=by
 refine Pure.of ?_;refine ym kZ ?_;have hs:=Sn
 conv=>whnf
 repeat'((first|clear U K|apply st|(apply zk;intro K U)|refine zY ?_|refine zs fun Z hs=>?_|refine Pure.use (m6 _ _) ?_|refine zo fun nn hnn Z hs=>?_|fail)<;>conv=>whnf)
 rename_i _ nF hnF _ _ _ _;refine Ar.mono (qP (w:=w) f hn hv (L:=nn) (nF:=nF) ?_ Z hs) ?_
 .refine Om (fun y=>rfl) ?_
  clear hs hnn hnF;rintro⟨l,b⟩ s ⟨rfl,hl,hlen⟩ rest Z hs;dsimp only at hl hlen;have htg:=Xp w hw l b hl hlen;dsimp only;cases ht:HR w l<;>rw[ht]at htg
  .conv=>whnf
   repeat'((first|clear U K|apply st|(apply zk;intro K U)|refine htg.use ?_|fail)<;>conv=>whnf)
   intro hn;exact Wv (H:=fun s:Bool=>[.box nF [.b s]]) (J:=fun _=>True) (s:=false) rfl hs hn
  .conv=>whnf
   repeat'((first|clear U K|apply st|(apply zk;intro K U)|refine zs fun Z hs=>?_|refine htg.use ?_|fail)<;>conv=>whnf)
   intro hn;exact ZI (H:=fun s:Bool=>[.box nF [.b s]]) (J:=fun _=>True) (s:=true) (st:= .exit 0) rfl hs hn
 .clear hs hnn hnF
  cases hp:YU w f
  .rintro r Z ⟨rfl,hs⟩
   refine Ju hs fun Z hs=>?_
   refine zz ?_;(repeat clear U K);repeat intro K U
   exact AI (by rw[hp])
  .rintro r Z ⟨rfl,hs⟩
   refine ZM hs fun Z hs=>?_
   refine zz ?_;(repeat clear U K);repeat intro K U
   exact AI (by rw[hp])
def uF (f:Fact):Pure zP 224 [.a (xF f)] (.a (xF (Ez f))):=by
 refine xZ kZ ?_;have hs:=Sn
 conv=>whnf
 repeat'((first|clear U K|apply st|(apply zk;intro K U)|refine zX ?_|refine zr fun Z hs=>?_|refine zp fun nn hnn Z hs=>?_|fail)<;>conv=>whnf)
 refine BZ (.a (.cons (.refl _) (.cons (.refl _) (.cons MK (.cons (.refl _) (.cons (.refl _) (.cons ?_ .nil)))))));refine .l (fun h=>by cases h) ?_;simp only[Ez,Fact.kids,List.map,Bn];exact Ki _
def y6 (f g:Fact):Pure zP 295 [.a (xF f),.a (xF g)] (.a (xF (SU f g))):=by
 refine wT kZ ?_;have hs:=Sn
 conv=>whnf
 repeat'((first|clear U K|apply st|(apply zk;intro K U)|refine zX ?_|refine zr fun Z hs=>?_|refine zp fun nn hnn Z hs=>?_|fail)<;>conv=>whnf)
 refine BZ (.a (.cons (.refl _) (.cons (.refl _) (.cons MK (.cons (.refl _) (.cons (.refl _) (.cons ?_ .nil)))))));refine .l (fun h=>by cases h) ?_;simp only[SU,Fact.kids,List.map,Bn];exact Ki _
def Za (w:AF) (hw:B3 w) (a b:Fact) (ha:BN w a=true) (hb:BN w b=true) (hl:lv a+lv b<=100):Pure zP 229 [.rp (wC w (A5 w.parents)),.a (xF a),.a (xF b)] (.b (Vn w a b)):=by
 have hcan:=y4 w hw (SU a (Ez b)) (W6 ha hb) (by rw[uX];exact hl);refine xX kZ ?_;have hs:=Sn
 conv=>whnf
 repeat'((first|clear U K|apply st|(apply zk;intro K U)|refine zY ?_|refine rk ?_ ?_|exact fun s e=>by cases e;rfl|refine Pure.use (uF _) ?_|refine Pure.use (y6 _ _) ?_|refine hcan.use ?_|fail)<;>conv=>whnf)
 all_goals exact AG rfl
def gA (w:AF) (hw:B3 w) (a b:Fact) (ha:Ct w a=true) (hb:Ct w b=true) (hna:BN w a=true) (hnb:BN w b=true) (hl:lv a+lv b<=100):Pure zP 338 [.a (A9 w),.a (xF a),.a (xF b)] (.t [.b (Vn w a b),eI 0]):=by
 have hrd: ∀f,Pure zP 118 [.a (A9 w),.l [xF a,xF b] f] (.t [.rp (wC w (A5 w.parents)),.b true]):=fun f=>by
  have:=PS w hw [a,b] f (by simp);rw[show([a,b].all (L5 w))=true by simp[Pg,ha,hb]]at this;simpa[Bn]using this
 have hip:=Za w hw a b hna hnb hl;refine vX kZ ?_;have hs:=Sn
 conv=>whnf
 repeat'((first|clear U K|apply st|(apply zk;intro K U)|refine zY ?_|refine Pure.use (hrd _) ?_|refine hip.use ?_|fail)<;>conv=>whnf)
 all_goals exact AG rfl
attribute [local irreducible] Hw
def szP (p:Prog) (nO:Nat) (r:R) (post:List At):Prop:=
 match BQ p with
 | some s=>r= .ret (.t [])/\ ∃v,post= [.box nO [v],.own v 1 (iL s)]
 | none=>r= .Bh D3/\ ∃v s,post= [.box nO [v],.own v 1 (iL s)]
def dh (p:Prog) (nO:Nat):BS zP 281 [.rp (BR p),.p nO 0] [.box nO [.l [] true]] (szP p nO):=fun Z hs=>
 Ar.mono (lS p nO Z hs) fun r Z' hq=>by
  unfold zG at hq;unfold szP;cases h:BQ p with
  | some s=>
    rw[h]at hq;obtain⟨h1,v,h2⟩:=hq;exact⟨_,⟨h1,v,rfl⟩,h2⟩
  | none=>
    rw[h]at hq;obtain⟨h1,v,s,h2⟩:=hq;exact⟨_,⟨h1,v,s,rfl⟩,h2⟩
def qv {Z:AE} {n:Nat} {x:V} {rest:List At} (hs:Sat Z (.box n [x]::rest)) {Q:AE->Prop} (hq: ∀Z',Sat Z' (.box n [.b false]::rest)->Q Z'):Hw zP 322 [.p n 0] (some D3) Z Q:=by
 refine cD kZ ?_
 conv=>whnf
 repeat'((first|clear U K|apply st|(apply zk;intro K U)|refine zY ?_|refine zs fun Z hs=>?_|refine sy rfl ?_|refine zo fun nn hnn Z hs=>?_|fail)<;>conv=>whnf)
 exact hq _ (hs.less (K7 _ _))
def qw {Z:AE} {n:Nat} {x:V} {rest:List At} (hs:Sat Z (.box n [x]::rest)) {Q:AE->Prop} (hq: ∀Z',Sat Z' (.box n [x]::rest)->Q Z'):Hw zP 322 [.p n 0] none Z Q:=by
 refine cD kZ ?_;refine zz ?_;(repeat clear U K);repeat intro K U
 exact hq _ hs
def fE (p:Prog) (nO:Nat):BS zP 280 [.f (.func 281) [] [.rp (BR p),.p nO 0]] [.box nO [.l [] true]] fun r post=>r= .ret (.b (BQ p).isSome)/\ ∃v s,post= [.box nO [v],.own v 1 (iL s)]/\(BQ p=none\/BQ p=some s):=by
 intro Z hs;refine wh kZ ?_
 conv=>whnf
 repeat'((first|clear U K|apply st|(apply zk;intro K U)|refine zo fun nn hnn Z hs=>?_|fail)<;>conv=>whnf)
 refine BA ?_;refine(dh p nO).use (rest:=[.box nn [.b false]]) (hs.perm (.swap _ _ _)) ?_;clear hs hnn;rintro r post Z hq hs;unfold szP at hq;cases h:BQ p with
 | none=>
   rw[h]at hq;obtain⟨rfl,v,s,rfl⟩:=hq
   conv=>whnf
   repeat'((first|clear U K|apply st|fail)<;>conv=>whnf)
   refine qv (rest:=[.box nO [v],.own v 1 (iL s)]) (hs.perm PL) fun Z hs=>?_
   refine zz ?_;(repeat clear U K);repeat intro K U
   exact AI ⟨_,⟨by rw[h];rfl,v,s,rfl,.inl h⟩,hs.less (K7 _ _)⟩
 | some s=>
   rw[h]at hq;obtain⟨rfl,v,rfl⟩:=hq
   conv=>whnf
   repeat'((first|clear U K|apply st|(apply zk;intro K U)|refine zs fun Z hs=>?_|fail)<;>conv=>whnf)
   replace hs:Sat Z ([.box nO [v],.own v 1 (iL s)]++[.box nn [.b true]]):=hs;refine qw (x:= .b true) (rest:=[.box nO [v],.own v 1 (iL s)]) (hs.perm PL) fun Z hs=>?_
   refine zz ?_;(repeat clear U K);repeat intro K U
   exact AI ⟨_,⟨by rw[h];rfl,v,s,rfl,.inr h⟩,hs.less (K7 _ _)⟩
def lT (p:Prog):BS zP 222 [.a (BR p)] [] fun r post=> ∃v s,r= .ret (.t [v,.b (BQ p).isSome])/\post= [.own v 1 (iL s)]/\(BQ p=none\/BQ p=some s):=by
 intro Z hs;refine xb kZ ?_
 conv=>whnf
 repeat'((first|clear U K|apply st|(apply zk;intro K U)|refine zo fun nn hnn Z hs=>?_|fail)<;>conv=>whnf)
 refine(fE p nn).use (rest:=[]) (by simpa using hs) ?_;clear hs;rintro r post Z ⟨rfl,v,s,rfl,hl⟩ hs;refine zz ?_;(repeat clear U K);repeat intro K U
 exact AI ⟨_,⟨v,s,rfl,rfl,hl⟩,hs.less (.cons _ (.cons₂ _ (O4 _)))⟩
def Xn (p:Prog):Pure zP 150 [.a (BR p)] (eI (if(BQ p).isSome then 0 else 2)):=by
 refine Pure.of ?_;have hz:=lT p;cases h:(BQ p).isSome<;>rw[h]at hz
 all_goals
  refine yV kZ ?_;have hs:=Sn;refine zz ?_;(repeat clear U K);repeat intro K U
  refine hz.use (rest:=[]) (by simpa using hs) ?_;clear hs;rintro r post Z ⟨v,s,rfl,rfl,-⟩ hs;refine zz ?_;(repeat clear U K);repeat intro K U
  exact AI rfl
def AAn {p:Prog} (h:(BQ p).isSome=true):Br p.AO<=40:=by
 obtain⟨hh,-⟩:=EF h;simp only[C2,A0,CC]at hh;exact(Mr hh.1).2.1
def kI {p:Prog} (h:(BQ p).isSome=true):p.AO.length<=10:=by
 obtain⟨hh,-⟩:=EF h;simp only[C2,A0,CC]at hh;exact(Mr hh.1).2.2
def QB {p:Prog} (h:(BQ p).isSome=true):B3 (AK p):=by
 obtain⟨hh,-⟩:=EF h;simp only[C2,A0,CC]at hh;exact(Mr hh.1).1
def cY (p:Prog):Pure zP 92 [.a (BR p)] (if(BQ p).isSome then .t [.a (A9 (AK p)),eI 0]else .t [.a [.l [] true,.l [] true],eI 2]):=by
 have hz:=Xn p;have hM:=Mx;cases h:(BQ p).isSome<;>rw[h]at hz
 .simp only[NM,if_false]at hz ⊢
  refine sQ kZ ?_;have hs:=Sn
  conv=>whnf
  repeat'((first|clear U K|apply st|(apply zk;intro K U)|refine zY ?_|refine zs fun Z hs=>?_|refine hz.use ?_|(refine zb (fun hc=>?_) (fun hc=>?_)<;>try exact⟨⟩)|refine zo fun nn hnn Z hs=>?_|fail)<;>conv=>whnf)
  all_goals exact AG rfl
 .simp only[if_true]at hz ⊢
  have hm:=AAn h;have hc10:=kI h;refine sQ kZ ?_;have hs:=Sn
  conv=>whnf
  repeat'((first|clear U K|apply st|(apply zk;intro K U)|refine zY ?_|refine zs fun Z hs=>?_|refine hz.use ?_|refine Pure.use (WY p (by omega) (by omega)) ?_|(refine zb (fun hc=>?_) (fun hc=>?_)<;>try exact⟨⟩)|refine zo fun nn hnn Z hs=>?_|fail)<;>conv=>whnf)
  all_goals exact AG rfl
end Go.Gl
namespace Go.Gl
open Go.Proofs
attribute [local irreducible] Ar Aj AZ AQ AL AX AP AR AJ AW AM AN Am Av Sat AT As Aa W
abbrev rkC (p:Prog) (L:Nat):List V:=BR p++(A9 (AK p)++[.m L])
abbrev Ls (p:Prog) (L:Nat):V:= .rp (rkC p L)
abbrev kM (x:Int×Int):V:= .a [eI x.1,eI x.2]
def K8 (p:Prog) (M:List (Int×Int)):List (V×V):=M.map fun x=>(kM x,.b (Kk p x.1 x.2))
def Qn (p:Prog) (M:List (Int×Int)): ∀kv∈K8 p M,BV (.a [.i64,.i64]) kv.1=true:=by
 intro kv h;obtain⟨e,_,rfl⟩:=Hp.1 h;rfl
def sF (x y:Int×Int):Dz (kM x) (kM y)=(x==y):=by
 obtain⟨a,b⟩:=x;obtain⟨c,d⟩:=y;have e:Dz (kM (a,b)) (kM (c,d))=(a==c&&b==d):=by simp[Dz,Bw,kM]
 rw[e];rfl
def XA (p:Prog) (x:Int×Int): ∀(M:List (Int×Int)),Co (kM x) (K8 p M)=if M.contains x then some (.b (Kk p x.1 x.2))else none
 | []=>rfl
 | y ::r=>by
   rw[K8,EW,Co,sF,List.contains_cons];cases h:x==y
   .rw[cond_false,Bool.false_or]
    exact XA p x r
   .rw[cond_true,Bool.true_or,if_pos rfl]
    have:x=y:=by simpa using h
    rw[this]
def bT (p:Prog) (x:Int×Int): ∀(M:List (Int×Int)),M.contains x=false->Da (kM x) (.b (Kk p x.1 x.2)) (K8 p M)=K8 p (M++[x])
 | [],_=>rfl
 | y::r,h=>by
   rw[List.contains_cons,Bool.or_eq_false_iff]at h;have ih:=bT p x r h.2;simp only[K8]at ih;rw[K8,EW,Da,sF,h.1,cond_false,ih];rfl
def Qi (p:Prog):BS zP 114 [.a (BR p)] [] fun r post=>if(BQ p).isSome then∃L,r= .ret (Ls p L)/\post= [.map L []]else r= .ret .pn/\post= []:=by
 intro Z hs;have hw:=cY p;cases h:(BQ p).isSome<;>rw[h]at hw
 .simp only[NM,if_false]at hw ⊢
  refine kF kZ ?_
  conv=>whnf
  repeat'((first|clear U K|apply st|(apply zk;intro K U)|refine zY ?_|refine zs fun Z hs=>?_|refine hw.use ?_|(refine zb (fun hc=>?_) (fun hc=>?_)<;>try exact⟨⟩)|refine zo fun nn hnn Z hs=>?_|fail)<;>conv=>whnf)
  exact AI ⟨_,⟨rfl,rfl⟩,hs.less (O4 _)⟩
 .simp only[if_true]at hw ⊢
  refine kF kZ ?_
  conv=>whnf
  repeat'((first|clear U K|apply st|(apply zk;intro K U)|refine zY ?_|refine zs fun Z hs=>?_|refine hw.use ?_|(refine zb (fun hc=>?_) (fun hc=>?_)<;>try exact⟨⟩)|refine zo fun nn hnn Z hs=>?_|fail)<;>conv=>whnf)
  exact AI ⟨_,⟨nn,rfl,rfl⟩,hs.less (.cons₂ _ (O4 _))⟩
def AAw (p:Prog) (L:Nat) (m:Int):Pure zP 317 [eI m,.rp [Ls p L]] (.b (!Bb p m)):=by
 refine v8 kZ ?_;have hs:=Sn
 conv=>whnf
 repeat'((first|clear U K|apply st|(apply zk;intro K U)|refine zY ?_|refine za (fun hc=>?_) fun hc=>?_|fail)<;>conv=>whnf)
 .refine AG ?_
  have e1:decide (0<=m)=true:=decide_eq_true hc;rw[Bb,e1,Cm,Ca];show V.b (decide (m≥(p.methods.length:Int)))=_;by_cases hl:m<(p.methods.length:Int)
  .rw[decide_eq_true hl,decide_eq_false (by omega)];rfl
  .rw[decide_eq_false hl,decide_eq_true (by omega)];rfl
 .refine AG ?_
  rw[Bb,decide_eq_false (by omega)];rfl
def JM {g:FuncId} {fi ca:List V} {f:Int->Bool} {xs:List Int} (b:Bool) (h: ∀y∈xs,Pure zP g (fi++[eI y]++ca) (.b (f y))):Pure zP 49 [.l (iL xs) b,.f (.func g) fi ca] (.b (xs.any f)):=by
 have:=Gr g fi ca (fun _=>[]) (fun y (_:Unit)=>(f y,())) (fun y _=>y∈xs) (RG fun y hy=>h y hy) xs b () (Ha fun y hy _=>hy);rw[Ms]at this;exact Pure.of (Ar.mono (this emp Sat.nil) fun r Z' ⟨post,⟨h1,h2⟩,h3⟩=>h1)
def AAx (p:Prog) (L:Nat) (l:List Int) (b:Bool):Pure zP 272 [Ls p L,.l (iL l) b] (.b (l.all (Bb p))):=by
 have hc:=fun b=>JM (g:=317) (fi:=[]) (ca:=[.rp [Ls p L]]) (f:=fun m=> !Bb p m) (xs:=l) b fun y _=>AAw p L y
 refine jr kZ ?_;have hs:=Sn
 conv=>whnf
 repeat'((first|clear U K|apply st|(apply zk;intro K U)|refine Pure.use (hc _) ?_|fail)<;>conv=>whnf)
 all_goals exact AG (by rw[List.all_eq_not_any_not];rfl)
def uq (l:List Int) (b:Bool):Pure zP 272 [.pn,.l (iL l) b] (.b false):=by
 refine jr kZ ?_;have hs:=Sn;exact zW
def rV (p:Prog) (L:Nat) (m n:Int) (hm:Bb p m=true) (hn:Bb p n=true):Pure zP 273 [Ls p L,eI m,eI n] (.b (LO p m n)):=by
 refine Pure.fit (by kernel_rfl) fun hf=>?_
 have hxm:=CX hm;have hxn:=CX hn;simp only[Bb,A0,CC]at hm hn;refine wk kZ ?_;have hs:=Sn
 conv=>whnf
 repeat'((first|clear U K|apply st|(apply zk;intro K U)|refine zY ?_|refine rk ?_ ?_|exact fun s e=>by cases e;rfl|refine zs fun Z hs=>?_|refine za (fun hc=>?_) fun hc=>?_|refine zo fun nn hnn Z hs=>?_|fail)<;>conv=>whnf)
 all_goals exact AG (by simp[LO, *])
def qc {p:Prog} (h:(BQ p).isSome=true): ∀x∈p.methods,Ct (AK p) x.fact=true:=fun x hx=>by
 have:=(EF h).2 x hx;simp only[Pt,A0]at this;exact this.2.2.2.2.1
structure dB (T:List (List Bool)) (l:List Int):Prop where
 len:T.length<=16
 sq: ∀r∈T,r.length=T.length
 ins: ∀x∈l,0<=x/\x<(T.length:Int)
 many:l.length<=16
def O8 (A:Int->Int->Bool) (l:List Int) (i k:Nat):Bool:=(List.range k).all fun j=>j==i||A (l.getD i 0) (l.getD j 0)
def LJ (A:Int->Int->Bool) (l:List Int):Option Nat:=(List.range l.length).find? fun i=>O8 A l i l.length
def dV (A:Int->Int->Bool) (l:List Int) (i k:Nat):O8 A l i (k+1)=(O8 A l i k&&(k==i||A (l.getD i 0) (l.getD k 0))):=by
 rw[O8,List.range_succ,List.all_append,O8];simp
def EZ {l:List Int} {k:Nat} {x:Int} (h:l[k]? =some x):l.getD k 0=x:=by rw[C6,h];rfl
def fH {A:Int->Int->Bool} {l:List Int} {i:Nat} (h:LJ A l=some i):i<l.length:=by
 have:=List.mem_of_find?_eq_some h;simpa using this
def Cw (A:Int->Int->Bool):Nat->List Int->List Int×Bool
 | 0,_=>([],false)
 | k+1,l=>match LJ A l with
   | none=>([],!l.isEmpty)
   | some i=>(l.getD i 0::(Cw A k (l.eraseIdx i)).1,(Cw A k (l.eraseIdx i)).2)
def dB.less {T:List (List Bool)} {l:List Int} (h:dB T l) (i:Nat):dB T (l.eraseIdx i):=
 ⟨h.len,h.sq,fun x hx=>h.ins x (List.mem_of_mem_eraseIdx hx),Nat.le_trans (List.length_eraseIdx_le _ _) h.many⟩
def PC (x:Int) (out:List Int):List Int:=out.takeWhile (fun y=>decide (y<x))++x::out.dropWhile (fun y=>decide (y<x))
def Kp (l:List Int):List Int:=l.foldl (fun out x=>PC x out) []
def dF (A:Int->Int->Bool) (l:List Int) (i k:Nat):Bool:=(List.range k).all fun j=> !A (l.getD j 0) (l.getD i 0)
def YW (A:Int->Int->Bool) (l:List Int):Option Nat:=(List.range l.length).find? fun i=>dF A l i l.length
def HV (A:Int->Int->Bool):Nat->List Int->List Int
 | 0,_=>[]
 | k+1,l=>l.getD ((YW A l).getD 0) 0::HV A k (l.eraseIdx ((YW A l).getD 0))
abbrev RW:=Nat×List Bool
def TX {l:List Int} {k:Nat} (h:k<l.length):l.getD k 0∈l:=by
 rw[C6,DC h];exact List.getElem_mem h
structure tA (n:Nat) (R:List RW):Prop where
 len:R.length=n
 row: ∀r∈R,r.2.length=n
def tA.put {n:Nat} {R:List RW} {r:RW} (h:tA n R) {j k:Nat} {b:Bool} (hr:R[j]? =some r):tA n (R.set j (r.1,r.2.set k b)):=by
 refine⟨by rw[List.length_set];exact h.len,fun q hq=>?_⟩;rcases List.mem_or_eq_of_mem_set hq with hq|rfl
 .exact h.row q hq
 .rw[List.length_set];exact h.row r (CY hr)
def find_congr {f g:Nat->Bool}: ∀ {l:List Nat},(∀x∈l,f x=g x)->l.find? f=l.find? g
 | [],_=>rfl
 | x::r,h=>by
   rw[List.find?_cons,List.find?_cons,h x (.head _),find_congr fun y hy=>h y (.tail _ hy)]
def Qq {x y:Int} {out:List Int}:y∈PC x out↔y=x\/y∈out:=by
 have h:=List.takeWhile_append_dropWhile (p:=fun y=>decide (y<x)) (l:=out);rw[PC];constructor
 .intro hy
  rcases D9.1 hy with hy|hy
  .right;rw[<-h];exact O5 _ hy
  .rcases Fl.1 hy with rfl|hy
   .exact .inl rfl
   .right;rw[<-h];exact OQ _ hy
 .rintro(rfl|hy)
  .exact OQ _ (.head _)
  .rw[<-h]at hy
   rcases D9.1 hy with hy|hy
   .exact O5 _ hy
   .exact OQ _ (.tail _ hy)
def Rr: ∀(l out:List Int) (y:Int),y∈l.foldl (fun out x=>PC x out) out↔y∈l\/y∈out
 | [],out,y=>by simp
 | x ::r,out,y=>by
   rw[List.foldl_cons,Rr r,Qq,Fl];constructor
   .rintro(h|h|h)
    .exact .inl (.inr h)
    .exact .inl (.inl h)
    .exact .inr h
   .rintro((h|h)|h)
    .exact .inr (.inl h)
    .exact .inl h
    .exact .inr (.inr h)
def dg {l:List Int} {y:Int}:y∈Kp l↔y∈l:=by rw[Kp,Rr];simp
structure US (p:Prog) (l:List Int):Prop where
 L3: ∀x∈l,Bb p x=true
 alike: ∀x∈l,∀y∈l,LO p x y=true
 many:l.length<=16
def nj (p:Prog) (l:List Int) (kd:Bool) (x:Int):Bool:=Bb p x&&((BO p x).gen==(BO p (l.getD 0 0)).gen&&(!kd||LO p x (l.getD 0 0)))
def F8 (p:Prog) (l:List Int) (kd:Bool):Bool:=l.all (nj p l kd)&&decide l.Nodup
def eS {p:Prog} {l:List Int} {kd:Bool} {i:Nat} {x:Int} (hx:l[i]? =some x) (h:nj p l kd x=false):F8 p l kd=false:=by
 rw[F8,Bool.and_eq_false_iff];left;rw[<-Bool.not_eq_true,DJ];intro h2;rw[h2 x (CY hx)]at h;cases h
def eR {p:Prog} {l:List Int} {kd:Bool} {i k:Nat} {x:Int} (hx:l[i]? =some x) (hk:l[k]? =some x) (h:k<i):F8 p l kd=false:=by
 rw[F8,Bool.and_eq_false_iff];right;rw[decide_eq_false_iff_not];intro h2;have hi:=(JT.1 hx)
 have hj:=(JT.1 hk)
 have:=(List.nodup_iff_pairwise_ne.1 h2)
 rw[List.pairwise_iff_getElem]at this;exact this k i hj.1 hi.1 h (by rw[hj.2,hi.2])
def ZV {l:List Int} {i:Nat} {x:Int} (hx:l[i]? =some x) (h:(l.take i).Nodup) (hn: ∀k y,k<i->l[k]? =some y->y≠x):(l.take (i+1)).Nodup:=by
 rw[AU hx,List.nodup_append];refine⟨h,by simp,fun a ha b hb=>?_⟩;rw[Lp.1 hb];obtain⟨k,hk⟩:=List.getElem?_of_mem ha;rw[List.getElem?_take]at hk;split at hk
 .exact hn k a (by assumption) hk
 .cases hk
def Ql: ∀(n:Nat) (l:List Int),l.Nodup->(∀x∈l,0<=x/\x<(n:Int))->l.length<=n
 | 0,l,_,h=>by
   cases l with
   | nil=>simp
   | cons x r=>have:=h x (.head _);omega
 | n + 1,l,hn,h=>by
   have h1:=Ql n (l.erase (n:Int)) (hn.erase _) fun x hx=>by
    have hm:=(List.Nodup.mem_erase_iff hn).1 hx;have:=h x hm.2;have:=hm.1;omega
   have h2:=List.length_erase (a:=(n:Int)) (l:=l);split at h2<;>omega
abbrev pI (p:Int×Int):List V:=[eI p.1,eI p.2]
abbrev pP (l:List (Int×Int)):List (List V):=l.map pI
def jg:E0 pI 2:=fun x=>⟨rfl,fun v hv=>by
 simp only[pI,Fl,List.not_mem_nil,or_false]at hv
 rcases hv with rfl|rfl<;>rfl⟩
def Ja (p:Prog) (g:Int):Bool:=decide (0<=g)&&decide (g<(p.Cb.length:Int))
def AA3 (p:Prog) (g:Int):Pure zP 87 [.a (BR p),eI g] (.b (Ja p g)):=by
 refine Pure.fit (by kernel_rfl) fun hf=>?_
 have⟨p1,p2,p3,p4⟩:=G7 hf.1;refine ABF kZ ?_;have hs:=Sn
 conv=>whnf
 repeat'((first|clear U K|apply st|(apply zk;intro K U)|refine zY ?_|refine za (fun hc=>?_) fun hc=>?_|fail)<;>conv=>whnf)
 all_goals exact AG (by simp[Ja, *]<;>omega)
def AA4 (p:Prog) (L:Nat) (g:Int):Pure zP 166 [Ls p L,eI g] (.b (Ja p g)):=by
 refine Pure.fit (by kernel_rfl) fun hf=>?_
 have hM:=Mx;refine kC kZ ?_;have hs:=Sn
 conv=>whnf
 repeat'((first|clear U K|apply st|(apply zk;intro K U)|refine zY ?_|refine za (fun hc=>?_) fun hc=>?_|fail)<;>conv=>whnf)
 all_goals exact AG (by simp[Ja, *]<;>omega)
def uz (g:Int):Pure zP 166 [.pn,eI g] (.b false):=by
 refine kC kZ ?_;have hs:=Sn;exact zW
def of50 (p:Prog) (L:Nat) (g:Int):Pure zP 172 [Ls p L,eI g] (.f (.func 244) [] [.rp [Ls p L],.rp [eI g]]):=by
 refine yH kZ ?_;have hs:=Sn;exact zW
def Bi (gp:Int) (v:Int×Int):Bool:=
 if v.1=1 then decide (-1000000000<=v.2)&&decide (v.2<=1000000000)else if v.1=2 then v.2==0 else if v.1=3 then decide (0<=v.2)&&decide (v.2<gp)else false
def oV (v:Int×Int) (n:Int):Pure zP 169 [.a (pI v),eI n] (.b (Bi n v)):=by
 obtain⟨k,x⟩:=v;refine yJ kZ ?_;have hs:=Sn
 conv=>whnf
 repeat'((first|clear U K|apply st|(apply zk;intro K U)|refine zY ?_|(refine zd (fun hc=>?_) (fun hc=>?_)<;>try exact⟨⟩)|fail)<;>conv=>whnf)
 all_goals exact AG (by simp[Bi, *]<;>omega)
def AAP (v:Int×Int) (n:Int):Pure zP 165 [.a (pI v),eI n] (.b (Bi n v)):=by
 obtain⟨k,x⟩:=v;refine yM kZ ?_;have hs:=Sn
 conv=>whnf
 repeat'((first|clear U K|apply st|(apply zk;intro K U)|refine zY ?_|(refine zd (fun hc=>?_) (fun hc=>?_)<;>try exact⟨⟩)|fail)<;>conv=>whnf)
 all_goals exact AG (by simp[Bi, *]<;>omega)
def im (l:List (Int×Int)) (f:Bool) (n:Int):Pure zP 113 [.l (pP l) f,eI n] (.b (l.all (Bi n))):=by
 refine Pure.fit (by kernel_rfl) fun hf=>?_
 have hl:l.length<=Ae:=by
  have:=hf.1;simp only[E4,Ca]at this;exact this.1
 have hM:=Mx;refine yw kZ ?_;have hs:=Sn;refine zz ?_;(repeat clear U K);repeat intro K U
 refine CZ l.length (fun k (_:Unit)=>[(9,eI (BL k))]) (fun _ _=>[]) (fun k _=>l.all (Bi n)=(l.drop k).all (Bi n)) () rfl rfl hs ?_;clear hs;rintro k - Z hk hn hs;rcases BF l hk with⟨x,hx,hlt⟩|hke
 .have c1:=AAP x n
  rw[drop_cons hx,R8]at hn;cases hv:Bi n x<;>rw[hv]at c1 hn
  .conv=>whnf
   repeat'((first|clear U K|apply st|(apply zk;intro K U)|refine zY ?_|refine zs fun Z hs=>?_|refine zC ?_|refine zo fun nn hnn Z hs=>?_|fail)<;>conv=>whnf)
   exact AG (by rw[hn];rfl)
  .conv=>whnf
   repeat'((first|clear U K|apply st|(apply zk;intro K U)|refine zY ?_|refine zs fun Z hs=>?_|refine zC ?_|refine zo fun nn hnn Z hs=>?_|fail)<;>conv=>whnf)
   exact⟨hlt,(),rfl,hn,hs.less (O4 _)⟩
 .refine zz ?_;(repeat clear U K);repeat intro K U
  exact AG (by rw[hn,Ao hke];rfl)
def T9 (w:AF) (c:Int):Bool:=decide (3<=c)&&decide (c<3+(w.parents.length:Int))
def C3 (w:AF) (c:Int):List Int:=(BD w.owner.length).filter (hasB w c)
abbrev Ob:=Int×List (Int×Int)
abbrev Gt (o:Ob):List V:=[eI o.1,.l (pP o.2) false]
def NT (w:AF) (n:Int) (o:Ob):Bool:=T9 w o.1&&(o.2.length==(C3 w o.1).length&&o.2.all (Bi n))
def Fp (w:AF) (os:List Ob):Bool:=decide (os.length<=40)&&os.all (NT w os.length)
def AAb (w:AF) (c:Int) (hw:GP w):Pure zP 163 [.a (A9 w),eI c] (.b (T9 w c)):=by
 have hl:=hw.len;have hw3:IntKind.i64.wrap (3+(w.parents.length:Int))=3+w.parents.length:=wrap64 (by omega) (by omega);refine yO kZ ?_;have hs:=Sn
 conv=>whnf
 repeat'((first|clear U K|apply st|(apply zk;intro K U)|refine zY ?_|refine za (fun hc=>?_) fun hc=>?_|fail)<;>conv=>whnf)
 all_goals try rw[hw3]at hc
 all_goals exact AG (by simp only[hw3,T9];simp[*]<;>omega)
def og (w:AF) (c:Int) (hw:GP w) (hc0:0<=c) (hc1:c<3+w.parents.length):Pure zP 164 [.a (A9 w),eI c] (.l (iL (C3 w c)) false):=by
 have hM:=Mx;have hol:=hw.tE;refine yN kZ ?_;have hs:=Sn;refine zz ?_;(repeat clear U K);repeat intro K U
 refine CZ w.owner.length (fun k v=>[(5,v),(10,eI (BL k))]) (fun k v=>[.own v 1 (iL ((BD k).filter (hasB w c)))]) (fun _ _=>True) (.l [] true) rfl trivial (Gy Sat.nil 1) ?_;clear hs;rintro k v Z hk - hs;have hfl:=Pr (hasB w c) (BD k);rw[FX]at hfl;rcases BF w.owner hk with⟨s,hso,hlt⟩|hke
 .have hck:BL k=k:=Ag (by omega)
  have c1:Pure zP 234 [.a (A9 w),eI c,eI (BL k)] (.b (hasB w c k)):=by rw[hck];exact jd w c k hw hc0 hc1 (by omega) (by omega)
  have hst:(BD (k+1)).filter (hasB w c)=if hasB w c k then(BD k).filter (hasB w c)++[(k:Int)]else(BD k).filter (hasB w c):=by
   rw[HM,List.filter_append];cases hp:hasB w c k<;>simp[hp]
  generalize (BD k).filter (hasB w c)=zl at *;have hll:zl.length<Ae/\(zl.length+1)*8<=140737488355328:=by omega
  cases hh:hasB w c k<;>rw[hh]at c1 hst
  .conv=>whnf
   repeat'((first|clear U K|apply st|(apply zk;intro K U)|refine zY ?_|refine zC ?_|fail)<;>conv=>whnf)
   exact⟨hlt,_,rfl,trivial,by rw[hst];exact hs⟩
  .conv=>whnf
   repeat'((first|clear U K|apply st|(apply zk;intro K U)|refine zY ?_|refine aq fun v Z hs hsl=>?_|refine zC ?_|fail)<;>conv=>whnf)
   exact⟨hlt,_,rfl,trivial,by rw[hst,<-hck];exact hs⟩
 .rw[hke]at hs
  refine zz ?_;(repeat clear U K);repeat intro K U
  exact BZ (hs.HQ 0 rfl)
def uD (w : AF) (os:List Ob) (f:Bool) (hw:GP w):Pure zP 112 [.a (A9 w),.l (os.map Gt) f] (.b (Fp w os)):=by
 refine Pure.fit (by kernel_rfl) fun hf=>?_
 have hM:=Mx
 have hol:os.length<=Ae:=by
  have:=hf.2.1;simp only[E4,Ca]at this;exact this.1
 refine yx kZ ?_;have hs:=Sn;by_cases h40:os.length<=40
 .have e0 : Fp w os=os.all (NT w os.length):=by rw[Fp,decide_eq_true h40,Cm]
  rw[e0]
  conv=>whnf
  repeat'((first|clear U K|apply st|(apply zk;intro K U)|refine zY ?_|(refine zb (fun hc=>?_) (fun hc=>?_)<;>try exact⟨⟩)|fail)<;>conv=>whnf)
  refine CZ os.length (fun k (_:Unit)=>[(12,eI (BL k))]) (fun _ _=>[]) (fun k _=>os.all (NT w os.length)=(os.drop k).all (NT w os.length)) () rfl rfl hs ?_;clear hs;rintro k - Z hk hn hs;rcases BF os hk with⟨x,hx,hlt⟩|hke
  .rw [drop_cons hx,R8]at hn
   have c1:=AAb w x.1 hw;cases ho:T9 w x.1<;>rw[ho]at c1
   .conv=>whnf
    repeat'((first|clear U K|apply st|(apply zk;intro K U)|refine zY ?_|refine rk ?_ ?_|exact fun s e=>by cases e;rfl|refine zs fun Z hs=>?_|refine zC ?_|refine zo fun nn hnn Z hs=>?_|fail)<;>conv=>whnf)
    all_goals exact AG (by rw[hn,NT,ho];rfl)
   .have ho':=ho
    simp only[T9,A0,CC]at ho';have c2:=og w x.1 hw (by omega) (by omega);have e3:((os.map Gt).length:Int)=os.length:=by simp
    have c3:Pure zP 113 [.l (pP x.2) false,eI ((os.map Gt).length:Int)] (.b (x.2.all (Bi os.length))):=by rw[e3];exact im x.2 false os.length
    have hob:NT w os.length x=(x.2.length==(C3 w x.1).length&&x.2.all (Bi os.length)):=by rw[NT,ho,Cm]
    rw[hob]at hn;by_cases he:x.2.length=(C3 w x.1).length
    .rw [Cd.2 he,Cm]at hn
     cases hv:x.2.all (Bi os.length)<;>rw[hv]at c3 hn
     .conv=>whnf
      repeat'((first|clear U K|apply st|(apply zk;intro K U)|refine zY ?_|refine rk ?_ ?_|exact fun s e=>by cases e;rfl|refine zs fun Z hs=>?_|refine zC ?_|(refine zd (fun hc=>?_) (fun hc=>?_)<;>try exact⟨⟩)|refine zo fun nn hnn Z hs=>?_|fail)<;>conv=>whnf)
      all_goals first
       | exact AG (by rw[hn];rfl)
       | (exfalso;simp[he]at hc;done)
     .conv=>whnf
      repeat'((first|clear U K|apply st|(apply zk;intro K U)|refine zY ?_|refine rk ?_ ?_|exact fun s e=>by cases e;rfl|refine zs fun Z hs=>?_|refine zC ?_|(refine zd (fun hc=>?_) (fun hc=>?_)<;>try exact⟨⟩)|refine zo fun nn hnn Z hs=>?_|fail)<;>conv=>whnf)
      all_goals first
       | exact⟨hlt,(),rfl,hn,hs.less (O4 _)⟩
       | (exfalso;simp[he]at hc;done)
    .rw[beq_eq_false_iff_ne.2 he,Bool.false_and,Bool.false_and]at hn
     cases hv:x.2.all (Bi os.length)<;>rw[hv]at c3
     all_goals
      conv=>whnf
      repeat'((first|clear U K|apply st|(apply zk;intro K U)|refine zY ?_|refine rk ?_ ?_|exact fun s e=>by cases e;rfl|refine zs fun Z hs=>?_|refine zC ?_|(refine zd (fun hc=>?_) (fun hc=>?_)<;>try exact⟨⟩)|refine zo fun nn hnn Z hs=>?_|fail)<;>conv=>whnf)
     all_goals first
      | exact AG (by rw[hn])
      | (exfalso;have q:(bif !true then true else(x.2.length:Int) != ((C3 w x.1).length:Int))=false:=(by assumption);simp at q;omega)
      | (exfalso;simp at hc;omega)
  .refine zz ?_;(repeat clear U K);repeat intro K U
   exact AG (by rw[hn,Ao hke];rfl)
 .conv=>whnf
  repeat'((first|clear U K|apply st|(apply zk;intro K U)|refine zY ?_|(refine zb (fun hc=>?_) (fun hc=>?_)<;>try exact⟨⟩)|fail)<;>conv=>whnf)
  exact AG (by rw[Fp,decide_eq_false h40];rfl)
end Go.Gl
namespace Go.Gl
open Go.Proofs
section
variable {H:Type} {enc:TypeId×Value->H} {W:World}
def AAW:SJ enc Tryz.prog W 169 pI:=fun n=>
 GG (Er Tryz.underlying169
  (fun n=>BH (c:=1) rfl (by kernel_rfl) (fun _=>rfl) (QM Tryz.underlying167 n) (BH (c:=1) rfl (by kernel_rfl) (fun _=>rfl) (Lv n) GH)) (fun _=>(show _=2 from rfl).trans (by kernel_rfl)) n) (fun x=>(x.1,x.2.1)) fun _=>rfl
def jF:SJ enc Tryz.prog W 74 fun l:List (Int×Int)=>[V.l (pP l) false]:=Gh (sz:=2) Tryz.underlying74 (by kernel_rfl) (by decide) (b8 (by kernel_rfl)) (fun _=>rfl) AAW
def rdOb:SJ enc Tryz.prog W 227 Gt:=fun n=>
 GG (Er Tryz.underlying227
  (fun n=>BH (c:=1) rfl (by kernel_rfl) (fun _=>rfl) (Lv n) (BH (c:=1) rfl (by kernel_rfl) (fun _=>rfl) (jF n) GH)) (fun _=>(show _=2 from rfl).trans (by kernel_rfl)) n) (fun x=>(x.1,x.2.1)) fun _=>rfl
def AAX:SJ enc Tryz.prog W 73 fun l:List Ob=>[V.l (l.map Gt) false]:=Gh (sz:=2) Tryz.underlying73 (by kernel_rfl) (by decide) (b8 (by kernel_rfl)) (fun _=>rfl) rdOb
end
section
variable {H:Type} {enc:TypeId×Value->H} {W:World}
end
end Go.Gl
namespace Go.Proofs.YtegbmnmnaijioaaGreat
open Go.Gl Go.ChangeShapes Go.WideShapes Go.ChangeAt Go.RowKit
theorem own:ownKnob Tryz.prog.godebug=none:=by kernel_rfl
def laidOut:laidOutB Tryz.prog=true:=by kernel_rfl
def Ex {a b:Bool} (h1:a=true) (h2:b=true):(a&&b)=true:=by rw[h1,h2];rfl
abbrev HE (w:World):=Hh (fun _=>False) emp w
end Go.Proofs.YtegbmnmnaijioaaGreat
