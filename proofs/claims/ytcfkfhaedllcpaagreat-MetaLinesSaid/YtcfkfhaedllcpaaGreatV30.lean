import Derived.Test.YtcfkfhaedllcpaaGreatV14
import Derived.Test.YtcfkfhaedllcpaaGreatV22
import Derived.Test.YtcfkfhaedllcpaaGreatV26
import Derived.Test.YtcfkfhaedllcpaaGreatV28
import Derived.Test.YtcfkfhaedllcpaaGreatV29
set_option linter.all false
set_option linter.defProp false
set_option maxHeartbeats 8000000
noncomputable section
namespace Go.Gl
open Go.Proofs
attribute [local irreducible] A6 Ar Ah AR AI Ae AQ AT AK Ad AN AO Ay A7 Sat AY A5 Ai W
def Tg {Z:AE} {X:List At} {L:Nat} {pre post:List C0} {e:C0} {s:List C0} (h:Sat Z (X++B9 L (pre++e::(post++s)))):Sat Z (.own e.vs 1 (iL e.k.AG)::(X++Hx L pre post e s)):=by
 have h2:=HY h;refine h2.perm ((Lj _ _ _ _).symm.trans (.cons _ ?_));exact(List.perm_middle.trans (.cons _ List.perm_middle)).symm
def oR {Z:AE} {X:List At} {L:Nat} {pre post:List C0} {e:C0} {s:List C0} (h:Sat Z (.own e.vs 1 (iL e.k.AG)::(X++Hx L pre post e s))):Sat Z (X++B9 L (pre++e::(post++s))):=by
 refine ER (X:=X) (e:=e) (e':=e) rfl rfl rfl ?_;refine h.perm ?_;refine List.Perm.trans (.cons _ (List.perm_middle.trans (.cons _ List.perm_middle))) ?_;exact Lj _ _ _ _
def nT (s:Nat) (c:Int) (hs0:s<18446744073709551616) (h0:0<=c) (hc:c<64):Pure zP 306 [eU s,eI c] (.b (s.testBit c.toNat)):=by
 have:=To s c.toNat hs0 (by omega);rw[Int.toNat_of_nonneg h0]at this;exact this
def kr {m:Nat} (hm:m<18446744073709551616):PI m 1=HU m:=by
 refine Nat.eq_of_testBit_eq fun i=>?_
 rw[WY];rcases Nat.lt_or_ge i 64 with hlt|hge
 .rw[QG hlt,show(1:Nat)=2 ^ 0 from rfl,Nat.testBit_two_pow]
  congr 2;rw[KO,CD,EZ];omega
 .have h64:18446744073709551616<=2 ^ i:=by simpa using Nat.pow_le_pow_right (n:=2) (by decide) hge
  rw[Nat.testBit_lt_two_pow (Nat.lt_of_lt_of_le (UY _ _) h64),Nat.testBit_lt_two_pow (Nat.lt_of_lt_of_le hm h64)];rfl
def SV (w : AH) (hw:D2 w) {kf:Int->List Int->Kn} (hr:JY w kf) {a:Int} {p:List Int} (hp:p.length<=2) (can:Int->Bool)
    (hcan: ∀s∈(kf a p).AG,∀L es,Dv kf es->Be zP 404 [Ux w (Es w.parents) L,Ea a (p++[s])] (B9 L es) fun r post=>r= .ret (.b (can s))/\PR kf L es post) {L:Nat} {es:List C0} (h:Dv kf es) :
    Be zP 412 [Ux w (Es w.parents) L,Ea a p] (B9 L es) fun r post=>r= .ret (.t [eU (OZ w (kf a p) (fun s=>(kf a (p++[s])).A0) can).1,.b (OZ w (kf a p) (fun s=>(kf a (p++[s])).A0) can).2])/\PR kf L es post:=by
 intro Z hs;have hM:=Mx;generalize hus:Es w.parents=us at *;refine s5 kZ ?_;refine zz ?_;(repeat clear U K);repeat intro K U
 refine(Lq w us h (a:=a) (p:=p) hp).use (rest:=[]) (by simpa using hs) ?_;clear hs;rintro r post Z ⟨es4,e4,got,rfl,rfl⟩ hs;have hek:=got.k;obtain⟨pre,post,rfl⟩:=List.append_of_mem got.mem;rw[I4]at hs;have hsc:=hs;replace hs:=HY (X:=[]) hs;have hok:=hr.ok a p;have hsl:=(hr.ok a p).2.2.2;have hsh:=hr.short a p;have hsw:=hr.AG a p;rw[<-hek]at hok hsl hsh hsw hcan;have hO:OZ w (kf a p) (fun s=>(kf a (p++[s])).A0) can=OZ w e4.k (fun s=>(kf a (p++[s])).A0) can:=by rw[hek]
 have hOn:(e4.k.whole=true\/e4.k.B5.testBit 1=true\/e4.k.B5.testBit 2=true\/e4.k.Gq.testBit 0=true)->OZ w (kf a p) (fun s=>(kf a (p++[s])).A0) can=(0,false):=fun h=>by
  rw[hO,OZ,if_pos];rcases h with h|h|h|h<;>rw[h]<;>simp
 have hOy:e4.k.whole=false->e4.k.B5.testBit 1=false->e4.k.B5.testBit 2=false->e4.k.Gq.testBit 0=false->OZ w (kf a p) (fun s=>(kf a (p++[s])).A0) can=match It w (fun s=>(kf a (p++[s])).A0) can e4.k.AG (e4.k.B5,e4.k.Gq)with
  | none=>(0,false)
  | some u=>(HU (DY (Es w.parents) w.parents.length u.1),HU (DY (Es w.parents) w.parents.length u.1)&&&u.2==0):=fun h1 h2 h3 h4=>by
  rw[hO,OZ,h1,h2,h3,h4];rfl
 clear hO;cases hb0:e4.k.whole<;>rw[hb0]at hs
 rotate_left
 .refine zz ?_;(repeat clear U K);repeat intro K U
  exact AU ⟨_,⟨by rw[hOn (.inl hb0)];rfl,_,got.ext,got.inv,rfl⟩,hsc⟩
 .conv => whnf
  repeat'((first|clear U K|apply st|(apply zk;intro K U)|refine zY ?_|refine Pure.use (To e4.k.B5 1 hok.1 (by decide)) ?_|refine Pure.use (To e4.k.B5 2 hok.1 (by decide)) ?_|refine Pure.use (To e4.k.Gq 0 hok.2.1 (by decide)) ?_|refine za (fun hc=>?_) fun hc=>?_|fail)<;>conv=>whnf)
  all_goals first
   | exact AU ⟨_,⟨by rw[hOn (by first|exact .inl (by assumption)|exact .inr (.inl (by assumption))|exact .inr (.inr (.inl (by assumption)))|exact .inr (.inr (.inr (by assumption))))];rfl,_,got.ext,got.inv,rfl⟩,hsc⟩
   | skip
  replace hOy:=hOy hb0 (by assumption) (by assumption) (by assumption);clear hOn;generalize hnf:(fun s=>(kf a (p++[s])).A0)=A0 at *
  have hs1:Sat Z (.own e4.vs 1 (iL e4.k.AG)::Hx L pre post e4 []):=by
   have h2:=Tg (X:=[]) (L:=L) (pre:=pre) (post:=post) (e:=e4) (s:=[]) (by simpa using hsc);simpa using h2
  refine By e4.k.AG.length (fun k (x:(Nat×Nat)×List C0)=>[(47,eI (A9 k)),(7,eU x.1.1),(8,eU x.1.2)]) (fun k x=> .own e4.vs 1 (iL e4.k.AG)::Hx L pre post e4 x.2) (fun k x=>(x.1.1<18446744073709551616/\x.1.2<18446744073709551616)/\(Dv kf (pre++e4::(post++x.2))/\ ∀y∈x.2,y.k=k0)/\It w A0 can e4.k.AG (e4.k.B5,e4.k.Gq)=It w A0 can (e4.k.AG.drop k) x.1) ((e4.k.B5,e4.k.Gq),[]) rfl ⟨⟨hok.1,hok.2.1⟩,⟨by simpa using got.inv,by simp⟩,rfl⟩ hs1 ?_;clear hs hs1 hsc;rintro k ⟨⟨m,no⟩,new⟩ Z hk ⟨⟨hm,hno⟩,⟨hinv,hnew⟩,hF⟩ hs;simp only at hm hno hinv hnew hF hs;have hck:A9 k=k:=AM (by have:=hok.2.2.2;omega);rcases A3 e4.k.AG hk with⟨s,hsk,hlt⟩|hke
  .have hsm:=Bz hsk
   have hp2:p.length<2:=by
    rcases Nat.lt_or_ge p.length 2 with h'|h'
    .exact h'
    .rw[hsh h']at hsm;cases hsm
   obtain⟨hs0,hs1⟩:=hsw s hsm;rw[drop_cons hsk,It]at hF
   conv=>whnf
   repeat'((first|clear U K|apply st|(apply zk;intro K U)|refine zY ?_|refine ze fun x hx=>?_|refine zs fun Z hs=>?_|refine Pure.use (Ox a p _ hp2) ?_|refine zo fun nn hnn Z hs=>?_|fail)<;>conv=>whnf)
   obtain rfl:x=s:=by rw[hck,JC,hsk]at hx;exact(Option.some.inj hx).symm
   generalize nn=n7 at *;have hs2:Sat Z ([.box n7 (LZ a (p++[x]))]++B9 L (pre++e4::(post++new))):=oR (X:=[.box n7 (LZ a (p++[x]))]) (hs.perm (.swap _ _ _));clear hs;obtain⟨o,ho⟩: ∃o,w.owner[x.toNat]? =some o:=⟨_,Cw (by omega)⟩
   have hoI:Cp w x=o:=by simp only[Cp,DL,ho];rfl
   obtain⟨ho1,ho2⟩:=hw.2.2 o (Bz ho);have hwp:=hw.1.1;have hcx:=hcan x hsm L;cases hnx:A0 x<;>cases hcy:can x
   all_goals
    rw[hcy]at hcx;rw[ZE,hnx,hcy,hoI]at hF;refine(Lq w us hinv (a:=a) (p:=p++[x]) (by simp;omega)).use (rest:=[.box n7 (LZ a (p++[x]))]) (hs2.perm Rn) ?_;clear hs2;rintro r post' Z ⟨es5,e5,got5,rfl,rfl⟩ hs;have hek5:e5.k.A0=A0 x:=by rw[got5.k,<-hnf]
    rw[hnx]at hek5;obtain⟨newA,heA,hnA⟩:=got5.ext;obtain⟨pre5,post5,he5⟩:=List.append_of_mem got5.mem;rw[he5]at hs;replace hs:=HY (X:=[.box n7 (LZ a (p++[x]))]) (hs.perm Rn);rw[hek5]at hs
    conv=>whnf
    repeat'((first|apply st|refine zY ?_|refine rk ?_ ?_|exact fun s e=>by cases e;rfl|fail)<;>conv=>whnf)
    have hs2:Sat Z ([.box n7 (LZ a (p++[x]))]++B9 L (pre5++e5::post5)):=ER (X:=[.box n7 (LZ a (p++[x]))]) (e:=e5) (e':=e5) rfl rfl rfl (by rw[<-hek5]at hs;exact hs);clear hs;refine(hcx es5 got5.inv).use (rest:=[.box n7 (LZ a (p++[x]))]) (by rw[he5];exact hs2.perm Rn) ?_;clear hs2;rintro r post' Z ⟨rfl,es6,⟨new6,he6,hn6⟩,hi6,rfl⟩ hs;have he7:es6=pre5++e5::(post5++new6):=by rw[he6,he5];simp
    rw[he7]at hs;replace hs:=HY (X:=[.box n7 (LZ a (p++[x]))]) (hs.perm Rn);rw[hek5]at hs
    conv=>whnf
    repeat'((first|clear U K|apply st|(apply zk;intro K U)|refine zY ?_|refine rk ?_ ?_|exact fun s e=>by cases e;rfl|refine Pure.use (He m o hm (by omega) (by omega)) ?_|refine Pure.use (He no o hno (by omega) (by omega)) ?_|fail)<;>conv=>whnf)
    simp only[Bool.not_false,Bool.not_true,Bool.and_true,Bool.and_false,KQ,if_false,if_true,Option.bind_some,Option.bind_none]at hF;have e7:es6=pre++e4::(post++(new++newA++new6)):=by rw[he6,heA];simp
    have hs2:Sat Z ([.box n7 (LZ a (p++[x]))]++B9 L (pre5++e5::(post5++new6))):=ER (X:=[.box n7 (LZ a (p++[x]))]) (e:=e5) (e':=e5) rfl rfl rfl (by rw[<-hek5]at hs;exact hs)
    have hs3:Sat Z (B9 L (pre++e4::(post++(new++newA++new6)))):=by
     rw[<-he7,e7]at hs2;exact hs2.less (List.sublist_append_right _ _)
    have hi7:Dv kf (pre++e4::(post++(new++newA++new6))):=by rw[<-e7];exact hi6
    have hn7: ∀y∈new++newA++new6,y.k=k0:=fun y hy=>by
     rcases FC.1 hy with hy|hy
     .rcases FC.1 hy with hy|hy
      .exact hnew y hy
      .exact hnA y hy
     .exact hn6 y hy
    have hob:2 ^ o.toNat<18446744073709551616:=Kt (by omega)
   .exact⟨hlt,((m,no|||2 ^ o.toNat),new++newA++new6),rfl,⟨⟨hm,Lk hno hob⟩,⟨hi7,hn7⟩,hF⟩,Tg (X:=[]) hs3⟩
   .exact⟨hlt,((m,no),new++newA++new6),rfl,⟨⟨hm,hno⟩,⟨hi7,hn7⟩,hF⟩,Tg (X:=[]) hs3⟩
   .rw[hF]at hOy
    exact AU ⟨_,⟨by rw[hOy];rfl,_,got.ext.trans ⟨_,by simp,hn7⟩,hi7,rfl⟩,hs3⟩
   .exact⟨hlt,((m|||2 ^ o.toNat,no),new++newA++new6),rfl,⟨⟨Lk hm hob,hno⟩,⟨hi7,hn7⟩,hF⟩,Tg (X:=[]) hs3⟩
  .rw [Al hke,It]at hF
   rw[hF]at hOy;simp only at hOy;refine zz ?_;(repeat clear U K);repeat intro K U
   have hu:xQ us:=by rw[<-hus];exact MC _ _ (by have:=hw.1.1;omega)
   have hul:us.length=3+w.parents.length:=by rw[<-hus];exact GC _ _
   have hwp:=hw.1.1;have hwl:IntKind.i64.wrap (3+((Ek w.parents).length:Nat))=3+(w.parents.length:Int):=by rw[BL,wrap64 (by omega) (by omega)]
   refine By w.parents.length (fun k (x:Nat)=>[(14,eI (JL 3 k)),(7,eU x)]) (fun _ _=> .own e4.vs 1 (iL e4.k.AG)::Hx L pre post e4 new) (fun k x=>x<18446744073709551616/\x=DY us k m) m rfl ⟨hm,rfl⟩ hs ?_;clear hs;clear hke hck hk k;rintro k x Z hk ⟨hx64,hxe⟩ hs;have hc3:JL 3 k=3+k:=L8 (by omega) (by omega);by_cases hlt:k<w.parents.length
   .have hbt:DY us (k+1) m=if x.testBit (JL 3 k).toNat then x|||us.getD (3+k) 0 else x:=by
     rw[DY,<-hxe,hc3,show(3+(k:Int)).toNat=3+k by omega]
    have hup:(List.drop ((JL 3 k).toNat*1) (List.drop 2 (wC w us)))[0]? =some (eU (us.getD (3+k) 0)):=by
     rw[w8,w8,<-pA w us (i:=3+k) (by omega)];congr 1;omega
    conv=>whnf
    repeat'((first|clear U K|apply st|(apply zk;intro K U)|refine zY ?_|(rw[hup])|refine Pure.use (nT x (JL 3 k) hx64 (by omega) (by omega)) ?_|(refine zb (fun hc=>?_) (fun hc=>?_)<;>try exact⟨⟩)|fail)<;>conv=>whnf)
    .refine⟨hlt,x|||us.getD (3+k) 0,?_,⟨Lk hx64 (Th hu _),by rw[hbt,if_pos (by assumption)]⟩,hs⟩
     rw[L9 hx64 (Th hu _)];rfl
    .exact⟨hlt,x,rfl,⟨hx64,by rw[hbt,if_neg (by rw[‹x.testBit _=false›];decide)]⟩,hs⟩
   .have hke:k=w.parents.length:=by omega
    rw[hus,<-hke,<-hxe]at hOy
    have hA:bits .andNot .u64 (x:Int) 1=((HU x:Nat):Int):=by
     have:=S6 (a:=x) (b:=1);rw[kr hx64]at this;exact this
    have hcl:HU x<18446744073709551616:=by unfold HU;omega
    have hB:bits .and .u64 ((HU x:Nat):Int) (no:Int)=((HU x&&&no:Nat):Int):=MW hcl hno
    conv=>whnf
    repeat'((first|clear U K|apply st|(apply zk;intro K U)|refine zY ?_|(refine zb (fun hc=>?_) (fun hc=>?_)<;>try exact⟨⟩)|fail)<;>conv=>whnf)
    rw[hA,hB];refine AU ⟨_,⟨?_,_,got.ext.trans ⟨new,by simp,hnew⟩,hinv,rfl⟩,qV hs⟩;rw[hOy]
    have hz:(((HU x&&&no:Nat):Int)==0)=(HU x&&&no==0):=by
     rw[KO,EZ,EZ];omega
    rw[<-hz]
def wZ (w:AH) (hw:D2 w) {kf:Int->List Int->Kn} (hr:JY w kf) (a:Int): ∀(d:Nat) (p:List Int),p.length+d=2-> ∀(L:Nat) (es:List C0),Dv kf es->
    Be zP 404 [Ux w (Es w.parents) L,Ea a p] (B9 L es) fun r post=>r= .ret (.b (Oe w kf a d p))/\PR kf L es post:=by
 intro d
 induction d with
 | zero=>
   intro p hp L es h Z hs;have hint:=Qj w (Es w.parents) hr h (L:=L) (a:=a) (p:=p) (by omega);have hnone:=fun es h=>Zz w (Es w.parents) hr (es:=es) h (L:=L) (a:=a) (p:=p) (by omega)
   have hobj:=fun es h=>SV w hw hr (a:=a) (p:=p) (by omega) (fun _=>false) (by rw[hr.short a p (by omega)];intro s hs;cases hs) (L:=L) (es:=es) h
   rw[Oe];cases hI:TW kf a p<;>cases hN:Ll kf a p<;>rw[hI]at hint<;>rw[hN]at hnone
   all_goals
    refine gd kZ ?_
    conv=>whnf
    repeat'((first|apply st|(apply sq;intro K U)|(apply si;intro A B hA hB)|(refine hA _ _ ?_;clear hB B hA A)|(apply U;clear U K)|refine⟨kZ,?_⟩|fail)<;>conv=>whnf)
    refine hint.use (rest:=[]) (by simpa using hs) ?_;clear hs;rintro r post Z ⟨rfl,es2,hx2,hi2,rfl⟩ hs;rw[I4]at hs
    conv=>whnf
    repeat'((first|apply st|(apply sq;intro K U)|(apply si;intro A B hA hB)|(refine hA _ _ ?_;clear hB B hA A)|(apply U;clear U K)|refine⟨kZ,?_⟩|clear U K)<;>conv=>whnf)
   rotate_left 2
   .exact AU ⟨_,⟨rfl,es2,hx2,hi2,rfl⟩,hs⟩
   .exact AU ⟨_,⟨rfl,es2,hx2,hi2,rfl⟩,hs⟩
   all_goals
    refine(hnone es2 hi2).use (rest:=[]) (by simpa using hs) ?_;clear hs;rintro r post Z ⟨rfl,es3,hx3,hi3,rfl⟩ hs;rw[I4]at hs
    conv=>whnf
    repeat'((first|apply st|(apply sq;intro K U)|(apply si;intro A B hA hB)|(refine hA _ _ ?_;clear hB B hA A)|(apply U;clear U K)|refine⟨kZ,?_⟩|refine Uy ?_|refine Rp ?_|clear U K)<;>conv=>whnf)
   rotate_left 1
   .exact AU ⟨_,⟨rfl,es3,hx2.trans hx3,hi3,rfl⟩,hs⟩
   .refine(hobj es3 hi3).use (rest:=[]) (by simpa using hs) ?_
    clear hs;rintro r post Z ⟨rfl,es4,hx4,hi4,rfl⟩ hs;rw[I4]at hs
    conv=>whnf
    repeat'((first|apply st|(apply sq;intro K U)|(apply si;intro A B hA hB)|(refine hA _ _ ?_;clear hB B hA A)|(apply U;clear U K)|fail)<;>conv=>whnf)
    exact AU ⟨_,⟨rfl,es4,(hx2.trans hx3).trans hx4,hi4,rfl⟩,hs⟩
 | succ d ih=>
   intro p hp L es h Z hs;have hint:=Qj w (Es w.parents) hr h (L:=L) (a:=a) (p:=p) (by omega);have hnone:=fun es h=>Zz w (Es w.parents) hr (es:=es) h (L:=L) (a:=a) (p:=p) (by omega)
   have hobj:=fun es h=>SV w hw hr (a:=a) (p:=p) (by omega) (fun s=>Oe w kf a d (p++[s])) (fun s hs L es h=>ih (p++[s]) (by simp;omega) L es h) (L:=L) (es:=es) h
   rw[Oe];cases hI:TW kf a p<;>cases hN:Ll kf a p<;>rw[hI]at hint<;>rw[hN]at hnone
   all_goals
    refine gd kZ ?_
    conv=>whnf
    repeat'((first|apply st|(apply sq;intro K U)|(apply si;intro A B hA hB)|(refine hA _ _ ?_;clear hB B hA A)|(apply U;clear U K)|refine⟨kZ,?_⟩|fail)<;>conv=>whnf)
    refine hint.use (rest:=[]) (by simpa using hs) ?_;clear hs;rintro r post Z ⟨rfl,es2,hx2,hi2,rfl⟩ hs;rw[I4]at hs
    conv=>whnf
    repeat'((first|apply st|(apply sq;intro K U)|(apply si;intro A B hA hB)|(refine hA _ _ ?_;clear hB B hA A)|(apply U;clear U K)|refine⟨kZ,?_⟩|clear U K)<;>conv=>whnf)
   rotate_left 2
   .exact AU ⟨_,⟨rfl,es2,hx2,hi2,rfl⟩,hs⟩
   .exact AU ⟨_,⟨rfl,es2,hx2,hi2,rfl⟩,hs⟩
   all_goals
    refine(hnone es2 hi2).use (rest:=[]) (by simpa using hs) ?_;clear hs;rintro r post Z ⟨rfl,es3,hx3,hi3,rfl⟩ hs;rw[I4]at hs
    conv=>whnf
    repeat'((first|apply st|(apply sq;intro K U)|(apply si;intro A B hA hB)|(refine hA _ _ ?_;clear hB B hA A)|(apply U;clear U K)|refine⟨kZ,?_⟩|refine Uy ?_|refine Rp ?_|clear U K)<;>conv=>whnf)
   rotate_left 1
   .exact AU ⟨_,⟨rfl,es3,hx2.trans hx3,hi3,rfl⟩,hs⟩
   .refine(hobj es3 hi3).use (rest:=[]) (by simpa using hs) ?_
    clear hs;rintro r post Z ⟨rfl,es4,hx4,hi4,rfl⟩ hs;rw[I4]at hs
    conv=>whnf
    repeat'((first|apply st|(apply sq;intro K U)|(apply si;intro A B hA hB)|(refine hA _ _ ?_;clear hB B hA A)|(apply U;clear U K)|fail)<;>conv=>whnf)
    exact AU ⟨_,⟨rfl,es4,(hx2.trans hx3).trans hx4,hi4,rfl⟩,hs⟩
abbrev pv:V:= .E9 433 (.a [])
def iX (w:AH) (hw:D2 w) {kf:Int->List Int->Kn} (hr:JY w kf) {L:Nat} {es:List C0} (h:Dv kf es) :
    Be zP 398 [Ux w (Es w.parents) L] (B9 L es) fun r post=>r=(if ed w kf then .ret (.t [])else .Bd pv)/\post= []:=by
 intro Z hs;refine tH kZ ?_
 conv=>whnf
 repeat'((first|apply st|(apply sq;intro K U)|(apply si;intro A B hA hB)|(refine hA _ _ ?_;clear hB B hA A)|(apply U;clear U K)|fail)<;>conv=>whnf)
 refine By 3 (fun k (x:List C0)=>[(3,eI (A9 k))]) (fun k x=>B9 L x) (fun k x=>Dv kf x/\ed w kf=((Cq 3).drop k).all fun a=>Oe w kf a 2 []) es rfl ⟨h,rfl⟩ hs ?_;clear hs h;rintro k es Z hk ⟨h,hn⟩ hs;have hck:A9 k=k:=AM (by simp only[AX];omega);have hl3:(Cq 3).length=3:=rfl;rcases A3 (Cq 3) hk with⟨a,ha,hlt⟩|hke
 .rw[drop_cons ha,KK]at hn
  have hak:a=A9 k:=by
   rw[hck];simp only[Cq,Mu,List.getElem?_range (show k<3 from hlt),XU]at ha;exact(Option.some.inj ha).symm
  subst hak;have hcan:=wZ w hw hr (A9 k) 2 [] rfl L es h;cases hC:Oe w kf (A9 k) 2 []<;>rw[hC]at hcan hn
  all_goals
   conv=>whnf
   repeat'((first|apply st|(apply sq;intro K U)|(apply si;intro A B hA hB)|(refine hA _ _ ?_;clear hB B hA A)|(apply U;clear U K)|refine⟨rfl,?_⟩|(constructor<;>intro hc<;>(try rw[hc])<;>(replace hc:=bp hc)<;>(try simp(disch:=omega) only[BL,wrap64,AM]at hc)<;>try(exfalso;omega))|fail)<;>conv=>whnf)
   refine hcan.use (rest:=[]) (by simpa using hs) ?_;clear hs;rintro r post Z ⟨rfl,es2,hx2,hi2,rfl⟩ hs;rw[I4]at hs
   conv=>whnf
   repeat'((first|apply st|(apply si;intro A B hA hB)|(refine hA _ _ ?_;clear hB B hA A)|(refine hB _ _ _ ?_;clear hB B hA A)|(apply U;clear U K)|refine⟨rfl,?_⟩|refine Uy ?_|refine Rp ?_|clear U K)<;>conv=>whnf)
  .exact DJ ⟨_,⟨by rw[hn];rfl,rfl⟩,hs.less (Jm _)⟩
  .exact⟨by omega,es2,rfl,⟨hi2,by simpa using hn⟩,hs⟩
 .rw[Al hke]at hn
  conv=>whnf
  repeat'((first|apply st|(apply sq;intro K U)|(apply si;intro A B hA hB)|(refine hA _ _ ?_;clear hB B hA A)|(apply U;clear U K)|refine⟨rfl,?_⟩|(constructor<;>intro hc<;>(try rw[hc])<;>(replace hc:=bp hc)<;>(try simp(disch:=omega) only[BL,wrap64,AM]at hc)<;>try(exfalso;omega))|clear U K)<;>conv=>whnf)
  exact AU ⟨_,⟨by rw[hn];rfl,rfl⟩,hs.less (Jm _)⟩
def a8 {w:AH} {ls:List Fact} (hw:w.parents.length<=60) (h: ∀x∈ls,I8 w x):X9 ls:=by
 intro l hl;obtain⟨-,hc,hsm,hsh⟩:=Je h;obtain⟨-,hn,hlf⟩:=Hl (h l hl);exact⟨F5 hlf,hsh l hl,fun ho=>by have:=hc l hl ho;omega,hsm l hl⟩
def sQ {ls:List Fact} (h:Kr ls) (a:Int) (p:List Int): -1000000000<=(kn ls a p).low/\(kn ls a p).low<=1000000000:=by
 have key: ∀(ls:List Fact) (k:Kn),Kr ls->(-1000000000<=k.low/\k.low<=1000000000)-> -1000000000<=(ls.foldl (DA a p) k).low/\(ls.foldl (DA a p) k).low<=1000000000:=by
  intro ls
  induction ls with
  | nil=>intro k _ h;exact h
  | cons l r ih=>
    intro k hs hk;refine ih _ (fun x hx=>hs x (.tail _ hx)) ?_;have hn:=hs l (.head _);unfold DA Cn Dg lA
    repeat' split
    all_goals first
     | exact hk
     | exact hn
     | (simp only;exact hk)
     | (simp only;exact hn)
 exact key ls k0 h ⟨by decide,by decide⟩
def Zr {w:AH} {ls:List Fact} (h: ∀x∈ls,I8 w x):IB w.owner.length ls:=by
 intro l hl s hs;obtain⟨-,hn,-⟩:=Hl (h l hl);rw[Cs,BD]at hn;have:=hn.1;simp only[DB,FE,BD,Er,Im,CD]at this;exact this.2.2.2.2.1.1 s hs
def mU {w:AH} (hw:D2 w) {ls:List Fact} (h: ∀x∈ls,I8 w x) (hlen:ls.length<900):JY w (kn ls):=by
 have hadd:=a8 (by have:=hw.1.1;omega) h;obtain⟨-,-,hsm,hsh⟩:=Je h;have hp:=Zr h;refine⟨fun a p=>?_,sQ hsm,fun a p hpl=>?_,fun a p s hs=>?_⟩
 .obtain⟨h1,h2,h3,h4⟩:=gR hadd a p
  exact⟨h1,h2,by omega,by omega⟩
 .rw[MQ hp]
  exact NW hsh hpl
 .rw[MQ hp]at hs
  exact J5 hs
def qv {w:AH} (hw:D2 w) {ls:List Fact} (h: ∀x∈ls,I8 w x):ed w (kn ls)=G7 w ls:=by
 obtain⟨-,hc,-,-⟩:=Je h;refine qw ?_ (fun s h0 h1=>?_) (by have:=hw.1.1;omega) (fun l hl ho=>by have:=hc l hl ho;omega) (Zr h)
 .exact dD hw.1
 .obtain⟨o,ho⟩: ∃o,w.owner[s.toNat]? =some o:=⟨_,Cw (by omega)⟩
  have hoI:Cp w s=o:=by simp only[Cp,DL,ho];rfl
  rw[hoI];exact hw.2.2 o (Bz ho)
def oL {Z:AE} {n:Nat} {x:V} {rest:List At} (hs:Sat Z (.box n [x]::rest)) {Q:AE->Prop} (hq: ∀Z',Sat Z' (.box n [.b false]::rest)->Q Z'):HA zP 396 [.p n 0] (some pv) Z Q:=by
 refine aW kZ ?_
 conv=>whnf
 repeat'((first|apply st|(apply sq;intro K U)|(apply si;intro A B hA hB)|(refine hA _ _ ?_;clear hB B hA A)|(apply U;clear U K)|refine zG fun Z hs=>?_|refine Gk fun Z hs=>?_|refine qL rfl ?_|(intro nn hnn;generalize hg:BV _ nn _=Z;refine G5 hg fun hs=>?_;clear hg)|fail)<;>conv=>whnf)
 exact hq _ (hs.less (LW _ _))
def oM {Z:AE} {n:Nat} {x:V} {rest:List At} (hs:Sat Z (.box n [x]::rest)) {Q:AE->Prop} (hq: ∀Z',Sat Z' (.box n [x]::rest)->Q Z'):HA zP 396 [.p n 0] none Z Q:=by
 refine aW kZ ?_
 conv=>whnf
 repeat'((first|apply st|(apply sq;intro K U)|(apply si;intro A B hA hB)|(refine hA _ _ ?_;clear hB B hA A)|(apply U;clear U K)|refine⟨rfl,?_⟩|refine Gk fun Z hs=>?_|(intro nn hnn;generalize hg:BV _ nn _=Z;refine G5 hg fun hs=>?_;clear hg)|fail)<;>conv=>whnf)
 exact hq _ (hs.less (LW _ _))
attribute [local irreducible] HA
def Wn (w:AH) (hw:D2 w) (ls:List Fact) (b:Bool) (hl: ∀x∈ls,I8 w x) (hlen:ls.length<900):Pure zP 388 [.rp (wC w (Es w.parents)),.l (FG ls) b] (.b (G7 w ls)):=by
 refine Pure.of ?_;refine tQ kZ ?_;have hs:=Sn
 conv=>whnf
 repeat'((first|(apply sq;intro K U)|(apply si;intro A B hA hB)|(refine hA _ _ ?_;clear hB B hA A)|(apply U;clear U K)|(intro nn hnn;generalize hg:BV _ nn _=Z;refine G5 hg fun hs=>?_;clear hg)|fail)<;>conv=>whnf)
 refine(ik w (Es w.parents) ls b (a8 (by have:=hw.1.1;omega) hl) hlen).use (rest:=[.box nn [.b false]]) (by simpa using hs) ?_;clear hs;rintro r post Z ⟨L,es,rfl,hinv,rfl⟩ hs;have hwh:=iX w hw (mU hw hl hlen) hinv (L:=L);rw[qv hw hl]at hwh;cases ht:G7 w ls<;>rw[ht]at hwh
 all_goals
  conv=>whnf
  refine hwh.use (rest:=[.box nn [.b false]]) hs ?_;clear hs;rintro r post Z ⟨rfl,rfl⟩ hs
  conv=>whnf
  repeat'((first|apply st|(apply sq;intro K U)|(apply si;intro A B hA hB)|(refine hA _ _ ?_;clear hB B hA A)|(refine hB _ _ _ ?_;clear hB B hA A)|(apply U;clear U K)|refine zG fun Z hs=>?_|clear U K)<;>conv=>whnf)
 .refine oL (rest:=[]) hs fun Z hs=>?_
  conv=>whnf
  repeat'((first|refine ld ?_|fail)<;>conv=>whnf)
  exact AU (by rw[ht];rfl)
 .refine oM (rest:=[]) (x:= .b true) hs fun Z hs=>?_
  conv=>whnf
  repeat'((first|refine ld ?_|fail)<;>conv=>whnf)
  exact AU (by rw[ht];rfl)
end Go.Gl
namespace Go.Gl
open Go.Proofs
attribute [local irreducible] A6 Ar Ah AR AI Ae AQ AT AK Ad AN AO Ay A7 Sat AY A5 Ai W
def Us {α S:Type} (stp:α->S->Bool×S) (D:α->S->Prop):List α->S->Prop
 | [],_=>True
 | y::r,s=>D y s/\((stp y s).1=true->Us stp D r (stp y s).2)
section
variable {α β S:Type} {stp:α->S->Bool×S} {D:α->S->Prop}
def QH: ∀(A B:List α) (s:S),Ch stp (A++B) s=if(Ch stp A s).1 then Ch stp B (Ch stp A s).2 else(false,(Ch stp A s).2)
 | [],B,s=>by simp[Ch]
 | y::r,B,s=>by
   rw[List.cons_append,Ch,Ch];cases(stp y s).1
   .rfl
   .simpa using QH r B (stp y s).2
def Wd (l:α) (s:S):Ch stp [l] s=stp l s:=by
 rw[Ch,Ch];rcases stp l s with⟨b,s'⟩;cases b<;>rfl
def UA: ∀ {A B:List α} {s:S},Us stp D (A++B) s->Us stp D A s/\((Ch stp A s).1=true->Us stp D B (Ch stp A s).2)
 | [],B,s,h=>⟨trivial,fun _=>h⟩
 | y ::r,B,s,h=>by
   obtain⟨h1,h2⟩:=h;rw[Us,Ch];cases hy:(stp y s).1
   .exact⟨⟨h1,fun h=>(by cases h)⟩,fun h=>(by simp at h)⟩
   .obtain⟨h3,h4⟩:=UA (h2 hy)
    exact⟨⟨h1,fun _=>h3⟩,by simpa using h4⟩
def Ow {A:List α}: ∀ {B:List α} {s:S},(∀y∈B,y∈A)->Us stp D B s->Us stp (fun y s=>y∈A/\D y s) B s
 | [],_,_,_=>trivial
 | y::r,_,hm,h=>⟨⟨hm y (.head _),h.1⟩,fun hy=>Ow (fun z hz=>hm z (.tail _ hz)) (h.2 hy)⟩
def Zu {g:β->α}: ∀ {B:List β} {s:S},Us stp D (B.map g) s->Us (fun b s=>stp (g b) s) (fun b s=>D (g b) s) B s
 | [],_,_=>trivial
 | y::r,_,h=>⟨h.1,fun hy=>Zu (h.2 hy)⟩
end
section
variable {S:Type} {stp:List Fact->S->Bool×S} {D:List Fact->S->Prop}
def TC (B:List (List Fact)): ∀(A:List (List Fact)) (s:S),Ch stp (Df A B) s=Ch (fun x s=>Ch (fun y s=>stp (CM x y) s) B s) A s
 | [],s=>rfl
 | x::r,s=>by
   have ih:=TC B r;rw[Df,List.flatMap_cons,QH,Ma,Ch];simp only[Df]at ih;rw[ih]
def V2 (B:List (List Fact)): ∀ {A:List (List Fact)} {s:S},Us stp D (Df A B) s->Us (fun x s=>Ch (fun y s=>stp (CM x y) s) B s) (fun x s=>Us (fun y s=>stp (CM x y) s) (fun y s=>D (CM x y) s) B s) A s
 | [],_,_=>trivial
 | x::r,s,h=>by
   rw[Df,List.flatMap_cons]at h;obtain⟨h1,h2⟩:=UA h;refine⟨Zu h1,fun hy=>?_⟩;rw[Ma]at h2;exact V2 B (h2 hy)
end
abbrev Xc (l:List Fact) (b:Bool):V:= .l (FG l) b
def R1 {S:Type} (x:V) (H:S->List At) (stp:List Fact->S->Bool×S) (D:List Fact->S->Prop):Prop:= ∀b,C3 zP x (fun l=>Xc l b) H stp D
abbrev VG (n:Nat):V:= .f (.func 392) [] [.p n 0]
def cn {f:Fact} (hl:B8 f=true) (c:Bool):Ko (if c then Fi f else f)=xF f++[.b c]:=by
 have:=F5 hl;cases c with
 | true=>rfl
 | false=>
   have h5: ¬f.op=5:=by omega
   simp only[Ko,KQ,if_false,Av,if_neg h5]
def WalkC (f:Fact):Prop:= ∀(c:Bool) (S:Type) (fn:Fn) (fi ca:List V) (H:S->List At) (stp:List Fact->S->Bool×S) (D:List Fact->S->Prop) (nW:Nat) (s:S),
 R1 (.f fn fi ca) (fun s=> .box nW [VG nW]::H s) stp D->Us stp D (BG f c) s-> ∀Z,Sat Z (.box nW [VG nW]::H s)->
  Ay zP (VG nW) [.a (xF f),.b c,.f fn fi ca] Z fun r Z'=>r= .ret (.b (Ch stp (BG f c) s).1)/\Sat Z' (.box nW [VG nW]::H (Ch stp (BG f c) s).2)
def kQ {w:AH} {S:Type} {fn:Fn} {fi ca:List V} {H:S->List At} {stp:List Fact->S->Bool×S} {D:List Fact->S->Prop} (hT:R1 (.f fn fi ca) H stp D) {k0 k1:Fact} {c:Bool} (hn0:Bk w k0=true) (hn1:Bk w k1=true) (hv0:lv k0<=100) (hv1:lv k1<=100) {a:List Fact} (ha:a∈BG k0 c) (fa:Bool) :
    R1 (.f (.func 394) [] [.rp [.f fn fi ca],.rp [Xc a fa]]) H (fun y s=>stp (CM a y) s) (fun y s=>y∈BG k1 c/\D (CM a y) s):=by
 rintro b y s ⟨hy,hd⟩ Z hs;refine Bh ?_;show A6 zP 394 ([]++[Xc y b]++[.rp [.f fn fi ca],.rp [Xc a fa]]) Z _;have hla:=(EY k0 (Cu _ hn0) c).2 a ha;have hly:=(EY k1 (Cu _ hn1) c).2 y hy;have hM:=Mx;refine tK kZ ?_
 conv=>whnf
 repeat'((first|clear U K|apply st|(apply zk;intro K U)|refine rk ?_ ?_|exact fun s e=>by cases e;rfl|refine Pure.use (c8 (w:=w) a y fa b (Ei k0 hn0 c a ha) (Ei k1 hn1 c y hy) (by omega)) ?_|fail)<;>conv=>whnf)
 refine(hT false).use hd hs ?_;clear hs;intro Z hs;refine zz ?_;(repeat clear U K);repeat intro K U
 exact AU ⟨rfl,hs⟩
def kR {w:AH} {S:Type} {fn:Fn} {fi ca:List V} {H:S->List At} {stp:List Fact->S->Bool×S} {D:List Fact->S->Prop} {nW:Nat} (hT:R1 (.f fn fi ca) (fun s=> .box nW [VG nW]::H s) stp D) {f k0 k1:Fact} (hk:f.kids= [k0,k1]) {c:Bool} (hn0:Bk w k0=true) (hn1:Bk w k1=true) (hv0:lv k0<=100) (hv1:lv k1<=100) (hw1:WalkC k1) :
    R1 (.f (.func 393) [] [.p nW 0,.rp (xF f),.rp [.b c],.rp [.f fn fi ca]]) (fun s=> .box nW [VG nW]::H s) (fun a s=>Ch (fun y s=>stp (CM a y) s) (BG k1 c) s) (fun a s=>a∈BG k0 c/\Us (fun y s=>stp (CM a y) s) (fun y s=>D (CM a y) s) (BG k1 c) s):=by
 rintro fa a s ⟨ha,hd⟩ Z hs;refine Bh ?_;show A6 zP 393 ([]++[Xc a fa]++[.p nW 0,.rp (xF f),.rp [.b c],.rp [.f fn fi ca]]) Z _;have h1:f.kids[(1:Int).toNat]? =some k1:=by rw[hk];rfl
 refine tL kZ ?_;refine zz ?_;(repeat clear U K);repeat intro K U
 refine(hw1 c S _ _ _ H _ _ nW s (kQ hT hn0 hn1 hv0 hv1 ha fa) (Ow (fun y hy=>hy) hd) Z hs).mono ?_;clear hs;rintro r Z ⟨rfl,hs⟩;refine zz ?_;(repeat clear U K);repeat intro K U
 exact AU ⟨rfl,hs⟩
def lu {w : AH} (f:Fact):Bk w f=true->lv f<=100->WalkC f:=by
 induction f using Fact.ind with
 | h f ih=>
   intro hn hv c S fn fi ca H stp D nW s hT hd Z hs;have har:=Cu _ hn
   have hnk: ∀k∈f.kids,Bk w k=true:=by
    rw[Cs,BD,Er]at hn;exact hn.2
   have hop:f.op=1\/f.op=5\/B8 f=true\/f.op=6\/f.op=7:=by
    rw[Cs,BD]at hn;have h1:=hn.1;simp only[DB,XV,BD]at h1;rw[Pv];simp only[BD,CD];have h2:=h1.1;split at h2
    .omega
    .split at h2
     .omega
     .simp only[F1,EZ]at h2
      omega
   refine Bh ?_;show A6 zP 392 ([]++[.a (xF f),.b c,.f fn fi ca]++[.p nW 0]) Z _;refine tM kZ ?_;rw[GG,FR]at hd;have hcs:=GG f c;rw[FR]at hcs;rcases hop with h1|h5|hl|h67
   .rw[if_pos h1]at hd hcs
    rw[hcs];cases c
    .rw[if_neg (by decide)]at hd ⊢
     rw[Wd]
     conv=>whnf
     repeat'((first|clear U K|apply st|(apply zk;intro K U)|refine zY ?_|(refine zb (fun hc=>?_) (fun hc=>?_)<;>try exact⟨⟩)|fail)<;>conv=>whnf)
     refine(hT true).use (y:=[]) hd.1 hs ?_;clear hs;intro Z hs;refine zz ?_;(repeat clear U K);repeat intro K U
     exact AU ⟨rfl,hs⟩
    .rw[if_pos rfl]at hd ⊢
     conv=>whnf
     repeat'((first|clear U K|apply st|(apply zk;intro K U)|refine zY ?_|(refine zb (fun hc=>?_) (fun hc=>?_)<;>try exact⟨⟩)|fail)<;>conv=>whnf)
     exact AU ⟨rfl,hs⟩
   .obtain⟨k,hk,-⟩:=IL har h5
    have hkm:k∈f.kids:=by rw[hk];exact .head _
    have hvk:lv k<=100:=by
     rw[N7,eO,if_pos h5,hk]at hv;exact hv
    rw[if_neg (by omega),if_pos h5,hk]at hd hcs;have hcs2:BG f c=BG k (!c):=hcs;have h0:f.kids[(0:Int).toNat]? =some k:=by rw[hk];rfl
    rw[hcs2]
    conv=>whnf
    repeat'((first|clear U K|apply st|(apply zk;intro K U)|refine zY ?_|(refine zb (fun hc=>?_) (fun hc=>?_)<;>try exact⟨⟩)|fail)<;>conv=>whnf)
    refine(ih k hkm (hnk k hkm) hvk (!c) S _ _ _ H stp D nW s hT hd Z hs).mono ?_;clear hs;rintro r Z ⟨rfl,hs⟩;refine zz ?_;(repeat clear U K);repeat intro K U
    exact AU ⟨rfl,hs⟩
   .have hlo:=F5 hl
    have hlB:=UH f;rw[hl]at hlB;rw[if_neg (by omega),if_neg (by omega),if_neg (by omega)]at hd hcs;have hcs2:BG f c= [[if c then Fi f else f]]:=by rw[hcs];cases c<;>rfl
    rw[<-hcs,hcs2]at hd;rw[hcs2,Wd]
    have e:Xc [if c then Fi f else f] true= .l [xF f++[.b c]] true:=by
     show V.l [Ko (if c then Fi f else f)] true=_;rw[cn hl]
    have hst:=(hT true) [if c then Fi f else f] s hd.1;simp only[e]at hst
    conv=>whnf
    repeat'((first|clear U K|apply st|(apply zk;intro K U)|refine zY ?_|refine hlB.use ?_|(refine zb (fun hc=>?_) (fun hc=>?_)<;>try exact⟨⟩)|fail)<;>conv=>whnf)
    refine(hst Z hs).mono ?_;clear hs;rintro r Z ⟨rfl,hs⟩;refine zz ?_;(repeat clear U K);repeat intro K U
    exact AU ⟨rfl,hs⟩
   .obtain⟨k0,k1,hk,-,-⟩:=IK har h67
    have hkm0:k0∈f.kids:=by rw[hk];exact .head _
    have hkm1:k1∈f.kids:=by rw[hk];exact .tail _ (.head _)
    have hlf:B8 f=false:=by rw[Pv,decide_eq_false (show¬f.op<=4 by omega),Bool.and_false]
    have hlB:=UH f;rw[hlf]at hlB
    have hvk:lv k0+lv k1<=100:=by
     rw[N7,eO,if_neg (by omega),if_pos h67,hk]at hv;exact hv
    rw[if_neg (by omega),if_neg (by omega),if_pos h67,hk]at hd hcs;have h0:f.kids[(0:Int).toNat]? =some k0:=by rw[hk];rfl
    have h1:f.kids[(1:Int).toNat]? =some k1:=by rw[hk];rfl
    have i0:=ih k0 hkm0 (hnk k0 hkm0) (by omega);have i1:=ih k1 hkm1 (hnk k1 hkm1) (by omega);by_cases hap:(c != (f.op==7))=true
    .rw [if_pos hap]at hd hcs
     have hcs2:BG f c=BG k0 c++BG k1 c:=hcs;have hd2:Us stp D (BG k0 c++BG k1 c) s:=hd;obtain⟨hd3,hd4⟩:=UA hd2;rw[hcs2,QH];clear hcs hcs2 hd hd2;rcases h67 with h6|h7
     .have h6b:(f.op==6)=true:=by rw[h6];rfl
      have hct:c=true:=by rw[h6]at hap;cases c<;>simp_all
      subst hct
      conv=>whnf
      repeat'((first|clear U K|apply st|(apply zk;intro K U)|refine zY ?_|refine hlB.use ?_|(rw[h6b])|(refine zb (fun hc=>?_) (fun hc=>?_)<;>try exact⟨⟩)|fail)<;>conv=>whnf)
      refine(i0 true S _ _ _ H stp D nW s hT hd3 Z hs).mono ?_;clear hs;rintro r Z ⟨rfl,hs⟩;generalize Ch stp (BG k0 true) s=x at *;obtain⟨b1,s1⟩:=x;cases b1
      .refine zz ?_;(repeat clear U K);repeat intro K U
       exact AU ⟨rfl,hs⟩
      .refine zz ?_;(repeat clear U K);repeat intro K U
       refine(i1 true S _ _ _ H stp D nW s1 hT (hd4 rfl) Z hs).mono ?_;clear hs;rintro r Z ⟨rfl,hs⟩;refine zz ?_;(repeat clear U K);repeat intro K U
       exact AU ⟨rfl,hs⟩
     .have h6b:(f.op==6)=false:=by rw[h7];rfl
      have hct:c=false:=by rw[h7]at hap;cases c<;>simp_all
      subst hct
      conv=>whnf
      repeat'((first|clear U K|apply st|(apply zk;intro K U)|refine zY ?_|refine hlB.use ?_|(rw[h6b])|(refine zb (fun hc=>?_) (fun hc=>?_)<;>try exact⟨⟩)|fail)<;>conv=>whnf)
      refine(i0 false S _ _ _ H stp D nW s hT hd3 Z hs).mono ?_;clear hs;rintro r Z ⟨rfl,hs⟩;generalize Ch stp (BG k0 false) s=x at *;obtain⟨b1,s1⟩:=x;cases b1
      .refine zz ?_;(repeat clear U K);repeat intro K U
       exact AU ⟨rfl,hs⟩
      .refine zz ?_;(repeat clear U K);repeat intro K U
       refine(i1 false S _ _ _ H stp D nW s1 hT (hd4 rfl) Z hs).mono ?_;clear hs;rintro r Z ⟨rfl,hs⟩;refine zz ?_;(repeat clear U K);repeat intro K U
       exact AU ⟨rfl,hs⟩
    .rw[if_neg hap]at hd hcs
     have hcs2:BG f c=Df (BG k0 c) (BG k1 c):=hcs;have hd2:Us stp D (Df (BG k0 c) (BG k1 c)) s:=hd;have hd3:=V2 _ hd2;have hT2:=kR hT hk (c:=c) (hnk k0 hkm0) (hnk k1 hkm1) (by omega) (by omega) i1;rw[hcs2,TC];clear hcs hcs2 hd hd2;rcases h67 with h6|h7
     .have h6b:(f.op==6)=true:=by rw[h6];rfl
      have hct:c=false:=by rw[h6]at hap;cases c<;>simp_all
      subst hct
      conv=>whnf
      repeat'((first|clear U K|apply st|(apply zk;intro K U)|refine zY ?_|refine hlB.use ?_|(rw[h6b])|(refine zb (fun hc=>?_) (fun hc=>?_)<;>try exact⟨⟩)|fail)<;>conv=>whnf)
      refine(i0 false S _ _ _ H _ _ nW s hT2 (Ow (fun y hy=>hy) hd3) Z hs).mono ?_;clear hs;rintro r Z ⟨rfl,hs⟩;refine zz ?_;(repeat clear U K);repeat intro K U
      exact AU ⟨rfl,hs⟩
     .have h6b:(f.op==6)=false:=by rw[h7];rfl
      have hct:c=true:=by rw[h7]at hap;cases c<;>simp_all
      subst hct
      conv=>whnf
      repeat'((first|clear U K|apply st|(apply zk;intro K U)|refine zY ?_|refine hlB.use ?_|(rw[h6b])|(refine zb (fun hc=>?_) (fun hc=>?_)<;>try exact⟨⟩)|fail)<;>conv=>whnf)
      refine(i0 true S _ _ _ H _ _ nW s hT2 (Ow (fun y hy=>hy) hd3) Z hs).mono ?_;clear hs;rintro r Z ⟨rfl,hs⟩;refine zz ?_;(repeat clear U K);repeat intro K U
      exact AU ⟨rfl,hs⟩
end Go.Gl
