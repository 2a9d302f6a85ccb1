import Derived.Test.YtijbpgdmpejgoaaGreatQ16
set_option linter.all false
set_option linter.unusedVariables false
set_option linter.unusedSimpArgs false
namespace Go.Gl
open Go.Proofs
attribute [local irreducible] BQ BJ A5 Ab AQ A4 Ac Af AR Az AW Aa BT Bf Sat An BZ A6 W
theorem Qa {σ:AG} {X:List At} {L:Nat} {pre post:List Cr} {e:Cr} {s:List Cr} (h:Sat σ (X++B3 L (pre++e::(post++s)))):Sat σ (.own e.vs 1 (iL e.k.AL)::(X++Hx L pre post e s)):=by
 have h2:=GW h;refine h2.perm ((Iq _ _ _ _).symm.trans (.cons _ ?_));exact(List.perm_middle.trans (.cons _ List.perm_middle)).symm
theorem jz {σ:AG} {X:List At} {L:Nat} {pre post:List Cr} {e:Cr} {s:List Cr} (h:Sat σ (.own e.vs 1 (iL e.k.AL)::(X++Hx L pre post e s))):Sat σ (X++B3 L (pre++e::(post++s))):=by
 refine Dw (X:=X) (e:=e) (e':=e) rfl rfl rfl ?_;refine h.perm ?_;refine List.Perm.trans (.cons _ (List.perm_middle.trans (.cons _ List.perm_middle))) ?_;exact Iq _ _ _ _
theorem fH (s:Nat) (c:Int) (hs0:s<18446744073709551616) (h0:0≤c) (hc:c<64):Pure Tryz.prog 152 [eU s,eI c] (.b (s.testBit c.toNat)):=by
 have:=Qg s c.toNat hs0 (by omega);rw[Int.toNat_of_nonneg h0]at this;exact this
theorem cj {m:Nat} (hm:m<18446744073709551616):M7 m 1=GQ m:=by
 refine Nat.eq_of_testBit_eq fun i=>?_
 rw[TR];rcases Nat.lt_or_ge i 64 with hlt|hge
 ·rw[Nx hlt,show(1:Nat)=2 ^ 0 from rfl,Nat.testBit_two_pow]
  congr 2;rw[Bool.eq_iff_iff,DU,Dp];omega
 ·have h64:18446744073709551616≤2 ^ i:=by simpa using Nat.pow_le_pow_right (n:=2) (by decide) hge
  rw[Nat.testBit_lt_two_pow (Nat.lt_of_lt_of_le (RW _ _) h64),Nat.testBit_lt_two_pow (Nat.lt_of_lt_of_le hm h64)];rfl
set_option maxHeartbeats 4000000 in
theorem Pb (w:AM) (hw:Er w) {kf:Int→List Int→Kn} (hr:Hr w kf) {a:Int} {p:List Int} (hp:p.length≤2) (can:Int→Bool)
 (hcan: ∀s∈(kf a p).AL,∀L es,Df kf es→Bx Tryz.prog 260 [Rw w (EF w.parents) L,D3 a (p++[s])] (B3 L es) fun r post=>r= .ret (.b (can s))∧NJ kf L es post) {L:Nat} {es:List Cr} (h:Df kf es) :
 Bx Tryz.prog 280 [Rw w (EF w.parents) L,D3 a p] (B3 L es) fun r post=>r= .ret (.t [eU (MO w (kf a p) (fun s=>(kf a (p++[s])).Au) can).1,.b (MO w (kf a p) (fun s=>(kf a (p++[s])).Au) can).2])∧NJ kf L es post:=by
 intro σ hs;have hM:=Mx;generalize hus:EF w.parents=us at *;refine uA nb ?_
 conv=>whnf
 repeat'((first|refine st ?_|(refine sq ?_;intro K U)|(refine si ?_;intro A B Y Z)|(refine Y _ _ ?_;clear Z B Y A)|(refine U _ _ ?_;clear U K)|refine⟨nb,?_⟩|fail)<;>conv=>whnf)
 refine(Jt w us h (a:=a) (p:=p) hp).use (rest:=[]) (by simpa using hs) ?_;clear hs;rintro r post σ ⟨es4,e4,got,rfl,rfl⟩ hs;have hek:=got.k;obtain⟨pre,post,rfl⟩:=List.append_of_mem got.mem;rw[List.append_nil]at hs;have hsc:=hs;replace hs:=GW (X:=[]) hs;have hok:=hr.ok a p;have hsl:=(hr.ok a p).2.2.2;have hsh:=hr.short a p;have hsw:=hr.AL a p;rw[←hek]at hok hsl hsh hsw hcan;have hO:MO w (kf a p) (fun s=>(kf a (p++[s])).Au) can=MO w e4.k (fun s=>(kf a (p++[s])).Au) can:=by rw[hek]
 have hOn:(e4.k.whole=true∨e4.k.CK.testBit 1=true∨e4.k.CK.testBit 2=true∨e4.k.Ft.testBit 0=true)→MO w (kf a p) (fun s=>(kf a (p++[s])).Au) can=(0,false):=fun h=>by
  rw[hO,MO,if_pos];rcases h with h|h|h|h<;>rw[h]<;>simp
 have hOy:e4.k.whole=false→e4.k.CK.testBit 1=false→e4.k.CK.testBit 2=false→e4.k.Ft.testBit 0=false→MO w (kf a p) (fun s=>(kf a (p++[s])).Au) can=match HU w (fun s=>(kf a (p++[s])).Au) can e4.k.AL (e4.k.CK,e4.k.Ft)with
  | none=>(0,false)
  | some u=>(GQ (DQ (EF w.parents) w.parents.length u.1),GQ (DQ (EF w.parents) w.parents.length u.1)&&&u.2==0):=fun h1 h2 h3 h4=>by
  rw[hO,MO,h1,h2,h3,h4];rfl
 clear hO;cases hb0:e4.k.whole<;>rw[hb0]at hs
 rotate_left
 ·conv=>whnf
  repeat'((first|refine st ?_|(refine sq ?_;intro K U)|(refine si ?_;intro A B Y Z)|(refine Y _ _ ?_;clear Z B Y A)|(refine U _ _ ?_;clear U K)|refine dr ?_|refine ld ?_|clear U K)<;>conv=>whnf)
  exact AO ⟨_,⟨by rw[hOn (.inl hb0)];rfl,_,got.ext,got.inv,rfl⟩,hsc⟩
 ·conv => whnf
  repeat'((first|refine st ?_|(refine sq ?_;intro K U)|(refine si ?_;intro A B Y Z)|(refine Y _ _ ?_;clear Z B Y A)|(refine U _ _ ?_;clear U K)|refine dr ?_|refine lo ?_|refine ld ?_|refine Pure.use (Qg e4.k.CK 1 hok.1 (by decide)) ?_|refine Pure.use (Qg e4.k.CK 2 hok.1 (by decide)) ?_|refine Pure.use (Qg e4.k.Ft 0 hok.2.1 (by decide)) ?_|(constructor<;>intro hc<;>(try rw[hc])<;>(replace hc:=bp hc))|clear U K)<;>conv=>whnf)
  all_goals first
   | exact AO ⟨_,⟨by rw[hOn (by first|exact .inl (by assumption)|exact .inr (.inl (by assumption))|exact .inr (.inr (.inl (by assumption)))|exact .inr (.inr (.inr (by assumption))))];rfl,_,got.ext,got.inv,rfl⟩,hsc⟩
   | skip
  replace hOy:=hOy hb0 (by assumption) (by assumption) (by assumption);clear hOn;generalize hnf:(fun s=>(kf a (p++[s])).Au)=Au at *
  have hs1:Sat σ (.own e4.vs 1 (iL e4.k.AL)::Hx L pre post e4 []):=by
   have h2:=Qa (X:=[]) (L:=L) (pre:=pre) (post:=post) (e:=e4) (s:=[]) (by simpa using hsc);simpa using h2
  refine FR e4.k.AL.length (fun k (x:(Nat×Nat)×List Cr)=>[(47,eI (Bo k)),(7,eU x.1.1),(8,eU x.1.2)]) (fun k x=> .own e4.vs 1 (iL e4.k.AL)::Hx L pre post e4 x.2) (fun k x=>(x.1.1<18446744073709551616∧x.1.2<18446744073709551616)∧(Df kf (pre++e4::(post++x.2))∧ ∀y∈x.2,y.k=k0)∧HU w Au can e4.k.AL (e4.k.CK,e4.k.Ft)=HU w Au can (e4.k.AL.drop k) x.1) ((e4.k.CK,e4.k.Ft),[]) rfl ⟨⟨hok.1,hok.2.1⟩,⟨by simpa using got.inv,by simp⟩,rfl⟩ hs1 ?_;clear hs hs1 hsc;rintro k ⟨⟨m,no⟩,new⟩ σ hk ⟨⟨hm,hno⟩,⟨hinv,hnew⟩,hF⟩ hs;simp only at hm hno hinv hnew hF hs;have hck:Bo k=k:=Ad (by have:=hok.2.2.2;omega);rcases Bq e4.k.AL hk with⟨s,hsk,hlt⟩|hke
  ·have hsm:=Fo hsk
   have hp2:p.length<2:=by
    rcases Nat.lt_or_ge p.length 2 with h'|h'
    ·exact h'
    ·rw[hsh h']at hsm;cases hsm
   obtain⟨hs0,hs1⟩:=hsw s hsm;rw[drop_cons hsk,HU]at hF
   conv=>whnf
   repeat'((first|refine st ?_|(refine sq ?_;intro K U)|(refine si ?_;intro A B Y Z)|(refine Y _ _ ?_;clear Z B Y A)|(refine U _ _ ?_;clear U K)|refine dr ?_|refine⟨rfl,?_⟩|refine⟨nb,?_⟩|refine ld ?_|refine GM fun σ hs=>?_|refine oi ?_|refine ol fun x hx=>?_|(refine FB (fun hc=>?_)<;>(try rw[hc])<;>clear hc)|refine Pure.use (Mk a p _ hp2) ?_|(intro nn hnn;generalize hg:BI _ nn _=σ;refine D8 hg fun hs=>?_;clear hg)|fail)<;>conv=>whnf)
   obtain rfl:x=s:=by rw[hck,Int.toNat_natCast,hsk]at hx;exact(Option.some.inj hx).symm
   generalize nn=n7 at *;have hs2:Sat σ ([.box n7 (Jj a (p++[x]))]++B3 L (pre++e4::(post++new))):=jz (X:=[.box n7 (Jj a (p++[x]))]) (hs.perm (.swap _ _ _));clear hs;obtain⟨o,ho⟩: ∃o,w.owner[x.toNat]? =some o:=⟨_,Fs (by omega)⟩
   have hoI:C0 w x=o:=by simp only[C0,FA,ho];rfl
   obtain⟨ho1,ho2⟩:=hw.2.2 o (Fo ho);have hwp:=hw.1.1;have hcx:=hcan x hsm L;cases hnx:Au x<;>cases hcy:can x
   all_goals
    rw[hcy]at hcx;rw[WA,hnx,hcy,hoI]at hF;refine(Jt w us hinv (a:=a) (p:=p++[x]) (by simp;omega)).use (rest:=[.box n7 (Jj a (p++[x]))]) (hs2.perm List.perm_append_comm) ?_;clear hs2;rintro r post' σ ⟨es5,e5,got5,rfl,rfl⟩ hs;have hek5:e5.k.Au=Au x:=by rw[got5.k,←hnf]
    rw[hnx]at hek5;obtain⟨newA,heA,hnA⟩:=got5.ext;obtain⟨pre5,post5,he5⟩:=List.append_of_mem got5.mem;rw[he5]at hs;replace hs:=GW (X:=[.box n7 (Jj a (p++[x]))]) (hs.perm List.perm_append_comm);rw[hek5]at hs
    conv=>whnf
    repeat'((first|refine dr ?_|refine rk ?_ ?_|exact fun s e=>by cases e;rfl|refine⟨nb,?_⟩|refine ld ?_|fail)<;>conv=>whnf)
    have hs2:Sat σ ([.box n7 (Jj a (p++[x]))]++B3 L (pre5++e5::post5)):=Dw (X:=[.box n7 (Jj a (p++[x]))]) (e:=e5) (e':=e5) rfl rfl rfl (by rw[←hek5]at hs;exact hs);clear hs;refine(hcx es5 got5.inv).use (rest:=[.box n7 (Jj a (p++[x]))]) (by rw[he5];exact hs2.perm List.perm_append_comm) ?_;clear hs2;rintro r post' σ ⟨rfl,es6,⟨new6,he6,hn6⟩,hi6,rfl⟩ hs;have he7:es6=pre5++e5::(post5++new6):=by rw[he6,he5];simp
    rw[he7]at hs;replace hs:=GW (X:=[.box n7 (Jj a (p++[x]))]) (hs.perm List.perm_append_comm);rw[hek5]at hs
    conv=>whnf
    repeat'((first|refine st ?_|(refine sq ?_;intro K U)|(refine si ?_;intro A B Y Z)|(refine Y _ _ ?_;clear Z B Y A)|(refine U _ _ ?_;clear U K)|refine dr ?_|refine rk ?_ ?_|exact fun s e=>by cases e;rfl|refine⟨rfl,?_⟩|refine Y7 ?_|refine ld ?_|refine MM ?_|refine G5 ?_|refine Pure.use (Ge m o hm (by omega) (by omega)) ?_|refine Pure.use (Ge no o hno (by omega) (by omega)) ?_|clear U K)<;>conv=>whnf)
    simp only[Bool.not_false,Bool.not_true,Bool.and_true,Bool.and_false,Ls,if_false,if_true,Option.bind_some,Option.bind_none]at hF;have e7:es6=pre++e4::(post++(new++newA++new6)):=by rw[he6,heA];simp
    have hs2:Sat σ ([.box n7 (Jj a (p++[x]))]++B3 L (pre5++e5::(post5++new6))):=Dw (X:=[.box n7 (Jj a (p++[x]))]) (e:=e5) (e':=e5) rfl rfl rfl (by rw[←hek5]at hs;exact hs)
    have hs3:Sat σ (B3 L (pre++e4::(post++(new++newA++new6)))):=by
     rw[←he7,e7]at hs2;exact hs2.less (List.sublist_append_right _ _)
    have hi7:Df kf (pre++e4::(post++(new++newA++new6))):=by rw[←e7];exact hi6
    have hn7: ∀y∈new++newA++new6,y.k=k0:=fun y hy=>by
     rcases FQ.1 hy with hy|hy
     ·rcases FQ.1 hy with hy|hy
      ·exact hnew y hy
      ·exact hnA y hy
     ·exact hn6 y hy
    have hob:2 ^ o.toNat<18446744073709551616:=JD (by omega)
   ·exact⟨hlt,((m,no|||2 ^ o.toNat),new++newA++new6),rfl,⟨⟨hm,Jp hno hob⟩,⟨hi7,hn7⟩,hF⟩,Qa (X:=[]) hs3⟩
   ·exact⟨hlt,((m,no),new++newA++new6),rfl,⟨⟨hm,hno⟩,⟨hi7,hn7⟩,hF⟩,Qa (X:=[]) hs3⟩
   ·rw[hF]at hOy
    exact AO ⟨_,⟨by rw[hOy];rfl,_,got.ext.trans ⟨_,by simp,hn7⟩,hi7,rfl⟩,hs3⟩
   ·exact⟨hlt,((m|||2 ^ o.toNat,no),new++newA++new6),rfl,⟨⟨Jp hm hob,hno⟩,⟨hi7,hn7⟩,hF⟩,Qa (X:=[]) hs3⟩
  ·rw [Bt hke,HU]at hF
   rw[hF]at hOy;simp only at hOy
   conv=>whnf
   repeat'((first|refine st ?_|(refine sq ?_;intro K U)|(refine si ?_;intro A B Y Z)|(refine Y _ _ ?_;clear Z B Y A)|(refine U _ _ ?_;clear U K)|refine⟨rfl,?_⟩|(refine F5 (fun hc=>?_)<;>(try rw[hc])<;>clear hc)|clear U K)<;>conv=>whnf)
   have hu:wT us:=by rw[←hus];exact KE _ _ (by have:=hw.1.1;omega)
   have hul:us.length=3+w.parents.length:=by rw[←hus];exact FT _ _
   have hwp:=hw.1.1;have hwl:IntKind.i64.wrap (3+((Ji w.parents).length:Nat))=3+(w.parents.length:Int):=by rw[Ce,wrap64 (by omega) (by omega)]
   refine FR w.parents.length (fun k (x:Nat)=>[(14,eI (Oo 3 k)),(7,eU x)]) (fun _ _=> .own e4.vs 1 (iL e4.k.AL)::Hx L pre post e4 new) (fun k x=>x<18446744073709551616∧x=DQ us k m) m rfl ⟨hm,rfl⟩ hs ?_;clear hs;clear hke hck hk k;rintro k x σ hk ⟨hx64,hxe⟩ hs;have hc3:Oo 3 k=3+k:=RT (by omega) (by omega);by_cases hlt:k<w.parents.length
   ·have hbt:DQ us (k+1) m=if x.testBit (Oo 3 k).toNat then x|||us.getD (3+k) 0 else x:=by
     rw[DQ,←hxe,hc3,show(3+(k:Int)).toNat=3+k by omega]
    have hup:(List.drop ((Oo 3 k).toNat*1) (List.drop 2 (wC w us)))[0]? =some (eU (us.getD (3+k) 0)):=by
     rw[wF,wF,←kQ w us (i:=3+k) (by omega)];congr 1;omega
    conv=>whnf
    repeat'((first|refine st ?_|(refine sq ?_;intro K U)|(refine si ?_;intro A B Y Z)|(refine Y _ _ ?_;clear Z B Y A)|(refine U _ _ ?_;clear U K)|refine⟨rfl,?_⟩|refine wK ?_|(rw[hup])|refine Pure.use (fH x (Oo 3 k) hx64 (by omega) (by omega)) ?_|(constructor<;>intro hc<;>(try rw[hc])<;>(replace hc:=bp hc)<;>(try simp(disch:=omega) only[Ce,wrap64,Ad]at hc)<;>try(exfalso;omega))|clear U K)<;>conv=>whnf)
    ·refine⟨hlt,x|||us.getD (3+k) 0,?_,⟨Jp hx64 (Qb hu _),by rw[hbt,if_pos (by assumption)]⟩,hs⟩
     rw[KA hx64 (Qb hu _)];rfl
    ·exact⟨hlt,x,rfl,⟨hx64,by rw[hbt,if_neg (by rw[‹x.testBit _=false›];decide)]⟩,hs⟩
   ·have hke:k=w.parents.length:=by omega
    rw[hus,←hke,←hxe]at hOy
    have Y:bits .andNot .u64 (x:Int) 1=((GQ x:Nat):Int):=by
     have:=P4 (a:=x) (b:=1);rw[cj hx64]at this;exact this
    have hcl:GQ x<18446744073709551616:=by unfold GQ;omega
    have Z:bits .and .u64 ((GQ x:Nat):Int) (no:Int)=((GQ x&&&no:Nat):Int):=KZ hcl hno
    conv=>whnf
    repeat'((first|refine st ?_|(refine sq ?_;intro K U)|(refine si ?_;intro A B Y Z)|(refine Y _ _ ?_;clear Z B Y A)|(refine U _ _ ?_;clear U K)|refine⟨rfl,?_⟩|(constructor<;>intro hc<;>(try rw[hc])<;>(replace hc:=bp hc)<;>(try simp(disch:=omega) only[Ce,wrap64,Ad]at hc)<;>try(exfalso;omega))|clear U K)<;>conv=>whnf)
    rw[Y,Z];refine AO ⟨_,⟨?_,_,got.ext.trans ⟨new,by simp,hnew⟩,hinv,rfl⟩,rF hs⟩;rw[hOy]
    have hz:(((GQ x&&&no:Nat):Int)==0)=(GQ x&&&no==0):=by
     rw[Bool.eq_iff_iff,Dp,Dp];omega
    rw[←hz]
theorem vr (w:AM) (hw:Er w) {kf:Int→List Int→Kn} (hr:Hr w kf) (a:Int): ∀(d:Nat) (p:List Int),p.length+d=2→ ∀(L:Nat) (es:List Cr),Df kf es→
 Bx Tryz.prog 260 [Rw w (EF w.parents) L,D3 a p] (B3 L es) fun r post=>r= .ret (.b (MR w kf a d p))∧NJ kf L es post:=by
 intro d
 induction d with
 | zero=>
   intro p hp L es h σ hs;have hint:=OL w (EF w.parents) hr h (L:=L) (a:=a) (p:=p) (by omega);have hnone:=fun es h=>Wp w (EF w.parents) hr (es:=es) h (L:=L) (a:=a) (p:=p) (by omega)
   have hobj:=fun es h=>Pb w hw hr (a:=a) (p:=p) (by omega) (fun _=>false) (by rw[hr.short a p (by omega)];intro s hs;cases hs) (L:=L) (es:=es) h
   rw[MR];cases hI:QS kf a p<;>cases hN:Jq kf a p<;>rw[hI]at hint<;>rw[hN]at hnone
   all_goals
    refine aQ nb ?_
    conv=>whnf
    repeat'((first|refine st ?_|(refine sq ?_;intro K U)|(refine si ?_;intro A B Y Z)|(refine Y _ _ ?_;clear Z B Y A)|(refine U _ _ ?_;clear U K)|refine⟨nb,?_⟩|fail)<;>conv=>whnf)
    refine hint.use (rest:=[]) (by simpa using hs) ?_;clear hs;rintro r post σ ⟨rfl,es2,hx2,hi2,rfl⟩ hs;rw[List.append_nil]at hs
    conv=>whnf
    repeat'((first|refine st ?_|(refine sq ?_;intro K U)|(refine si ?_;intro A B Y Z)|(refine Y _ _ ?_;clear Z B Y A)|(refine U _ _ ?_;clear U K)|refine⟨nb,?_⟩|clear U K)<;>conv=>whnf)
   rotate_left 2
   ·exact AO ⟨_,⟨rfl,es2,hx2,hi2,rfl⟩,hs⟩
   ·exact AO ⟨_,⟨rfl,es2,hx2,hi2,rfl⟩,hs⟩
   all_goals
    refine(hnone es2 hi2).use (rest:=[]) (by simpa using hs) ?_;clear hs;rintro r post σ ⟨rfl,es3,hx3,hi3,rfl⟩ hs;rw[List.append_nil]at hs
    conv=>whnf
    repeat'((first|refine st ?_|(refine sq ?_;intro K U)|(refine si ?_;intro A B Y Z)|(refine Y _ _ ?_;clear Z B Y A)|(refine U _ _ ?_;clear U K)|refine⟨nb,?_⟩|refine MM ?_|refine G5 ?_|clear U K)<;>conv=>whnf)
   rotate_left 1
   ·exact AO ⟨_,⟨rfl,es3,hx2.trans hx3,hi3,rfl⟩,hs⟩
   ·refine(hobj es3 hi3).use (rest:=[]) (by simpa using hs) ?_
    clear hs;rintro r post σ ⟨rfl,es4,hx4,hi4,rfl⟩ hs;rw[List.append_nil]at hs
    conv=>whnf
    repeat'((first|refine st ?_|(refine sq ?_;intro K U)|(refine si ?_;intro A B Y Z)|(refine Y _ _ ?_;clear Z B Y A)|(refine U _ _ ?_;clear U K)|fail)<;>conv=>whnf)
    exact AO ⟨_,⟨rfl,es4,(hx2.trans hx3).trans hx4,hi4,rfl⟩,hs⟩
 | succ d ih=>
   intro p hp L es h σ hs;have hint:=OL w (EF w.parents) hr h (L:=L) (a:=a) (p:=p) (by omega);have hnone:=fun es h=>Wp w (EF w.parents) hr (es:=es) h (L:=L) (a:=a) (p:=p) (by omega)
   have hobj:=fun es h=>Pb w hw hr (a:=a) (p:=p) (by omega) (fun s=>MR w kf a d (p++[s])) (fun s hs L es h=>ih (p++[s]) (by simp;omega) L es h) (L:=L) (es:=es) h
   rw[MR];cases hI:QS kf a p<;>cases hN:Jq kf a p<;>rw[hI]at hint<;>rw[hN]at hnone
   all_goals
    refine aQ nb ?_
    conv=>whnf
    repeat'((first|refine st ?_|(refine sq ?_;intro K U)|(refine si ?_;intro A B Y Z)|(refine Y _ _ ?_;clear Z B Y A)|(refine U _ _ ?_;clear U K)|refine⟨nb,?_⟩|fail)<;>conv=>whnf)
    refine hint.use (rest:=[]) (by simpa using hs) ?_;clear hs;rintro r post σ ⟨rfl,es2,hx2,hi2,rfl⟩ hs;rw[List.append_nil]at hs
    conv=>whnf
    repeat'((first|refine st ?_|(refine sq ?_;intro K U)|(refine si ?_;intro A B Y Z)|(refine Y _ _ ?_;clear Z B Y A)|(refine U _ _ ?_;clear U K)|refine⟨nb,?_⟩|clear U K)<;>conv=>whnf)
   rotate_left 2
   ·exact AO ⟨_,⟨rfl,es2,hx2,hi2,rfl⟩,hs⟩
   ·exact AO ⟨_,⟨rfl,es2,hx2,hi2,rfl⟩,hs⟩
   all_goals
    refine(hnone es2 hi2).use (rest:=[]) (by simpa using hs) ?_;clear hs;rintro r post σ ⟨rfl,es3,hx3,hi3,rfl⟩ hs;rw[List.append_nil]at hs
    conv=>whnf
    repeat'((first|refine st ?_|(refine sq ?_;intro K U)|(refine si ?_;intro A B Y Z)|(refine Y _ _ ?_;clear Z B Y A)|(refine U _ _ ?_;clear U K)|refine⟨nb,?_⟩|refine MM ?_|refine G5 ?_|clear U K)<;>conv=>whnf)
   rotate_left 1
   ·exact AO ⟨_,⟨rfl,es3,hx2.trans hx3,hi3,rfl⟩,hs⟩
   ·refine(hobj es3 hi3).use (rest:=[]) (by simpa using hs) ?_
    clear hs;rintro r post σ ⟨rfl,es4,hx4,hi4,rfl⟩ hs;rw[List.append_nil]at hs
    conv=>whnf
    repeat'((first|refine st ?_|(refine sq ?_;intro K U)|(refine si ?_;intro A B Y Z)|(refine Y _ _ ?_;clear Z B Y A)|(refine U _ _ ?_;clear U K)|fail)<;>conv=>whnf)
    exact AO ⟨_,⟨rfl,es4,(hx2.trans hx3).trans hx4,hi4,rfl⟩,hs⟩
abbrev om:V:= .ET 257 (.a [])
theorem bG (w:AM) (hw:Er w) {kf:Int→List Int→Kn} (hr:Hr w kf) {L:Nat} {es:List Cr} (h:Df kf es) :
 Bx Tryz.prog 231 [Rw w (EF w.parents) L] (B3 L es) fun r post=>r=(if ZI w kf then .ret (.t [])else .Bi om)∧post= []:=by
 intro σ hs;refine uV nb ?_
 conv=>whnf
 repeat'((first|refine st ?_|(refine sq ?_;intro K U)|(refine si ?_;intro A B Y Z)|(refine Y _ _ ?_;clear Z B Y A)|(refine U _ _ ?_;clear U K)|fail)<;>conv=>whnf)
 refine FR 3 (fun k (x:List Cr)=>[(3,eI (Bo k))]) (fun k x=>B3 L x) (fun k x=>Df kf x∧ZI w kf=((E8 3).drop k).all fun a=>MR w kf a 2 []) es rfl ⟨h,rfl⟩ hs ?_;clear hs h;rintro k es σ hk ⟨h,hn⟩ hs;have hck:Bo k=k:=Ad (by simp only[Ax];omega);have hl3:(E8 3).length=3:=rfl;rcases Bq (E8 3) hk with⟨a,ha,hlt⟩|hke
 ·rw[drop_cons ha,List.all_cons]at hn
  have hak:a=Bo k:=by
   rw[hck];simp only[E8,Rv,List.getElem?_range (show k<3 from hlt),ZB]at ha;exact(Option.some.inj ha).symm
  subst hak;have hcan:=vr w hw hr (Bo k) 2 [] rfl L es h;cases hC:MR w kf (Bo k) 2 []<;>rw[hC]at hcan hn
  all_goals
   conv=>whnf
   repeat'((first|refine st ?_|(refine sq ?_;intro K U)|(refine si ?_;intro A B Y Z)|(refine Y _ _ ?_;clear Z B Y A)|(refine U _ _ ?_;clear U K)|refine⟨rfl,?_⟩|(constructor<;>intro hc<;>(try rw[hc])<;>(replace hc:=bp hc)<;>(try simp(disch:=omega) only[Ce,wrap64,Ad]at hc)<;>try(exfalso;omega))|fail)<;>conv=>whnf)
   refine hcan.use (rest:=[]) (by simpa using hs) ?_;clear hs;rintro r post σ ⟨rfl,es2,hx2,hi2,rfl⟩ hs;rw[List.append_nil]at hs
   conv=>whnf
   repeat'((first|refine st ?_|(refine si ?_;intro A B Y Z)|(refine Y _ _ ?_;clear Z B Y A)|(refine Z _ _ _ ?_;clear Z B Y A)|(refine U _ _ ?_;clear U K)|refine⟨rfl,?_⟩|refine MM ?_|refine G5 ?_|clear U K)<;>conv=>whnf)
  ·exact C7 ⟨_,⟨by rw[hn];rfl,rfl⟩,hs.less (List.nil_sublist _)⟩
  ·exact⟨by omega,es2,rfl,⟨hi2,by simpa using hn⟩,hs⟩
 ·rw[Bt hke]at hn
  conv=>whnf
  repeat'((first|refine st ?_|(refine sq ?_;intro K U)|(refine si ?_;intro A B Y Z)|(refine Y _ _ ?_;clear Z B Y A)|(refine U _ _ ?_;clear U K)|refine⟨rfl,?_⟩|(constructor<;>intro hc<;>(try rw[hc])<;>(replace hc:=bp hc)<;>(try simp(disch:=omega) only[Ce,wrap64,Ad]at hc)<;>try(exfalso;omega))|clear U K)<;>conv=>whnf)
  exact AO ⟨_,⟨by rw[hn];rfl,rfl⟩,hs.less (List.nil_sublist _)⟩
theorem XN {w:AM} {ls:List Fact} (hw:w.parents.length≤60) (h: ∀x∈ls,He w x):VA ls:=by
 intro l hl;obtain⟨-,hc,hsm,hsh⟩:=KT h;obtain⟨-,hn,hlf⟩:=Gk (h l hl);exact⟨FJ hlf,hsh l hl,fun ho=>by have:=hc l hl ho;omega,hsm l hl⟩
theorem sf {ls:List Fact} (h:Us ls) (a:Int) (p:List Int): -1000000000≤(kn ls a p).low∧(kn ls a p).low≤1000000000:=by
 have key: ∀(ls:List Fact) (k:Kn),Us ls→(-1000000000≤k.low∧k.low≤1000000000)→ -1000000000≤(ls.foldl (C1 a p) k).low∧(ls.foldl (C1 a p) k).low≤1000000000:=by
  intro ls
  induction ls with
  | nil=>intro k _ h;exact h
  | cons l r ih=>
    intro k hs hk;refine ih _ (fun x hx=>hs x (.tail _ hx)) ?_;have hn:=hs l (.head _);unfold C1 Cd DV ct
    repeat' split
    all_goals first
     | exact hk
     | exact hn
     | (simp only;exact hk)
     | (simp only;exact hn)
 exact key ls k0 h ⟨by decide,by decide⟩
theorem Wi {w:AM} {ls:List Fact} (h: ∀x∈ls,He w x):HB w.owner.length ls:=by
 intro l hl s hs;obtain⟨-,hn,-⟩:=Gk (h l hl);rw[DG,BO]at hn;have:=hn.1;simp only[D6,Hl,BO,GL,M8,DU]at this;exact this.2.2.2.2.1.1 s hs
theorem eG {w:AM} (hw:Er w) {ls:List Fact} (h: ∀x∈ls,He w x) (hlen:ls.length<900):Hr w (kn ls):=by
 have hadd:=XN (by have:=hw.1.1;omega) h;obtain⟨-,-,hsm,hsh⟩:=KT h;have hp:=Wi h;refine⟨fun a p=>?_,sf hsm,fun a p hpl=>?_,fun a p s hs=>?_⟩
 ·obtain⟨h1,h2,h3,h4⟩:=aF hadd a p
  exact⟨h1,h2,by omega,by omega⟩
 ·rw[KU hp]
  exact PR hsh hpl
 ·rw[KU hp]at hs
  exact LW hs
theorem rY {w:AM} (hw:Er w) {ls:List Fact} (h: ∀x∈ls,He w x):ZI w (kn ls)=Ij w ls:=by
 obtain⟨-,hc,-,-⟩:=KT h;refine rZ ?_ (fun s h0 h1=>?_) (by have:=hw.1.1;omega) (fun l hl ho=>by have:=hc l hl ho;omega) (Wi h)
 ·exact IX hw.1
 ·obtain⟨o,ho⟩: ∃o,w.owner[s.toNat]? =some o:=⟨_,Fs (by omega)⟩
  have hoI:C0 w s=o:=by simp only[C0,FA,ho];rfl
  rw[hoI];exact hw.2.2 o (Fo ho)
theorem jt {σ:AG} {n:Nat} {x:V} {rest:List At} (hs:Sat σ (.box n [x]::rest)) {Q:AG→Prop} (hq: ∀σ',Sat σ' (.box n [.b false]::rest)→Q σ'):GR Tryz.prog 229 [.p n 0] (some om) σ Q:=by
 refine XE nb ?_
 conv=>whnf
 repeat'((first|refine st ?_|(refine sq ?_;intro K U)|(refine si ?_;intro A B Y Z)|(refine Y _ _ ?_;clear Z B Y A)|(refine U _ _ ?_;clear U K)|refine G4 fun σ hs=>?_|refine GM fun σ hs=>?_|refine q9 rfl ?_|(intro nn hnn;generalize hg:BI _ nn _=σ;refine D8 hg fun hs=>?_;clear hg)|fail)<;>conv=>whnf)
 exact hq _ (hs.less (List.sublist_cons_self _ _))
theorem ju {σ:AG} {n:Nat} {x:V} {rest:List At} (hs:Sat σ (.box n [x]::rest)) {Q:AG→Prop} (hq: ∀σ',Sat σ' (.box n [x]::rest)→Q σ'):GR Tryz.prog 229 [.p n 0] none σ Q:=by
 refine XE nb ?_
 conv=>whnf
 repeat'((first|refine st ?_|(refine sq ?_;intro K U)|(refine si ?_;intro A B Y Z)|(refine Y _ _ ?_;clear Z B Y A)|(refine U _ _ ?_;clear U K)|refine⟨rfl,?_⟩|refine GM fun σ hs=>?_|(intro nn hnn;generalize hg:BI _ nn _=σ;refine D8 hg fun hs=>?_;clear hg)|fail)<;>conv=>whnf)
 exact hq _ (hs.less (List.sublist_cons_self _ _))
attribute [local irreducible] GR
theorem Tg (w:AM) (hw:Er w) (ls:List Fact) (b:Bool) (hl: ∀x∈ls,He w x) (hlen:ls.length<900):Pure Tryz.prog 183 [.rp (wC w (EF w.parents)),.l (EU ls) b] (.b (Ij w ls)):=by
 refine Pure.of ?_;refine uy nb ?_;have hs:=Sn
 conv=>whnf
 repeat'((first|(refine sq ?_;intro K U)|(refine si ?_;intro A B Y Z)|(refine Y _ _ ?_;clear Z B Y A)|(refine U _ _ ?_;clear U K)|(intro nn hnn;generalize hg:BI _ nn _=σ;refine D8 hg fun hs=>?_;clear hg)|fail)<;>conv=>whnf)
 refine(bO w (EF w.parents) ls b (XN (by have:=hw.1.1;omega) hl) hlen).use (rest:=[.box nn [.b false]]) (by simpa using hs) ?_;clear hs;rintro r post σ ⟨L,es,rfl,hinv,rfl⟩ hs;have hwh:=bG w hw (eG hw hl hlen) hinv (L:=L);rw[rY hw hl]at hwh;cases ht:Ij w ls<;>rw[ht]at hwh
 all_goals
  conv=>whnf
  refine hwh.use (rest:=[.box nn [.b false]]) hs ?_;clear hs;rintro r post σ ⟨rfl,rfl⟩ hs
  conv=>whnf
  repeat'((first|refine st ?_|(refine sq ?_;intro K U)|(refine si ?_;intro A B Y Z)|(refine Y _ _ ?_;clear Z B Y A)|(refine Z _ _ _ ?_;clear Z B Y A)|(refine U _ _ ?_;clear U K)|refine G4 fun σ hs=>?_|clear U K)<;>conv=>whnf)
 ·refine jt (rest:=[]) hs fun σ hs=>?_
  conv=>whnf
  repeat'((first|refine ld ?_|fail)<;>conv=>whnf)
  exact AO (by rw[ht];rfl)
 ·refine ju (rest:=[]) (x:= .b true) hs fun σ hs=>?_
  conv=>whnf
  repeat'((first|refine ld ?_|fail)<;>conv=>whnf)
  exact AO (by rw[ht];rfl)
end Go.Gl
namespace Go.Gl
open Go.Proofs
attribute [local irreducible] BQ BJ A5 Ab AQ A4 Ac Af AR Az AW Aa BT Bf Sat An BZ A6 W
def Rq {α S:Type} (stp:α→S→Bool×S) (D:α→S→Prop):List α→S→Prop
 | [],_=>True
 | y::r,s=>D y s∧((stp y s).1=true→Rq stp D r (stp y s).2)
section
variable {α β S:Type} {stp:α→S→Bool×S} {D:α→S→Prop}
theorem Ny: ∀(A B:List α) (s:S),CW stp (A++B) s=if(CW stp A s).1 then CW stp B (CW stp A s).2 else(false,(CW stp A s).2)
 | [],B,s=>by simp[CW]
 | y::r,B,s=>by
   rw[List.cons_append,CW,CW];cases(stp y s).1
   ·rfl
   ·simpa using Ny r B (stp y s).2
theorem TY (l:α) (s:S):CW stp [l] s=stp l s:=by
 rw[CW,CW];rcases stp l s with⟨b,s'⟩;cases b<;>rfl
theorem Q4: ∀ {A B:List α} {s:S},Rq stp D (A++B) s→Rq stp D A s∧((CW stp A s).1=true→Rq stp D B (CW stp A s).2)
 | [],B,s,h=>⟨trivial,fun _=>h⟩
 | y ::r,B,s,h=>by
   obtain⟨h1,h2⟩:=h;rw[Rq,CW];cases hy:(stp y s).1
   ·exact⟨⟨h1,fun h=>(by cases h)⟩,fun h=>(by simp at h)⟩
   ·obtain⟨h3,h4⟩:=Q4 (h2 hy)
    exact⟨⟨h1,fun _=>h3⟩,by simpa using h4⟩
theorem Mj {A:List α}: ∀ {B:List α} {s:S},(∀y∈B,y∈A)→Rq stp D B s→Rq stp (fun y s=>y∈A∧D y s) B s
 | [],_,_,_=>trivial
 | y::r,_,hm,h=>⟨⟨hm y (.head _),h.1⟩,fun hy=>Mj (fun z hz=>hm z (.tail _ hz)) (h.2 hy)⟩
theorem Wl {g:β→α}: ∀ {B:List β} {s:S},Rq stp D (B.map g) s→Rq (fun b s=>stp (g b) s) (fun b s=>D (g b) s) B s
 | [],_,_=>trivial
 | y::r,_,h=>⟨h.1,fun hy=>Wl (h.2 hy)⟩
end
section
variable {S:Type} {stp:List Fact→S→Bool×S} {D:List Fact→S→Prop}
theorem P8 (B:List (List Fact)): ∀(A:List (List Fact)) (s:S),CW stp (Fa A B) s=CW (fun x s=>CW (fun y s=>stp (Ck x y) s) B s) A s
 | [],s=>rfl
 | x::r,s=>by
   have ih:=P8 B r;rw[Fa,List.flatMap_cons,Ny,Ke,CW];simp only[Fa]at ih;rw[ih]
theorem S2 (B:List (List Fact)): ∀ {A:List (List Fact)} {s:S},Rq stp D (Fa A B) s→Rq (fun x s=>CW (fun y s=>stp (Ck x y) s) B s) (fun x s=>Rq (fun y s=>stp (Ck x y) s) (fun y s=>D (Ck x y) s) B s) A s
 | [],_,_=>trivial
 | x::r,s,h=>by
   rw[Fa,List.flatMap_cons]at h;obtain⟨h1,h2⟩:=Q4 h;refine⟨Wl h1,fun hy=>?_⟩;rw[Ke]at h2;exact S2 B (h2 hy)
end
abbrev Ue (l:List Fact) (b:Bool):V:= .l (EU l) b
def PH {S:Type} (x:V) (H:S→List At) (stp:List Fact→S→Bool×S) (D:List Fact→S→Prop):Prop:= ∀b,DD Tryz.prog x (fun l=>Ue l b) H stp D
abbrev SF (n:Nat):V:= .f (.func 225) [] [.p n 0]
theorem YE {f:Fact} (hl:Cu f=true) (c:Bool):I8 (if c then FY f else f)=xF f++[.b c]:=by
 have:=FJ hl;cases c with
 | true=>rfl
 | false=>
   have h5: ¬f.op=5:=by omega
   simp only[I8,Ls,if_false,Ay,if_neg h5]
def WalkC (f:Fact):Prop:= ∀(c:Bool) (S:Type) (fn:Fn) (fi ca:List V) (H:S→List At) (stp:List Fact→S→Bool×S) (D:List Fact→S→Prop) (nW:Nat) (s:S),
 PH (.f fn fi ca) (fun s=> .box nW [SF nW]::H s) stp D→Rq stp D (Bd f c) s→ ∀σ,Sat σ (.box nW [SF nW]::H s)→
  BT Tryz.prog (SF nW) [.a (xF f),.b c,.f fn fi ca] σ fun r σ'=>r= .ret (.b (CW stp (Bd f c) s).1)∧Sat σ' (.box nW [SF nW]::H (CW stp (Bd f c) s).2)
theorem cQ {w:AM} {S:Type} {fn:Fn} {fi ca:List V} {H:S→List At} {stp:List Fact→S→Bool×S} {D:List Fact→S→Prop} (hT:PH (.f fn fi ca) H stp D) {k0 k1:Fact} {c:Bool} (hn0:B6 w k0=true) (hn1:B6 w k1=true) (hv0:lv k0≤100) (hv1:lv k1≤100) {a:List Fact} (ha:a∈Bd k0 c) (fa:Bool) :
 PH (.f (.func 227) [] [.rp [.f fn fi ca],.rp [Ue a fa]]) H (fun y s=>stp (Ck a y) s) (fun y s=>y∈Bd k1 c∧D (Ck a y) s):=by
 rintro b y s ⟨hy,hd⟩ σ hs;refine CZ ?_;show BQ Tryz.prog 227 ([]++[Ue y b]++[.rp [.f fn fi ca],.rp [Ue a fa]]) σ _;have hla:=(Jc k0 (C2 _ hn0) c).2 a ha;have hly:=(Jc k1 (C2 _ hn1) c).2 y hy;have hM:=Mx;refine uY nb ?_
 conv=>whnf
 repeat'((first|refine st ?_|(refine sq ?_;intro K U)|(refine si ?_;intro A B Y Z)|(refine Y _ _ ?_;clear Z B Y A)|(refine U _ _ ?_;clear U K)|refine dr ?_|refine rk ?_ ?_|exact fun s e=>by cases e;rfl|refine Pure.use (YL (w:=w) a y fa b (E0 k0 hn0 c a ha) (E0 k1 hn1 c y hy) (by omega)) ?_|fail)<;>conv=>whnf)
 refine(hT false).use hd hs ?_;clear hs;intro σ hs
 conv=>whnf
 repeat'((first|refine st ?_|(refine Y _ _ ?_;clear Z B Y A)|(refine U _ _ ?_;clear U K)|refine dr ?_|fail)<;>conv=>whnf)
 exact AO ⟨rfl,hs⟩
theorem cR {w:AM} {S:Type} {fn:Fn} {fi ca:List V} {H:S→List At} {stp:List Fact→S→Bool×S} {D:List Fact→S→Prop} {nW:Nat} (hT:PH (.f fn fi ca) (fun s=> .box nW [SF nW]::H s) stp D) {f k0 k1:Fact} (hk:f.kids= [k0,k1]) {c:Bool} (hn0:B6 w k0=true) (hn1:B6 w k1=true) (hv0:lv k0≤100) (hv1:lv k1≤100) (hw1:WalkC k1) :
 PH (.f (.func 226) [] [.p nW 0,.rp (xF f),.rp [.b c],.rp [.f fn fi ca]]) (fun s=> .box nW [SF nW]::H s) (fun a s=>CW (fun y s=>stp (Ck a y) s) (Bd k1 c) s) (fun a s=>a∈Bd k0 c∧Rq (fun y s=>stp (Ck a y) s) (fun y s=>D (Ck a y) s) (Bd k1 c) s):=by
 rintro fa a s ⟨ha,hd⟩ σ hs;refine CZ ?_;show BQ Tryz.prog 226 ([]++[Ue a fa]++[.p nW 0,.rp (xF f),.rp [.b c],.rp [.f fn fi ca]]) σ _;have h1:f.kids[(1:Int).toNat]? =some k1:=by rw[hk];rfl
 refine uZ nb ?_
 conv=>whnf
 repeat'((first|refine st ?_|(refine sq ?_;intro K U)|(refine si ?_;intro A B Y Z)|(refine Y _ _ ?_;clear Z B Y A)|(refine U _ _ ?_;clear U K)|refine dr ?_|refine⟨nb,?_⟩|refine R4 ?_|refine ld ?_|fail)<;>conv=>whnf)
 refine(hw1 c S _ _ _ H _ _ nW s (cQ hT hn0 hn1 hv0 hv1 ha fa) (Mj (fun y hy=>hy) hd) σ hs).mono ?_;clear hs;rintro r σ ⟨rfl,hs⟩
 conv=>whnf
 repeat'((first|refine st ?_|(refine Y _ _ ?_;clear Z B Y A)|(refine U _ _ ?_;clear U K)|refine dr ?_|fail)<;>conv=>whnf)
 exact AO ⟨rfl,hs⟩
set_option maxHeartbeats 2000000 in
theorem db {w:AM} (f:Fact):B6 w f=true→lv f≤100→WalkC f:=by
 induction f using Fact.ind with
 | h f ih=>
   intro hn hv c S fn fi ca H stp D nW s hT hd σ hs;have har:=C2 _ hn
   have hnk: ∀k∈f.kids,B6 w k=true:=by
    rw[DG,BO,GL]at hn;exact hn.2
   have hop:f.op=1∨f.op=5∨Cu f=true∨f.op=6∨f.op=7:=by
    rw[DG,BO]at hn;have h1:=hn.1;simp only[D6,Y4,BO]at h1;rw[Nh];simp only[BO,DU];have h2:=h1.1;split at h2
    ·omega
    ·split at h2
     ·omega
     ·simp only[Bool.or_eq_true,Dp]at h2
      omega
   refine CZ ?_;show BQ Tryz.prog 225 ([]++[.a (xF f),.b c,.f fn fi ca]++[.p nW 0]) σ _;refine ua nb ?_;rw[G2,Hv]at hd;have hcs:=G2 f c;rw[Hv]at hcs;rcases hop with h1|h5|hl|h67
   ·rw[if_pos h1]at hd hcs
    rw[hcs];cases c
    ·rw[if_neg (by decide)]at hd ⊢
     rw[TY]
     conv=>whnf
     repeat'((first|refine st ?_|(refine sq ?_;intro K U)|(refine si ?_;intro A B Y Z)|(refine Y _ _ ?_;clear Z B Y A)|(refine U _ _ ?_;clear U K)|refine⟨rfl,?_⟩|(constructor<;>intro hc<;>(try rw[hc])<;>(replace hc:=bp hc)<;>try(exfalso;omega))|fail)<;>conv=>whnf)
     refine(hT true).use (y:=[]) hd.1 hs ?_;clear hs;intro σ hs
     conv=>whnf
     repeat'((first|refine st ?_|(refine Y _ _ ?_;clear Z B Y A)|(refine U _ _ ?_;clear U K)|clear U K)<;>conv=>whnf)
     exact AO ⟨rfl,hs⟩
    ·rw[if_pos rfl]at hd ⊢
     conv=>whnf
     repeat'((first|refine st ?_|(refine sq ?_;intro K U)|(refine si ?_;intro A B Y Z)|(refine Y _ _ ?_;clear Z B Y A)|(refine U _ _ ?_;clear U K)|refine⟨rfl,?_⟩|(constructor<;>intro hc<;>(try rw[hc])<;>(replace hc:=bp hc)<;>try(exfalso;omega))|clear U K)<;>conv=>whnf)
     exact AO ⟨rfl,hs⟩
   ·obtain⟨k,hk,-⟩:=IG har h5
    have hkm:k∈f.kids:=by rw[hk];exact .head _
    have hvk:lv k≤100:=by
     rw[ND,cw,if_pos h5,hk]at hv;exact hv
    rw[if_neg (by omega),if_pos h5,hk]at hd hcs;have hcs2:Bd f c=Bd k (!c):=hcs;have h0:f.kids[(0:Int).toNat]? =some k:=by rw[hk];rfl
    rw[hcs2]
    conv=>whnf
    repeat'((first|refine st ?_|(refine sq ?_;intro K U)|(refine si ?_;intro A B Y Z)|(refine Y _ _ ?_;clear Z B Y A)|(refine U _ _ ?_;clear U K)|refine dr ?_|refine⟨rfl,?_⟩|refine⟨nb,?_⟩|refine R4 ?_|refine ld ?_|(constructor<;>intro hc<;>(try rw[hc])<;>(replace hc:=bp hc)<;>try(exfalso;omega))|fail)<;>conv=>whnf)
    refine(ih k hkm (hnk k hkm) hvk (!c) S _ _ _ H stp D nW s hT hd σ hs).mono ?_;clear hs;rintro r σ ⟨rfl,hs⟩
    conv=>whnf
    repeat'((first|refine st ?_|(refine Y _ _ ?_;clear Z B Y A)|(refine U _ _ ?_;clear U K)|refine dr ?_|clear U K)<;>conv=>whnf)
    exact AO ⟨rfl,hs⟩
   ·have hlo:=FJ hl
    have hlB:=Q9 f;rw[hl]at hlB;rw[if_neg (by omega),if_neg (by omega),if_neg (by omega)]at hd hcs;have hcs2:Bd f c= [[if c then FY f else f]]:=by rw[hcs];cases c<;>rfl
    rw[←hcs,hcs2]at hd;rw[hcs2,TY]
    have e:Ue [if c then FY f else f] true= .l [xF f++[.b c]] true:=by
     show V.l [I8 (if c then FY f else f)] true=_;rw[YE hl]
    have hst:=(hT true) [if c then FY f else f] s hd.1;simp only[e]at hst
    conv=>whnf
    repeat'((first|refine st ?_|(refine sq ?_;intro K U)|(refine si ?_;intro A B Y Z)|(refine Y _ _ ?_;clear Z B Y A)|(refine U _ _ ?_;clear U K)|refine⟨rfl,?_⟩|refine⟨nb,?_⟩|refine Pure.use hlB ?_|(constructor<;>intro hc<;>(try rw[hc])<;>(replace hc:=bp hc)<;>try(exfalso;omega))|fail)<;>conv=>whnf)
    refine(hst σ hs).mono ?_;clear hs;rintro r σ ⟨rfl,hs⟩
    conv=>whnf
    repeat'((first|refine st ?_|(refine Y _ _ ?_;clear Z B Y A)|(refine U _ _ ?_;clear U K)|clear U K)<;>conv=>whnf)
    exact AO ⟨rfl,hs⟩
   ·obtain⟨k0,k1,hk,-,-⟩:=IF har h67
    have hkm0:k0∈f.kids:=by rw[hk];exact .head _
    have hkm1:k1∈f.kids:=by rw[hk];exact .tail _ (.head _)
    have hlf:Cu f=false:=by rw[Nh,decide_eq_false (show¬f.op≤4 by omega),Bool.and_false]
    have hlB:=Q9 f;rw[hlf]at hlB
    have hvk:lv k0+lv k1≤100:=by
     rw[ND,cw,if_neg (by omega),if_pos h67,hk]at hv;exact hv
    rw[if_neg (by omega),if_neg (by omega),if_pos h67,hk]at hd hcs;have h0:f.kids[(0:Int).toNat]? =some k0:=by rw[hk];rfl
    have h1:f.kids[(1:Int).toNat]? =some k1:=by rw[hk];rfl
    have i0:=ih k0 hkm0 (hnk k0 hkm0) (by omega);have i1:=ih k1 hkm1 (hnk k1 hkm1) (by omega);by_cases hap:(c != (f.op==7))=true
    ·rw [if_pos hap]at hd hcs
     have hcs2:Bd f c=Bd k0 c++Bd k1 c:=hcs;have hd2:Rq stp D (Bd k0 c++Bd k1 c) s:=hd;obtain⟨hd3,hd4⟩:=Q4 hd2;rw[hcs2,Ny];clear hcs hcs2 hd hd2;rcases h67 with h6|h7
     ·have h6b:(f.op==6)=true:=by rw[h6];rfl
      have hct:c=true:=by rw[h6]at hap;cases c<;>simp_all
      subst hct
      conv=>whnf
      repeat'((first|refine st ?_|(refine sq ?_;intro K U)|(refine si ?_;intro A B Y Z)|(refine Y _ _ ?_;clear Z B Y A)|(refine U _ _ ?_;clear U K)|refine dr ?_|refine⟨rfl,?_⟩|refine⟨nb,?_⟩|refine R4 ?_|refine ld ?_|refine MM ?_|refine Pure.use hlB ?_|(rw[h6b])|(constructor<;>intro hc<;>(try rw[hc])<;>(replace hc:=bp hc)<;>try(exfalso;omega))|fail)<;>conv=>whnf)
      refine(i0 true S _ _ _ H stp D nW s hT hd3 σ hs).mono ?_;clear hs;rintro r σ ⟨rfl,hs⟩;generalize CW stp (Bd k0 true) s=x at *;obtain⟨b1,s1⟩:=x;cases b1
      ·conv=>whnf
       repeat'((first|refine st ?_|(refine Y _ _ ?_;clear Z B Y A)|(refine U _ _ ?_;clear U K)|refine dr ?_|clear U K)<;>conv=>whnf)
       exact AO ⟨rfl,hs⟩
      ·conv=>whnf
       repeat'((first|refine st ?_|refine dr ?_|refine⟨nb,?_⟩|refine R4 ?_|refine ld ?_|fail)<;>conv=>whnf)
       refine(i1 true S _ _ _ H stp D nW s1 hT (hd4 rfl) σ hs).mono ?_;clear hs;rintro r σ ⟨rfl,hs⟩
       conv=>whnf
       repeat'((first|refine st ?_|(refine Y _ _ ?_;clear Z B Y A)|(refine U _ _ ?_;clear U K)|refine dr ?_|clear U K)<;>conv=>whnf)
       exact AO ⟨rfl,hs⟩
     ·have h6b:(f.op==6)=false:=by rw[h7];rfl
      have hct:c=false:=by rw[h7]at hap;cases c<;>simp_all
      subst hct
      conv=>whnf
      repeat'((first|refine st ?_|(refine sq ?_;intro K U)|(refine si ?_;intro A B Y Z)|(refine Y _ _ ?_;clear Z B Y A)|(refine U _ _ ?_;clear U K)|refine dr ?_|refine⟨rfl,?_⟩|refine⟨nb,?_⟩|refine R4 ?_|refine ld ?_|refine MM ?_|refine Pure.use hlB ?_|(rw[h6b])|(constructor<;>intro hc<;>(try rw[hc])<;>(replace hc:=bp hc)<;>try(exfalso;omega))|fail)<;>conv=>whnf)
      refine(i0 false S _ _ _ H stp D nW s hT hd3 σ hs).mono ?_;clear hs;rintro r σ ⟨rfl,hs⟩;generalize CW stp (Bd k0 false) s=x at *;obtain⟨b1,s1⟩:=x;cases b1
      ·conv=>whnf
       repeat'((first|refine st ?_|(refine Y _ _ ?_;clear Z B Y A)|(refine U _ _ ?_;clear U K)|refine dr ?_|clear U K)<;>conv=>whnf)
       exact AO ⟨rfl,hs⟩
      ·conv=>whnf
       repeat'((first|refine st ?_|refine dr ?_|refine⟨nb,?_⟩|refine R4 ?_|refine ld ?_|fail)<;>conv=>whnf)
       refine(i1 false S _ _ _ H stp D nW s1 hT (hd4 rfl) σ hs).mono ?_;clear hs;rintro r σ ⟨rfl,hs⟩
       conv=>whnf
       repeat'((first|refine st ?_|(refine Y _ _ ?_;clear Z B Y A)|(refine U _ _ ?_;clear U K)|refine dr ?_|clear U K)<;>conv=>whnf)
       exact AO ⟨rfl,hs⟩
    ·rw[if_neg hap]at hd hcs
     have hcs2:Bd f c=Fa (Bd k0 c) (Bd k1 c):=hcs;have hd2:Rq stp D (Fa (Bd k0 c) (Bd k1 c)) s:=hd;have hd3:=S2 _ hd2;have hT2:=cR hT hk (c:=c) (hnk k0 hkm0) (hnk k1 hkm1) (by omega) (by omega) i1;rw[hcs2,P8];clear hcs hcs2 hd hd2;rcases h67 with h6|h7
     ·have h6b:(f.op==6)=true:=by rw[h6];rfl
      have hct:c=false:=by rw[h6]at hap;cases c<;>simp_all
      subst hct
      conv=>whnf
      repeat'((first|refine st ?_|(refine sq ?_;intro K U)|(refine si ?_;intro A B Y Z)|(refine Y _ _ ?_;clear Z B Y A)|(refine U _ _ ?_;clear U K)|refine dr ?_|refine⟨rfl,?_⟩|refine⟨nb,?_⟩|refine R4 ?_|refine ld ?_|refine G5 ?_|refine Pure.use hlB ?_|(rw[h6b])|(constructor<;>intro hc<;>(try rw[hc])<;>(replace hc:=bp hc)<;>try(exfalso;omega))|fail)<;>conv=>whnf)
      refine(i0 false S _ _ _ H _ _ nW s hT2 (Mj (fun y hy=>hy) hd3) σ hs).mono ?_;clear hs;rintro r σ ⟨rfl,hs⟩
      conv=>whnf
      repeat'((first|refine st ?_|(refine Y _ _ ?_;clear Z B Y A)|(refine U _ _ ?_;clear U K)|refine dr ?_|fail)<;>conv=>whnf)
      exact AO ⟨rfl,hs⟩
     ·have h6b:(f.op==6)=false:=by rw[h7];rfl
      have hct:c=true:=by rw[h7]at hap;cases c<;>simp_all
      subst hct
      conv=>whnf
      repeat'((first|refine st ?_|(refine sq ?_;intro K U)|(refine si ?_;intro A B Y Z)|(refine Y _ _ ?_;clear Z B Y A)|(refine U _ _ ?_;clear U K)|refine dr ?_|refine⟨rfl,?_⟩|refine⟨nb,?_⟩|refine R4 ?_|refine ld ?_|refine G5 ?_|refine Pure.use hlB ?_|(rw[h6b])|(constructor<;>intro hc<;>(try rw[hc])<;>(replace hc:=bp hc)<;>try(exfalso;omega))|fail)<;>conv=>whnf)
      refine(i0 true S _ _ _ H _ _ nW s hT2 (Mj (fun y hy=>hy) hd3) σ hs).mono ?_;clear hs;rintro r σ ⟨rfl,hs⟩
      conv=>whnf
      repeat'((first|refine st ?_|(refine Y _ _ ?_;clear Z B Y A)|(refine U _ _ ?_;clear U K)|refine dr ?_|fail)<;>conv=>whnf)
      exact AO ⟨rfl,hs⟩
theorem ss {w:AM} (f:Fact) (hn:B6 w f=true) (hv:lv f≤100) (c:Bool) {S:Type} {fn:Fn} {fi ca:List V} {H:S→List At} {stp:List Fact→S→Bool×S} {D:List Fact→S→Prop} {s:S} (hT: ∀nW,PH (.f fn fi ca) (fun s=> .box nW [SF nW]::H s) stp D) (hd:Rq stp D (Bd f c) s) (σ:AG) (hs:Sat σ (H s)) :
 BQ Tryz.prog 224 [.f fn fi ca,.rp (xF f),.rp [.b c]] σ fun r σ'=>r= .ret (.t [])∧Sat σ' (H (CW stp (Bd f c) s).2):=by
 refine ub nb ?_
 conv=>whnf
 repeat'((first|refine st ?_|(refine sq ?_;intro K U)|(refine si ?_;intro A B Y Z)|(refine Y _ _ ?_;clear Z B Y A)|(refine U _ _ ?_;clear U K)|refine⟨nb,?_⟩|refine ld ?_|refine G4 fun σ hs=>?_|(intro nn hnn;generalize hg:BI _ nn _=σ;refine D8 hg fun hs=>?_;clear hg)|fail)<;>conv=>whnf)
 refine(db f hn hv c S fn fi ca H stp D nn s (hT nn) hd σ hs).mono ?_;clear hs;rintro r σ ⟨rfl,hs⟩
 conv=>whnf
 repeat'((first|(refine Y _ _ ?_;clear Z B Y A)|fail)<;>conv=>whnf)
 exact AO ⟨rfl,hs.less (List.sublist_cons_self _ _)⟩
theorem cS (f:Fact) (c:Bool):Pure Tryz.prog 182 [.a (xF f),.b c] (.f (.func 224) [] [.rp (xF f),.rp [.b c]]):=by
 refine uz nb ?_;have hs:=Sn
 conv=>whnf
 repeat'((first|refine st ?_|(refine sq ?_;intro K U)|(refine si ?_;intro A B Y Z)|(refine Y _ _ ?_;clear Z B Y A)|(refine U _ _ ?_;clear U K)|fail)<;>conv=>whnf)
 all_goals exact AY rfl
abbrev My (w:AM) (l:List Fact) (s:Bool):Bool×Bool:=if Ij w l then(false,true)else(true,s)
theorem TZ {w:AM}: ∀(cs:List (List Fact)),CW (My w) cs false=(!cs.any (Ij w),cs.any (Ij w))
 | []=>rfl
 | l::r=>by
   rw[CW,List.any_cons];simp only[My];cases h:Ij w l
   ·simpa using TZ r
   ·rfl
theorem Wm {w:AM} {AB:List Fact→Prop}: ∀ {cs:List (List Fact)},(∀l∈cs,AB l)→Rq (My w) (fun l s=>s=false∧AB l) cs false
 | [],_=>trivial
 | l ::r,h=>⟨⟨rfl,h l (.head _)⟩,fun hy=>by
     cases ht:Ij w l
     ·have e:(My w l false).2=false:=by simp[My,ht]
      rw[e];exact Wm fun x hx=>h x (.tail _ hx)
     ·simp[My,ht]at hy⟩
abbrev wD (w:AM) (L:Nat) (E:Env) (ok:FuncId→Array Tmp→Code→Code→Nat→Prop) (nF:Nat):Prop:=
 LP Tryz.prog L E ok (fun(x:List Fact×Bool)=>[Ue x.1 x.2]) (fun s:Bool=>[.box nF [.b s]]) (fun _=>True) (fun x s=>if Ij w x.1 then .stop (.exit 0) true else .go s) (fun x s=>s=false∧(∀y∈x.1,He w y)∧x.1.length<900)
theorem fL {w:AM} (f:Fact) (hn:B6 w f=true) (hv:lv f≤100) {L:Nat} {E:Env} {ok:FuncId→Array Tmp→Code→Code→Nat→Prop} {nF:Nat} (hY:wD w L E ok nF) (σ:AG) (hs:Sat σ [.obj L (.loop .ready E ok),.box nF [.b false]]) :
 BQ Tryz.prog 224 [.f (.yield L) [] [],.rp (xF f),.rp [.b false]] σ fun r σ'=>r= .ret (.t [])∧Sat σ' [.obj L (.loop (if Ua w f then .exit 0 else .ready) E ok),.box nF [.b (Ua w f)]]:=by
 have hg:=ss f hn hv false (fn:= .yield L) (fi:=[]) (ca:=[]) (H:=fun s:Bool=>[.obj L (.loop (if s then .exit 0 else .ready) E ok),.box nF [.b s]]) (stp:=My w) (D:=fun l s=>s=false∧(∀y∈l,He w y)∧l.length<900) (s:=false) (by
  rintro nW b l s ⟨rfl,hl,hlen⟩ σ hs;refine hY.use (y:=(l,b)) (s:=false) ⟨rfl,hl,hlen⟩ (rest:=[.box nW [SF nW]]) (hs.perm (Iq _ _ _ _)) ?_;intro r σ' hq;cases ht:Ij w l
  ·simp only[ht,Ls,if_false]at hq
   obtain⟨rfl,hs'⟩:=hq;have e:My w l false=(true,false):=by simp[My,ht]
   rw[e];exact⟨rfl,hs'.perm (Iq _ _ _ _).symm⟩
  ·simp only[ht,if_true]at hq
   obtain⟨rfl,hs'⟩:=hq;have e:My w l false=(false,true):=by simp[My,ht]
   rw[e]
   exact⟨rfl,hs'.perm (Iq _ _ _ _).symm⟩) (Wm fun l hl=>⟨E0 f hn false l hl,by have:=(Jc f (C2 _ hn) false).2 l hl;omega⟩) σ hs
 rw[TZ]at hg;exact hg
theorem vt (w:AM) (hw:Er w) (f:Fact) (hn:B6 w f=true) (hv:lv f≤100):Pure Tryz.prog 141 [.rp (wC w (EF w.parents)),.a (xF f)] (.b (Ua w f)):=by
 refine Pure.of ?_;refine vU nb ?_;have hs:=Sn
 conv=>whnf
 repeat'((first|refine st ?_|(refine sq ?_;intro K U)|(refine si ?_;intro A B Y Z)|(refine Y _ _ ?_;clear Z B Y A)|(refine U _ _ ?_;clear U K)|refine⟨nb,?_⟩|refine G4 fun σ hs=>?_|refine Pure.use (cS _ _) ?_|(intro nn hnn;generalize hg:BI _ nn _=σ;refine D8 hg fun hs=>?_;clear hg)|fail)<;>conv=>whnf)
 rename_i _ nF hnF _ _ _ _;refine BQ.mono (fL (w:=w) f hn hv (L:=nn) (nF:=nF) ?_ σ hs) ?_
 ·refine L6 (fun y=>rfl) ?_
  clear hs hnn hnF;rintro⟨l,b⟩ s ⟨rfl,hl,hlen⟩ rest σ hs;dsimp only at hl hlen;have htg:=Tg w hw l b hl hlen;dsimp only;cases ht:Ij w l<;>rw[ht]at htg
  ·conv=>whnf
   repeat'((first|refine st ?_|(refine sq ?_;intro K U)|(refine si ?_;intro A B Y Z)|(refine Y _ _ ?_;clear Z B Y A)|(refine U _ _ ?_;clear U K)|refine Pure.use htg ?_|clear U K)<;>conv=>whnf)
   intro hn;exact Sw (H:=fun s:Bool=>[.box nF [.b s]]) (J:=fun _=>True) (s:=false) rfl hs hn
  ·conv=>whnf
   repeat'((first|refine st ?_|(refine sq ?_;intro K U)|(refine si ?_;intro A B Y Z)|(refine Y _ _ ?_;clear Z B Y A)|(refine U _ _ ?_;clear U K)|refine G4 fun σ hs=>?_|refine Pure.use htg ?_|clear U K)<;>conv=>whnf)
   intro hn;exact VK (H:=fun s:Bool=>[.box nF [.b s]]) (J:=fun _=>True) (s:=true) (st:= .exit 0) rfl hs hn
 ·clear hs hnn hnF
  cases hp:Ua w f
  ·rintro r σ ⟨rfl,hs⟩
   refine Gh hs fun σ hs=>?_
   conv=>whnf
   repeat'((first|refine st ?_|(refine sq ?_;intro K U)|(refine si ?_;intro A B Y Z)|(refine Y _ _ ?_;clear Z B Y A)|(refine U _ _ ?_;clear U K)|refine ld ?_|fail)<;>conv=>whnf)
   exact AO (by rw[hp])
  ·rintro r σ ⟨rfl,hs⟩
   refine VO hs fun σ hs=>?_
   conv=>whnf
   repeat'((first|refine st ?_|(refine sq ?_;intro K U)|(refine si ?_;intro A B Y Z)|(refine Y _ _ ?_;clear Z B Y A)|(refine U _ _ ?_;clear U K)|refine ld ?_|fail)<;>conv=>whnf)
   exact AO (by rw[hp])
theorem r9 (f:Fact):Pure Tryz.prog 143 [.a (xF f)] (.a (xF (FY f))):=by
 refine vS nb ?_;have hs:=Sn
 conv=>whnf
 repeat'((first|refine st ?_|(refine sq ?_;intro K U)|(refine si ?_;intro A B Y Z)|(refine Y _ _ ?_;clear Z B Y A)|(refine U _ _ ?_;clear U K)|refine⟨nb,?_⟩|refine ld ?_|refine sn fun σ hs=>?_|(intro nn hnn;generalize hg:BI _ nn _=σ;refine al hg fun hs=>?_;clear hg)|fail)<;>conv=>whnf)
 refine Dj (.a (.cons (.refl _) (.cons (.refl _) (.cons RJ (.cons (.refl _) (.cons (.refl _) (.cons ?_ .nil)))))));refine .l (fun h=>by cases h) ?_;simp only[FY,Fact.kids,List.map,CO];exact Ig _
theorem v8 (f g:Fact):Pure Tryz.prog 142 [.a (xF f),.a (xF g)] (.a (xF (Ot f g))):=by
 refine vT nb ?_;have hs:=Sn
 conv=>whnf
 repeat'((first|refine st ?_|(refine sq ?_;intro K U)|(refine si ?_;intro A B Y Z)|(refine Y _ _ ?_;clear Z B Y A)|(refine U _ _ ?_;clear U K)|refine⟨nb,?_⟩|refine ld ?_|refine sn fun σ hs=>?_|(intro nn hnn;generalize hg:BI _ nn _=σ;refine al hg fun hs=>?_;clear hg)|fail)<;>conv=>whnf)
 refine Dj (.a (.cons (.refl _) (.cons (.refl _) (.cons RJ (.cons (.refl _) (.cons (.refl _) (.cons ?_ .nil)))))));refine .l (fun h=>by cases h) ?_;simp only[Ot,Fact.kids,List.map,CO];exact Ig _
theorem Vd (w:AM) (hw:Er w) (a b:Fact) (ha:B6 w a=true) (hb:B6 w b=true) (hl:lv a+lv b≤100):Pure Tryz.prog 110 [.rp (wC w (EF w.parents)),.a (xF a),.a (xF b)] (.b (R6 w a b)):=by
 have hcan:=vt w hw (Ot a (FY b)) (S3 ha hb) (by rw[sW];exact hl);refine vd nb ?_;have hs:=Sn
 conv=>whnf
 repeat'((first|refine st ?_|(refine sq ?_;intro K U)|(refine si ?_;intro A B Y Z)|(refine Y _ _ ?_;clear Z B Y A)|(refine U _ _ ?_;clear U K)|refine dr ?_|refine rk ?_ ?_|exact fun s e=>by cases e;rfl|refine⟨nb,?_⟩|refine Pure.use (r9 _) ?_|refine Pure.use (v8 _ _) ?_|refine Pure.use hcan ?_|fail)<;>conv=>whnf)
 all_goals exact AY rfl
theorem Yy (w:AM) (hw:Er w) (a b:Fact) (ha:GY w a=true) (hb:GY w b=true) (hna:B6 w a=true) (hnb:B6 w b=true) (hl:lv a+lv b≤100):Pure Tryz.prog 76 [.a (CY w),.a (xF a),.a (xF b)] (.t [.b (R6 w a b),eI 0]):=by
 have hrd: ∀f,Pure Tryz.prog 109 [.a (CY w),.l [xF a,xF b] f] (.t [.rp (wC w (EF w.parents)),.b true]):=fun f=>by
  have:=Wc w hw [a,b] f (by simp);rw[show([a,b].all (Js w))=true by simp[W6,ha,hb]]at this;simpa[CO]using this
 have hip:=Vd w hw a b hna hnb hl;refine yX nb ?_;have hs:=Sn
 conv=>whnf
 repeat'((first|refine st ?_|(refine sq ?_;intro K U)|(refine si ?_;intro A B Y Z)|(refine Y _ _ ?_;clear Z B Y A)|(refine U _ _ ?_;clear U K)|refine⟨nb,?_⟩|refine G5 ?_|refine Pure.use (hrd _) ?_|refine Pure.use hip ?_|fail)<;>conv=>whnf)
 all_goals exact AY rfl
attribute [local irreducible] GR
def szP (p:Prog) (nO:Nat) (r:R) (post:List At):Prop:=
 match Br p with
 | some s=>r= .ret (.t [])∧ ∃v,post= [.box nO [v],.own v 1 (iL s)]
 | none=>r= .Bi DZ∧ ∃v s,post= [.box nO [v],.own v 1 (iL s)]
theorem Xv (p:Prog) (nO:Nat):Bx Tryz.prog 162 [.rp (Bz p),.p nO 0] [.box nO [.l [] true]] (szP p nO):=fun σ hs=>
 BQ.mono (bT p nO σ hs) fun r σ' hq=>by
  unfold wG at hq;unfold szP;cases h:Br p with
  | some s=>
    rw[h]at hq;obtain⟨h1,v,h2⟩:=hq;exact⟨_,⟨h1,v,rfl⟩,h2⟩
  | none=>
    rw[h]at hq;obtain⟨h1,v,s,h2⟩:=hq;exact⟨_,⟨h1,v,s,rfl⟩,h2⟩
theorem jv {σ:AG} {n:Nat} {x:V} {rest:List At} (hs:Sat σ (.box n [x]::rest)) {Q:AG→Prop} (hq: ∀σ',Sat σ' (.box n [.b false]::rest)→Q σ'):GR Tryz.prog 207 [.p n 0] (some DZ) σ Q:=by
 refine XF nb ?_
 conv=>whnf
 repeat'((first|refine st ?_|(refine sq ?_;intro K U)|(refine si ?_;intro A B Y Z)|(refine Y _ _ ?_;clear Z B Y A)|(refine U _ _ ?_;clear U K)|refine G4 fun σ hs=>?_|refine GM fun σ hs=>?_|refine G5 ?_|refine q9 rfl ?_|(intro nn hnn;generalize hg:BI _ nn _=σ;refine D8 hg fun hs=>?_;clear hg)|fail)<;>conv=>whnf)
 exact hq _ (hs.less (List.sublist_cons_self _ _))
theorem jw {σ:AG} {n:Nat} {x:V} {rest:List At} (hs:Sat σ (.box n [x]::rest)) {Q:AG→Prop} (hq: ∀σ',Sat σ' (.box n [x]::rest)→Q σ'):GR Tryz.prog 207 [.p n 0] none σ Q:=by
 refine XF nb ?_
 conv=>whnf
 repeat'((first|refine st ?_|(refine sq ?_;intro K U)|(refine si ?_;intro A B Y Z)|(refine Y _ _ ?_;clear Z B Y A)|(refine U _ _ ?_;clear U K)|refine G5 ?_|fail)<;>conv=>whnf)
 exact hq _ hs
theorem YX (p:Prog) (nO:Nat):Bx Tryz.prog 161 [.f (.func 162) [] [.rp (Bz p),.p nO 0]] [.box nO [.l [] true]] fun r post=>r= .ret (.b (Br p).isSome)∧ ∃v s,post= [.box nO [v],.own v 1 (iL s)]∧(Br p=none∨Br p=some s):=by
 intro σ hs;refine vN nb ?_
 conv=>whnf
 repeat'((first|(refine sq ?_;intro K U)|(refine si ?_;intro A B Y Z)|(refine Y _ _ ?_;clear Z B Y A)|(refine U _ _ ?_;clear U K)|(intro nn hnn;generalize hg:BI _ nn _=σ;refine D8 hg fun hs=>?_;clear hg)|fail)<;>conv=>whnf)
 refine CZ ?_;refine(Xv p nO).use (rest:=[.box nn [.b false]]) (hs.perm (.swap _ _ _)) ?_;clear hs hnn;rintro r post σ hq hs;unfold szP at hq;cases h:Br p with
 | none=>
   rw[h]at hq;obtain⟨rfl,v,s,rfl⟩:=hq
   conv=>whnf
   repeat'((first|(refine Z _ _ _ ?_;clear Z B Y A)|clear U K)<;>conv=>whnf)
   refine jv (rest:=[.box nO [v],.own v 1 (iL s)]) (hs.perm List.perm_append_comm) fun σ hs=>?_
   conv=>whnf
   repeat'((first|refine ld ?_|fail)<;>conv=>whnf)
   exact AO ⟨_,⟨by rw[h];rfl,v,s,rfl,.inl h⟩,hs.less (List.sublist_cons_self _ _)⟩
 | some s=>
   rw[h]at hq;obtain⟨rfl,v,rfl⟩:=hq
   conv=>whnf
   repeat'((first|refine st ?_|(refine sq ?_;intro K U)|(refine si ?_;intro A B Y Z)|(refine Y _ _ ?_;clear Z B Y A)|(refine U _ _ ?_;clear U K)|refine G4 fun σ hs=>?_|fail)<;>conv=>whnf)
   replace hs:Sat σ ([.box nO [v],.own v 1 (iL s)]++[.box nn [.b true]]):=hs;refine jw (x:= .b true) (rest:=[.box nO [v],.own v 1 (iL s)]) (hs.perm List.perm_append_comm) fun σ hs=>?_
   conv=>whnf
   repeat'((first|refine ld ?_|fail)<;>conv=>whnf)
   exact AO ⟨_,⟨by rw[h];rfl,v,s,rfl,.inr h⟩,hs.less (List.sublist_cons_self _ _)⟩
theorem bU (p:Prog):Bx Tryz.prog 137 [.a (Bz p)] [] fun r post=> ∃v s,r= .ret (.t [v,.b (Br p).isSome])∧post= [.own v 1 (iL s)]∧(Br p=none∨Br p=some s):=by
 intro σ hs;refine vY nb ?_
 conv=>whnf
 repeat'((first|(refine sq ?_;intro K U)|(refine si ?_;intro A B Y Z)|(refine Y _ _ ?_;clear Z B Y A)|(refine U _ _ ?_;clear U K)|(intro nn hnn;generalize hg:BI _ nn _=σ;refine D8 hg fun hs=>?_;clear hg)|fail)<;>conv=>whnf)
 refine(YX p nn).use (rest:=[]) (by simpa using hs) ?_;clear hs;rintro r post σ ⟨rfl,v,s,rfl,hl⟩ hs
 conv=>whnf
 repeat'((first|refine st ?_|(refine sq ?_;intro K U)|(refine si ?_;intro A B Y Z)|(refine Y _ _ ?_;clear Z B Y A)|(refine U _ _ ?_;clear U K)|refine ld ?_|fail)<;>conv=>whnf)
 exact AO ⟨_,⟨v,s,rfl,rfl,hl⟩,hs.less (.cons _ (.cons₂ _ (List.nil_sublist _)))⟩
theorem cr (p:Prog):Pure Tryz.prog 107 [.a (Bz p)] (eI (if(Br p).isSome then 0 else 2)):=by
 refine Pure.of ?_;have hz:=bU p;cases h:(Br p).isSome<;>rw[h]at hz
 all_goals
  refine vj nb ?_;have hs:=Sn
  conv=>whnf
  repeat'((first|refine st ?_|(refine sq ?_;intro K U)|(refine si ?_;intro A B Y Z)|(refine Y _ _ ?_;clear Z B Y A)|(refine U _ _ ?_;clear U K)|refine⟨nb,?_⟩|fail)<;>conv=>whnf)
  refine hz.use (rest:=[]) (by simpa using hs) ?_;clear hs;rintro r post σ ⟨v,s,rfl,rfl,-⟩ hs
  conv=>whnf
  repeat'((first|refine st ?_|(refine sq ?_;intro K U)|(refine si ?_;intro A B Y Z)|(refine Y _ _ ?_;clear Z B Y A)|(refine U _ _ ?_;clear U K)|refine MM ?_|refine G5 ?_|clear U K)<;>conv=>whnf)
  exact AO rfl
theorem yO {p:Prog} (h:(Br p).isSome=true):CX p.AU≤40:=by
 obtain⟨hh,-⟩:=Gw h;simp only[FE,BO,DU]at hh;exact(KX hh.1).2.1
theorem vw {p:Prog} (h:(Br p).isSome=true):p.AU.length≤10:=by
 obtain⟨hh,-⟩:=Gw h;simp only[FE,BO,DU]at hh;exact(KX hh.1).2.2
theorem kz {p:Prog} (h:(Br p).isSome=true):Er (Ar p):=by
 obtain⟨hh,-⟩:=Gw h;simp only[FE,BO,DU]at hh;exact(KX hh.1).1
theorem kG (p:Prog):Pure Tryz.prog 71 [.a (Bz p)] (if(Br p).isSome then .t [.a (CY (Ar p)),eI 0]else .t [.a [.l [] true,.l [] true],eI 2]):=by
 have hz:=cr p;have hM:=Mx;cases h:(Br p).isSome<;>rw[h]at hz
 ·simp only[Ls,if_false]at hz ⊢
  refine og nb ?_;have hs:=Sn
  conv=>whnf
  repeat'((first|refine st ?_|(refine sq ?_;intro K U)|(refine si ?_;intro A B Y Z)|(refine Y _ _ ?_;clear Z B Y A)|(refine U _ _ ?_;clear U K)|refine⟨rfl,?_⟩|refine⟨nb,?_⟩|refine ld ?_|refine GM fun σ hs=>?_|refine Pure.use hz ?_|(constructor<;>intro hc<;>(try rw[hc])<;>(replace hc:=bp hc)<;>try(exfalso;omega))|(intro nn hnn;generalize hg:BI _ nn _=σ;refine D8 hg fun hs=>?_;clear hg)|clear U K)<;>conv=>whnf)
  all_goals exact AY rfl
 ·simp only[if_true]at hz ⊢
  have hm:=yO h;have hc10:=vw h;refine og nb ?_;have hs:=Sn
  conv=>whnf
  repeat'((first|refine st ?_|(refine sq ?_;intro K U)|(refine si ?_;intro A B Y Z)|(refine Y _ _ ?_;clear Z B Y A)|(refine U _ _ ?_;clear U K)|refine⟨rfl,?_⟩|refine⟨nb,?_⟩|refine ld ?_|refine GM fun σ hs=>?_|refine Pure.use hz ?_|refine Pure.use (Sd p (by omega) (by omega)) ?_|(constructor<;>intro hc<;>(try rw[hc])<;>(replace hc:=bp hc)<;>(try simp(disch:=omega) only[Ce,wrap64,Ad]at hc)<;>try(exfalso;omega))|(intro nn hnn;generalize hg:BI _ nn _=σ;refine D8 hg fun hs=>?_;clear hg)|fail)<;>conv=>whnf)
  all_goals exact AY rfl
end Go.Gl
namespace Go.Gl
open Go.Proofs
attribute [local irreducible] BQ BJ A5 Ab AQ A4 Ac Af AR Az AW Aa BT Bf Sat An BZ A6 W
abbrev pI (p:Int×Int):List V:=[eI p.1,eI p.2]
abbrev pP (l:List (Int×Int)):List (List V):=l.map pI
theorem U0:GX pI 2:=fun x=>⟨rfl,fun v hv=>by
 simp only[pI,G3,List.not_mem_nil,or_false]at hv
 rcases hv with rfl|rfl<;>rfl⟩
def Uf (p:Prog) (g:Int):Bool:=decide (0≤g)&&decide (g<(p.EH.length:Int))
def PB (k:Int):Bool:=decide (1≤k)&&decide (k≤4)
def I5 (n:Nat) (f:Nat→Nat→Bool) (i:Nat):List (Int×Int):=((List.range n).filter (f i)).map fun(j:Nat)=>((i:Int),(j:Int))
def GB (n:Nat) (f:Nat→Nat→Bool):List (Int×Int):=(List.range n).flatMap (I5 n f)
def GO (p:Prog) (gen kind:Int) (i j:Nat):Bool:=(Ct p i).gen==gen&&((Ct p i).kind==kind&&(E9 p i j&&Cp p i j))
def Dr (p:Prog) (gen kind:Int):List (Int×Int)×Int:=if(Br p).isSome&&(Uf p gen&&PB kind)then(GB p.methods.length (GO p gen kind),0)else([],2)
theorem Gz (n:Nat) (f:Nat→Nat→Bool) (k:Nat):(List.range (k+1)).flatMap (I5 n f)=(List.range k).flatMap (I5 n f)++I5 n f k:=by
 rw[List.range_succ,List.flatMap_append];simp
def Ky (f:Nat→Nat→Bool) (i k:Nat):List (Int×Int):=((List.range k).filter (f i)).map fun(j:Nat)=>((i:Int),(j:Int))
theorem IW (f:Nat→Nat→Bool) (i k:Nat):Ky f i (k+1)=Ky f i k++(if f i k then [((i:Int),(k:Int))]else []):=by
 rw[Ky,List.range_succ,List.filter_append,List.map_append,Ky];cases h:f i k<;>simp[h]
theorem Q3 (f:Nat→Nat→Bool) (i k:Nat):(Ky f i k).length≤k:=by
 rw[Ky,Ce];exact Nat.le_trans (List.length_filter_le _ _) (by simp)
theorem IA (n:Nat) (f:Nat→Nat→Bool) (k:Nat):((List.range k).flatMap (I5 n f)).length≤k*n:=by
 induction k with
 | zero=>simp
 | succ k ih=>
   rw[Gz,UE,Nat.succ_mul];have:=Q3 f k n;have e:I5 n f k=Ky f k n:=rfl;rw[e];omega
def O5 (p:Prog) (gen:Int) (i j:Nat):Bool:=decide (i<j)&&((Ct p i).gen==gen&&(E9 p i j&&(EA p i j&&EA p j i)))
def Hq (p:Prog) (gen:Int):List (Int×Int)×Int:=if(Br p).isSome&&Uf p gen then(GB p.methods.length (O5 p gen),0)else([],2)
abbrev rkC (p:Prog) (L:Nat):List V:=Bz p++(CY (Ar p)++[.m L])
abbrev Kw (p:Prog) (L:Nat):V:= .rp (rkC p L)
abbrev kM (x:Int×Int):V:= .a [eI x.1,eI x.2]
def I4 (p:Prog) (M:List (Int×Int)):List (V×V):=M.map fun x=>(kM x,.b (EA p x.1 x.2))
theorem Ni (p:Prog) (M:List (Int×Int)): ∀kv∈I4 p M,BM (.a [.i64,.i64]) kv.1=true:=by
 intro kv h;obtain⟨e,_,rfl⟩:=Oe.1 h;rfl
theorem ku (x y:Int×Int):DX (kM x) (kM y)=(x==y):=by
 obtain⟨a,b⟩:=x;obtain⟨c,d⟩:=y;have e:DX (kM (a,b)) (kM (c,d))=(a==c&&b==d):=by simp[DX,Bn,kM]
 rw[e];rfl
theorem S7 (p:Prog) (x:Int×Int): ∀(M:List (Int×Int)),CR (kM x) (I4 p M)=if M.contains x then some (.b (EA p x.1 x.2))else none
 | []=>rfl
 | y ::r=>by
   rw[I4,List.map_cons,CR,ku,List.contains_cons];cases h:x==y
   ·rw[cond_false,Bool.false_or]
    exact S7 p x r
   ·rw[cond_true,Bool.true_or,if_pos rfl]
    have:x=y:=by simpa using h
    rw[this]
theorem Wr (p:Prog) (x:Int×Int): ∀(M:List (Int×Int)),M.contains x=false→DW (kM x) (.b (EA p x.1 x.2)) (I4 p M)=I4 p (M++[x])
 | [],_=>rfl
 | y::r,h=>by
   rw[List.contains_cons,Bool.or_eq_false_iff]at h;have ih:=Wr p x r h.2;simp only[I4]at ih;rw[I4,List.map_cons,DW,ku,h.1,cond_false,ih];rfl
theorem Sx (p:Prog):Bx Tryz.prog 42 [.a (Bz p)] [] fun r post=>if(Br p).isSome then∃L,r= .ret (Kw p L)∧post= [.map L []]else r= .ret .pn∧post= []:=by
 intro σ hs;have hw:=kG p;cases h:(Br p).isSome<;>rw[h]at hw
 ·simp only[Ls,if_false]at hw ⊢
  refine oj nb ?_
  conv=>whnf
  repeat'((first|refine st ?_|(refine sq ?_;intro K U)|(refine si ?_;intro A B Y Z)|(refine Y _ _ ?_;clear Z B Y A)|(refine U _ _ ?_;clear U K)|refine⟨rfl,?_⟩|refine⟨nb,?_⟩|refine GM fun σ hs=>?_|refine Pure.use hw ?_|(constructor<;>intro hc<;>(try rw[hc])<;>(replace hc:=bp hc)<;>try(exfalso;omega))|(intro nn hnn;generalize hg:BI _ nn _=σ;refine D8 hg fun hs=>?_;clear hg)|clear U K)<;>conv=>whnf)
  exact AO ⟨_,⟨rfl,rfl⟩,hs.less (List.nil_sublist _)⟩
 ·simp only[if_true]at hw ⊢
  refine oj nb ?_
  conv=>whnf
  repeat'((first|refine st ?_|(refine sq ?_;intro K U)|(refine si ?_;intro A B Y Z)|(refine Y _ _ ?_;clear Z B Y A)|(refine U _ _ ?_;clear U K)|refine⟨rfl,?_⟩|refine⟨nb,?_⟩|refine ld ?_|refine GM fun σ hs=>?_|refine Pure.use hw ?_|(constructor<;>intro hc<;>(try rw[hc])<;>(replace hc:=bp hc)<;>(try simp(disch:=omega) only[Ce,wrap64,Ad]at hc)<;>try(exfalso;omega))|(intro nn hnn;generalize hg:BI _ nn _=σ;refine D8 hg fun hs=>?_;clear hg)|fail)<;>conv=>whnf)
  exact AO ⟨_,⟨nn,rfl,rfl⟩,hs.less (.cons₂ _ (List.nil_sublist _))⟩
theorem XL (p:Prog) (L:Nat) (m n:Int) (hm:CL p m=true) (hn:CL p n=true):Pure Tryz.prog 44 [Kw p L,eI m,eI n] (.b (E9 p m n)):=by
 refine Pure.fit (by kernel_rfl) fun hf=>?_
 have hxm:=EM hm;have hxn:=EM hn;simp only[CL,BO,DU]at hm hn;refine yd nb ?_;have hs:=Sn
 conv=>whnf
 repeat'((first|refine st ?_|(refine sq ?_;intro K U)|(refine si ?_;intro A B Y Z)|(refine Y _ _ ?_;clear Z B Y A)|(refine U _ _ ?_;clear U K)|refine dr ?_|refine rk ?_ ?_|exact fun s e=>by cases e;rfl|refine⟨rfl,?_⟩|refine⟨nb,?_⟩|refine Y7 ?_|refine ld ?_|refine GM fun σ hs=>?_|(constructor<;>intro hc<;>(try rw[hc])<;>(replace hc:=bp hc))|(intro nn hnn;generalize hg:BI _ nn _=σ;refine D8 hg fun hs=>?_;clear hg)|fail)<;>conv=>whnf)
 all_goals exact AY (by simp[E9, *])
theorem W5 {p:Prog} (h:(Br p).isSome=true): ∀x∈p.methods,GY (Ar p) x.fact=true:=fun x hx=>by
 have:=(Gw h).2 x hx;simp only[V3,BO]at this;exact this.2.2.2.2.1
end Go.Gl
